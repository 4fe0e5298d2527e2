/- Opening a row's slice of strings. -/
import Derived.Test.YtocpdhbkfgolfaaDoorRows
import Derived.Test.YtocpdhbkfgolfaaDoorPure0
import Derived.SliceStrings
import Derived.WalkKit
import Derived.ProofKit
import Derived.OpenShut
import Derived.ShutString
import Derived.ChangeOld
namespace Go.Proofs.YtocpdhbkfgolfaaDoor.Op
open Go Go.RowKit Go.ChangeShapes Go.WideShapes Go.Proofs Go.Proofs.YtocpdhbkfgolfaaDoor Go.Proofs.YtocpdhbkfgolfaaDoorW.PrintWords
set_option linter.unusedVariables false
set_option linter.unusedSimpArgs false

theorem bulk_append {H : Type} (l r : List (DataW H)) : Rows.uptoBulkAll (l ++ r) = Rows.uptoBulkAll l + Rows.uptoBulkAll r := by
  induction l with
  | nil => simp [Rows.uptoBulkAll]
  | cons x l ih => simp only [List.cons_append, Rows.uptoBulkAll, ih]; omega
theorem bulk_strs {H : Type} : ∀ l : List ByteArray, Rows.uptoBulkAll (strs l : List (DataW H)) = (l.map fun s => s.size + 1).sum
  | [] => rfl
  | s :: l => by
    have := bulk_strs (H := H) l
    simp only [strs, List.map_cons, Rows.uptoBulkAll, Rows.uptoBulk, List.sum_cons] at *
    rw [this, ← Sp.size_eq]
theorem sum_mem {s : ByteArray} : ∀ {l : List ByteArray}, s ∈ l → s.size + 1 ≤ (l.map fun s => s.size + 1).sum
  | t :: l, h => by
    rw [List.map_cons, List.sum_cons]
    rcases List.mem_cons.1 h with rfl | h
    · omega
    · have := sum_mem h; omega
theorem sum_len : ∀ l : List ByteArray, l.length ≤ (l.map fun s => s.size + 1).sum
  | [] => Nat.le_refl _
  | t :: l => by have := sum_len l; rw [List.map_cons, List.sum_cons, List.length_cons]; omega

theorem open_strs {H : Type} {enc : TypeId × Value → H} {P : Program} {W : World} {base : Nat} {spare : Nat → Bool} {held : Bool} {t e : TypeId} {a : Option Addr} {len cap : Nat} {d : DataW H} {ps : List MemPlace}
    (ht : P.underlying t = some (.slice e)) (he : P.underlying e = some .string) (hc : P.cellsOf e = 1) (h : DataW.Trod enc P W base spare held t (.slice a len cap) d ps) (hsp : ∀ b, spare b = true) :
    ∃ l : List ByteArray, l.length = len ∧ Kd.C Kd.string W a l.length l ∧ l.length ≤ cap ∧ (l.map fun s => s.size + 1).sum + 1 ≤ Rows.uptoBulk d := by
  obtain ⟨fuel, hf⟩ := h
  rcases open_strings ht he hc hf with ⟨hcs, hd⟩ | ⟨x, l, c, ss, hcs, _, hl, hm, hz, hx, hcell, hw⟩
  · simp [Value.cells] at hcs
    obtain ⟨rfl, rfl, rfl⟩ := hcs
    obtain ⟨rfl, _⟩ := Prod.mk.inj hd
    exact ⟨[], rfl, Kd.C_of_reads (d := ByteArray.empty) ⟨rfl, by simp, fun h => absurd h (by simp)⟩, by simp, by simp [Rows.uptoBulk]⟩
  · simp [Value.cells] at hcs
    obtain ⟨rfl, rfl, rfl⟩ := hcs
    obtain ⟨rfl, _⟩ := Prod.mk.inj hx
    have hlen : (ss.take len).length = len := by
      rw [List.length_take]
      rw [hsp, if_pos rfl] at hz
      omega
    refine ⟨ss.take len, hlen, ?_, by omega, ?_⟩
    · rw [hlen]
      refine Kd.C_of_reads (d := ByteArray.empty) ⟨hlen, by unfold maxLen at hm; omega, fun hn => ⟨x, rfl, fun j hj => ?_⟩⟩
      have hjs : j < ss.length := by rw [List.length_take] at hlen; omega
      have := hcell j hjs
      rw [this]
      simp [List.getD_eq_getElem?_getD, List.getElem?_take, hj]
    · rw [Rows.uptoBulk, bulk_strs]
      omega
end Go.Proofs.YtocpdhbkfgolfaaDoor.Op
