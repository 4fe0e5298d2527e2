/- The reference of layers 3 and 4: names and paths, as plain functions. -/
import Derived.Test.YtocpdhbkfgolfaaDoorPureR04
import Derived.Test.YtocpdhbkfgolfaaDoorX3
import Derived.Test.YtocpdhbkfgolfaaDoorX3
namespace Go.Proofs.YtocpdhbkfgolfaaDoor.Pu
open Go Go.RowKit Go.Proofs Go.Proofs.YtocpdhbkfgolfaaDoor Go.Proofs.YtocpdhbkfgolfaaDoorW.PrintWords Go.Proofs.YtocpdhbkfgolfaaDoor.Ext Go.Proofs.YtocpdhbkfgolfaaDoor.X
set_option linter.unusedVariables false
set_option linter.unusedSimpArgs false

def Up (x : List UInt8) : Prop := x ≠ [46, 46]
theorem climbs_id (L : List (List UInt8)) (h : ∀ x ∈ L, Up x) : Sp.climbs L = L := by
  have key : ∀ (L out : List (List UInt8)), (∀ x ∈ L, Up x) → L.foldl Sp.climb out = out ++ L := by
    intro L
    induction L with
    | nil => intro out _; simp
    | cons x L ih =>
      intro out h
      rw [List.foldl_cons, Sp.climb, if_neg (h x List.mem_cons_self), ih _ (fun y hy => h y (List.mem_cons_of_mem _ hy))]
      simp
  simpa [Sp.climbs] using key L [] h
theorem r03_check_l0 (s : ByteArray) (hs : s.size ≤ 64) : ∀ (d i : Nat), i + d = s.size → (47 ∉ s.data.toList.take i ∧ 0 ∉ s.data.toList.take i) →
    Ev (fun k => linhayref03_Check.l0 k s (i : Int)) (if 47 ∈ s.data.toList ∨ 0 ∈ s.data.toList then 11 else if s.data.toList = [46] ∨ s.data.toList = [46, 46] then 6 else 0) := by
  intro d
  induction d with
  | zero =>
    intro i hi hn
    have e : s.data.toList.take i = s.data.toList := List.take_of_length_le (by rw [← Sp.size_eq]; omega)
    rw [e] at hn
    refine Ev.step (fun k => by rw [linhayref03_Check.l0]) (ev_neg (by omega) ?_)
    rw [toL]
    have hx : ¬ (47 ∈ s.data.toList ∨ 0 ∈ s.data.toList) := fun h => h.elim hn.1 hn.2
    by_cases h1 : s.data.toList = [46]
    · refine ev_pos h1 ?_
      rw [if_neg hx, if_pos (.inl h1)]
      exact Ev.now _
    · refine ev_neg h1 ?_
      by_cases h2 : s.data.toList = [46, 46]
      · refine ev_pos h2 ?_
        rw [if_neg hx, if_pos (.inr h2)]
        exact Ev.now _
      · refine ev_neg h2 ?_
        rw [if_neg hx, if_neg (fun h => h.elim h1 h2)]
        exact Ev.now _
  | succ d ih =>
    intro i hi hn
    have hlt : i < s.size := by omega
    obtain ⟨c, hc, hd⟩ := get_at s hlt
    have hm : c ∈ s.data.toList := List.mem_of_getElem? hc
    refine Ev.step (fun k => by rw [linhayref03_Check.l0]) (ev_pos (by omega) (ev_pos (by omega) ?_))
    rw [bt_nat hc, w1 (by omega)]
    by_cases h0 : c = 0
    · subst h0
      rw [if_pos (.inr hm)]
      exact ev_pos rfl (Ev.now _)
    · refine ev_neg (fun h => h0 (UInt8.toNat_inj.1 (by simpa using h))) ?_
      by_cases h47 : c = 47
      · subst h47
        rw [if_pos (.inl hm)]
        exact ev_pos rfl (Ev.now _)
      · refine ev_neg (fun h => h47 (UInt8.toNat_inj.1 (by have : ((47 : UInt8).toNat : Int) = 47 := rfl; omega))) (ih (i + 1) (by omega) ?_)
        have hl : i < s.data.toList.length := by rw [← Sp.size_eq]; exact hlt
        have e : s.data.toList[i] = c := by rw [List.getElem?_eq_getElem hl] at hc; exact Option.some.inj hc
        rw [List.take_succ_eq_append_getElem hl, e]
        simp only [List.mem_append, List.mem_singleton, not_or]
        exact ⟨⟨hn.1, fun h => h47 h.symm⟩, hn.2, fun h => h0 h.symm⟩
theorem r03_check (s : ByteArray) : Ev (fun k => linhayref03_Check.f k s) (Sp.check s.data.toList) := by
  unfold linhayref03_Check.f Sp.check
  by_cases h0 : s.size = 0
  · have : s.data.toList = [] := List.eq_nil_of_length_eq_zero (by rw [← Sp.size_eq]; exact h0)
    rw [if_pos this]
    exact ev_pos (by omega) (Ev.now _)
  · have : s.data.toList ≠ [] := fun h => h0 (by rw [Sp.size_eq, h]; rfl)
    rw [if_neg this, ← Sp.size_eq]
    refine ev_neg (by omega) ?_
    by_cases h1 : 64 < s.size
    · rw [if_pos (.inl h1)]
      exact ev_pos (by omega) (Ev.now _)
    · refine ev_neg (by omega) ?_
      have h := r03_check_l0 s (by omega) _ 0 (Nat.zero_add _) (by simp)
      have e : (64 < s.size ∨ (47 ∈ s.data.toList ∨ 0 ∈ s.data.toList)) = (47 ∈ s.data.toList ∨ 0 ∈ s.data.toList) := propext ⟨fun x => x.elim (fun y => absurd y h1) id, .inr⟩
      simp only [e]
      exact h
theorem r04_is_l0 (l : List (List UInt8)) (hl : l.length < 4294967290) : ∀ (d i : Nat), i + d = l.length → (l.take i).all Sp.right = true →
    Ev (fun k => linhayref04_Is.l0 k (bs l) (i : Int)) (l.all Sp.right) := by
  intro d
  induction d with
  | zero =>
    intro i hi hr
    rw [List.take_of_length_le (by omega)] at hr
    refine Ev.step (fun k => by rw [linhayref04_Is.l0]) (ev_neg (by rw [bs_len]; omega) ?_)
    rw [hr]
    exact Ev.now _
  | succ d ih =>
    intro i hi hr
    have hlt : i < l.length := by omega
    have hg : (bs l)[i]? = some (Sp.mk l[i]) := by rw [bs_get, List.getElem?_eq_getElem hlt]; rfl
    refine Ev.step (fun k => by rw [linhayref04_Is.l0]) (ev_pos (by rw [bs_len]; omega) (ev_pos (by omega) ?_))
    rw [rd_nat hg, w1 (by omega)]
    refine ev_bind (r03_check _) ?_
    rw [Sp.mk_data]
    by_cases h : Sp.check l[i] = 0
    · refine ev_pos h (ih (i + 1) (by omega) ?_)
      rw [List.take_succ_eq_append_getElem hlt, List.all_append, hr]
      simp [Sp.right, h]
    · refine ev_neg h ?_
      have : l.all Sp.right = false := by
        rw [List.all_eq_false]
        exact ⟨l[i], List.getElem_mem hlt, by simp [Sp.right, h]⟩
      rw [this]
      exact Ev.now _
theorem right_up {x : List UInt8} (h : Sp.right x = true) : Up x := by
  rintro rfl
  revert h
  decide
theorem r04_is (s : ByteArray) (hs : s.size < 2147483000) : Ev (fun k => linhayref04_Is.f k s) (Pa.isPath s.data.toList) := by
  have h1 := Sp.parts_room s.data.toList
  have h2 := Sp.len_room (Sp.parts s.data.toList)
  rw [← Sp.size_eq] at h1
  refine ev_bind (r04_parts s (by omega)) (ev_bind (r04_text _ (by omega)) ?_)
  rw [toL, toList_mk]
  have no : ∀ b : Bool, b = true → Pa.isPath s.data.toList = false → Ev (fun k => linhayref04_Is.j0 k (bs (Sp.parts s.data.toList)) b) (Pa.isPath s.data.toList) := fun b hb h => by
    rw [h]
    exact Ev.step (fun k => by rw [linhayref04_Is.j0]) (ev_pos hb (Ev.now _))
  by_cases ht : s.data.toList = Sp.text (Sp.parts s.data.toList)
  · refine ev_pos ht ?_
    by_cases hl : s.size ≤ 1024
    · rw [decide_eq_false (by omega)]
      refine Ev.step (fun k => by rw [linhayref04_Is.j0]) (ev_neg (by simp) ?_)
      have h := r04_is_l0 (Sp.parts s.data.toList) (by omega) _ 0 (Nat.zero_add _) (by simp)
      by_cases hr : (Sp.parts s.data.toList).all Sp.right = true
      · have hc : Sp.clean s.data.toList = s.data.toList := by
          have hu : ∀ x ∈ Sp.parts s.data.toList, Up x := fun x hx => right_up (List.all_eq_true.1 hr x hx)
          rw [Sp.clean, climbs_id _ hu]
          exact ht.symm
        have e : Pa.isPath s.data.toList = true := Pa.is_yes (by rw [← Sp.size_eq]; exact hl) hc (fun x hx => List.all_eq_true.1 hr x hx)
        rw [hr] at h
        rw [e]
        exact h
      · have hr2 : (Sp.parts s.data.toList).all Sp.right = false := by simpa using hr
        have e : Pa.isPath s.data.toList = false := by simp [Pa.isPath, hr2]
        rw [hr2] at h
        rw [e]
        exact h
    · exact no _ (decide_eq_true (by omega)) (Pa.is_no1 (by rw [← Sp.size_eq]; exact hl))
  · refine ev_neg ht (no _ rfl ?_)
    by_cases hr : (Sp.parts s.data.toList).all Sp.right = true
    · have hu : ∀ x ∈ Sp.parts s.data.toList, Up x := fun x hx => right_up (List.all_eq_true.1 hr x hx)
      refine Pa.is_no2 (fun h => ht ?_)
      rw [Sp.clean, climbs_id _ hu] at h
      exact h.symm
    · have hr2 : (Sp.parts s.data.toList).all Sp.right = false := by simpa using hr
      simp [Pa.isPath, hr2]
end Go.Proofs.YtocpdhbkfgolfaaDoor.Pu
