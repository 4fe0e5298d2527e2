/- Many tasks; the law TaskMany. -/
import Derived.Test.YtocpdhbkfgolfaaDoorPureLines
import Derived.Test.YtocpdhbkfgolfaaDoorPureSame
import Derived.Test.YtocpdhbkfgolfaaDoorX22
namespace Go.Proofs.YtocpdhbkfgolfaaDoor.Pu
open Go Go.RowKit Go.Proofs Go.Proofs.YtocpdhbkfgolfaaDoor Go.Proofs.YtocpdhbkfgolfaaDoorW.PrintWords Go.Proofs.YtocpdhbkfgolfaaDoor.Ext Go.Proofs.YtocpdhbkfgolfaaDoor.X
set_option linter.unusedVariables false
set_option linter.unusedSimpArgs false

abbrev Tk := S35
def okT (x : Tk) : Bool := rightT x.f0 x.f1.data.toList x.f2.data.toList
def lineB (x : Tk) : ByteArray := Sp.mk (lineT x.f0 x.f1.data.toList x.f2.data.toList)
def fewT (x : Tk) : Prop := x.f1.size ≤ 2000 ∧ x.f2.size ≤ 2000
def cntT (K : Int) (l : List Tk) : Nat := (l.filter fun x => decide (x.f0 = K)).length
theorem rdT {l : List Tk} {i : Nat} (h : i < l.length) : rd_T35 l (i : Int) = l[i] := by simp [rd_T35, h]
theorem cntT_take {l : List Tk} {K : Int} {i : Nat} (h : i < l.length) : cntT K (l.take (i + 1)) = if l[i].f0 = K then cntT K (l.take i) + 1 else cntT K (l.take i) := by
  rw [List.take_succ_eq_append_getElem h]
  unfold cntT
  rw [List.filter_append, List.length_append]
  by_cases h : l[i].f0 = K
  · simp [h]
  · simp [h]
theorem cntT_le (K : Int) (l : List Tk) : cntT K l ≤ l.length := List.length_filter_le _ _
theorem count_l0 (K : Int) (l : List Tk) (hl : l.length < 4294967296) : ∀ (d i : Nat), i + d = l.length →
    Ev (fun k => task_Count.l0 k K (cntT K (l.take i) : Int) l (l.length : Int) (i : Int)) (cntT K l : Int) := by
  intro d
  induction d with
  | zero =>
    intro i hi
    refine Ev.step (fun k => by rw [task_Count.l0]) (ev_neg (by omega) ?_)
    rw [List.take_of_length_le (by omega)]
    exact Ev.now _
  | succ d ih =>
    intro i hi
    have hlt : i < l.length := by omega
    refine Ev.step (fun k => by rw [task_Count.l0]) (ev_pos (by omega) (ev_pos (by omega) (ev_pos (by omega) ?_)))
    have hc := cntT_le K (l.take i)
    rw [List.length_take] at hc
    rw [rdT hlt, w1 (by omega), w1 (by omega)]
    have := ih (i + 1) (by omega)
    rw [cntT_take hlt] at this
    by_cases h : l[i].f0 = K
    · rw [if_pos h] at this; exact ev_pos h this
    · rw [if_neg h] at this; exact ev_neg h this
theorem lines_l0 (l : List Tk) (hl : l.length < 4294967296) (hf : ∀ x ∈ l, fewT x) : ∀ (d i : Nat), i + d = l.length → (l.take i).all okT = true →
    Ev (fun k => task_Lines.l0 k ((l.take i).map lineB) l (l.length : Int) (i : Int)) (if l.all okT = true then (l.map lineB, 0) else ([], 2)) := by
  intro d
  induction d with
  | zero =>
    intro i hi hk
    refine Ev.step (fun k => by rw [task_Lines.l0]) (ev_neg (by omega) ?_)
    rw [List.take_of_length_le (by omega)] at hk ⊢
    exact ev_to (Ev.now _) (if_pos hk).symm
  | succ d ih =>
    intro i hi hk
    have hlt : i < l.length := by omega
    refine Ev.step (fun k => by rw [task_Lines.l0]) (ev_pos (by omega) (ev_pos (by omega) (ev_pos (by omega) ?_)))
    have hx := hf l[i] (List.getElem_mem hlt)
    rw [rdT hlt]
    refine ev_bind (line_ev _ _ _ (by have := hx.1; omega) (by have := hx.2; omega)) ?_
    have hs : l.take (i + 1) = l.take i ++ [l[i]] := List.take_succ_eq_append_getElem hlt
    by_cases h : okT l[i] = true
    · have e : (if rightT l[i].f0 l[i].f1.data.toList l[i].f2.data.toList = true then (Sp.mk (lineT l[i].f0 l[i].f1.data.toList l[i].f2.data.toList), (0 : Int)) else (⟨#[]⟩, 2)) = (lineB l[i], 0) := if_pos h
      rw [e]
      refine ev_pos rfl (ev_pos (by rw [List.length_map, List.length_take]; omega) ?_)
      rw [w1 (by omega)]
      have := ih (i + 1) (by omega) (by rw [hs, List.all_append, hk]; simp [h])
      rw [hs, List.map_append] at this
      exact this
    · have e : (if rightT l[i].f0 l[i].f1.data.toList l[i].f2.data.toList = true then (Sp.mk (lineT l[i].f0 l[i].f1.data.toList l[i].f2.data.toList), (0 : Int)) else (⟨#[]⟩, 2)) = (⟨#[]⟩, 2) := if_neg h
      rw [e]
      refine ev_neg (by simp) (ev_to (Ev.now _) ?_)
      rw [if_neg]
      intro ha
      rw [List.all_eq_true] at ha
      exact h (ha _ (List.getElem_mem hlt))
theorem r_lines_l0 (l : List Tk) (hl : l.length < 4294967296) (hf : ∀ x ∈ l, fewT x) (ha : ∀ x ∈ l, okT x = true) : ∀ (d i : Nat), i + d = l.length →
    Ev (fun k => linhayref19_Lines.l0 k l ((l.take i).map lineB) (i : Int)) (l.map lineB) := by
  intro d
  induction d with
  | zero =>
    intro i hi
    refine Ev.step (fun k => by rw [linhayref19_Lines.l0]) (ev_neg (by omega) ?_)
    rw [List.take_of_length_le (by omega)]
    exact Ev.now _
  | succ d ih =>
    intro i hi
    have hlt : i < l.length := by omega
    refine Ev.step (fun k => by rw [linhayref19_Lines.l0]) (ev_pos (by omega) (ev_pos (by omega) ?_))
    have hx := hf l[i] (List.getElem_mem hlt)
    rw [rdT hlt]
    refine ev_bind (r_line _ (right_K (ha _ (List.getElem_mem hlt))) _ _ (by have := hx.1; omega) (by have := hx.2; omega)) (ev_pos (by rw [List.length_map, List.length_take]; omega) ?_)
    rw [w1 (by omega)]
    have := ih (i + 1) (by omega)
    rw [List.take_succ_eq_append_getElem hlt, List.map_append] at this
    exact this
theorem many_end (l : List Tk) (K : Int) (hl : l.length < 4294967296) (hf : ∀ x ∈ l, fewT x) :
    Ev (fun k => (task_Lines.f k l).bind fun bt425 => ((task_Count.f k l K).bind fun t429 => (if t429 = (cntT K l : Int) then (linhaylaw19_TaskMany.j2 k l (l.all okT) bt425.1 bt425.2 ((bt425.2 == 0) != l.all okT)) else (linhaylaw19_TaskMany.j2 k l (l.all okT) bt425.1 bt425.2 true)))) true := by
  have h1 := lines_l0 l hl hf l.length 0 (by omega) (by simp)
  have h2 := count_l0 K l hl l.length 0 (by omega)
  refine ev_bind (a := if l.all okT = true then (l.map lineB, 0) else ([], 2)) (by simpa [task_Lines.f] using h1) (ev_bind (a := (cntT K l : Int)) (by simpa [task_Count.f, cntT] using h2) (ev_pos rfl ?_))
  cases ha : l.all okT with
  | true =>
    refine Ev.step (fun k => by rw [linhaylaw19_TaskMany.j2]) (ev_neg (by simp) (ev_pos rfl ?_))
    rw [List.all_eq_true] at ha
    have h3 := r_lines_l0 l hl hf ha l.length 0 (by omega)
    refine ev_bind (a := l.map lineB) (by simpa [linhayref19_Lines.f] using h3) ?_
    rw [if_pos rfl]
    refine ev_bind (r02_same _ _ (by rw [List.length_map]; omega)) (ev_pos (by simp) ?_)
    exact ev_bind l19_lives (Ev.now _)
  | false =>
    refine Ev.step (fun k => by rw [linhaylaw19_TaskMany.j2]) (ev_neg (by simp) (ev_neg (by simp) ?_))
    rw [if_neg (by simp)]
    exact ev_pos rfl (ev_pos rfl (ev_bind l19_lives (Ev.now _)))
theorem all_take {l : List Tk} {i : Nat} (h : i < l.length) : (l.take (i + 1)).all okT = ((l.take i).all okT && okT l[i]) := by
  rw [List.take_succ_eq_append_getElem h, List.all_append]; simp
theorem many_l0 (l : List Tk) (K : Int) (hl : l.length < 4294967296) (hz : ∀ x ∈ l, x.f1.size ≤ 1048576 ∧ x.f2.size ≤ 1048576) : ∀ (d i : Nat), i + d = l.length → (∀ x ∈ l.take i, fewT x) →
    Ev (fun k => linhaylaw19_TaskMany.l0 k l K ((l.take i).all okT) (cntT K (l.take i) : Int) (i : Int)) true := by
  intro d
  induction d with
  | zero =>
    intro i hi hf
    refine Ev.step (fun k => by rw [linhaylaw19_TaskMany.l0]) (ev_neg (by omega) ?_)
    rw [List.take_of_length_le (by omega)] at hf ⊢
    by_cases h : (l.length : Int) > 100
    · exact ev_pos h (ev_bind l19_lives (Ev.now _))
    · exact ev_neg h (many_end l K hl hf)
  | succ d ih =>
    intro i hi hf
    have hlt : i < l.length := by omega
    refine Ev.step (fun k => by rw [linhaylaw19_TaskMany.l0]) (ev_pos (by omega) (ev_pos (by omega) ?_))
    rw [rdT hlt]
    have hzz := hz l[i] (List.getElem_mem hlt)
    have stop : Ev (fun k => linhaylaw19_TaskMany.j1 k l K ((l.take i).all okT) (cntT K (l.take i) : Int) (i : Int) true) true := by
      refine Ev.step (fun k => by rw [linhaylaw19_TaskMany.j1]) ?_
      exact ev_pos rfl (ev_bind l19_lives (Ev.now _))
    by_cases h1 : ((l[i].f1).size : Int) > 2000
    · exact ev_pos h1 stop
    · refine ev_neg h1 ?_
      by_cases h2 : ((l[i].f2).size : Int) > 2000
      · rw [decide_eq_true h2]; exact stop
      · rw [decide_eq_false h2]
        refine Ev.step (fun k => by rw [linhaylaw19_TaskMany.j1]) (ev_neg (by simp) ?_)
        have hc := cntT_le K (l.take i)
        rw [List.length_take] at hc
        have hn := ih (i + 1) (by omega) (fun x hx => by
          rw [List.take_succ_eq_append_getElem hlt] at hx
          rcases List.mem_append.1 hx with hx | hx
          · exact hf x hx
          · rw [List.mem_singleton.1 hx]; exact ⟨by omega, by omega⟩)
        rw [all_take hlt, cntT_take hlt] at hn
        rw [rdT hlt, w1 (by omega), w1 (by omega)]
        cases ha : (l.take i).all okT with
        | true =>
          rw [ha, Bool.true_and] at hn
          refine ev_pos rfl (ev_pos (by omega) (ev_pos (by omega) (ev_bind (r_right _ _ _ (by omega) (by omega)) ?_)))
          by_cases hk : l[i].f0 = K
          · rw [if_pos hk] at hn; exact ev_pos hk hn
          · rw [if_neg hk] at hn; exact ev_neg hk hn
        | false =>
          rw [ha, Bool.false_and] at hn
          refine ev_neg (by simp) (ev_pos (by omega) (ev_pos (by omega) ?_))
          by_cases hk : l[i].f0 = K
          · rw [if_pos hk] at hn; exact ev_pos hk hn
          · rw [if_neg hk] at hn; exact ev_neg hk hn
def bulkT (x : Tk) : Nat := 1 + ((x.f1.size + 1) + (x.f2.size + 1)) + 1
theorem sum_in {α : Type} (β : α → Nat) {x : α} : ∀ {l : List α}, x ∈ l → β x ≤ (l.map β).sum
  | y :: l, h => by
    rw [List.map_cons, List.sum_cons]
    rcases List.mem_cons.1 h with rfl | h
    · omega
    · have := sum_in β h; omega
theorem sum_long {α : Type} (β : α → Nat) (hβ : ∀ x, 1 ≤ β x) : ∀ l : List α, l.length ≤ (l.map β).sum
  | [] => Nat.le_refl _
  | x :: l => by have := sum_long β hβ l; have := hβ x; rw [List.map_cons, List.sum_cons, List.length_cons]; omega
theorem task_many (l : List Tk) (K : Int) (hb : (l.map bulkT).sum + 1 ≤ 1048576) (ho : ∀ x ∈ l, (Lit.int .i64 x.f0).wf = true ∧ True ∧ True) : Ev (fun k => linhaylaw19_TaskMany.f k l K) true := by
  have h1 := sum_long bulkT (fun x => by unfold bulkT; omega) l
  have h := many_l0 l K (by omega) (fun x hx => by have := sum_in bulkT hx; have e : bulkT x = 1 + ((x.f1.size + 1) + (x.f2.size + 1)) + 1 := rfl; omega) l.length 0 (by omega) (fun x hx => by simp at hx)
  simpa [linhaylaw19_TaskMany.f, cntT] using h
end Go.Proofs.YtocpdhbkfgolfaaDoor.Pu
