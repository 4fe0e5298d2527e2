/- The law RowsParse. -/
import Derived.Test.YtocpdhbkfgolfaaDoorPureRows
import Derived.Test.YtocpdhbkfgolfaaDoorPureR02
import Derived.Test.YtocpdhbkfgolfaaDoorX14
import Derived.Test.YtocpdhbkfgolfaaDoorX14
namespace Go.Proofs.YtocpdhbkfgolfaaDoor.Pu
open Go Go.RowKit Go.Proofs Go.Proofs.YtocpdhbkfgolfaaDoor Go.Proofs.YtocpdhbkfgolfaaDoorW.PrintWords Go.Proofs.YtocpdhbkfgolfaaDoor.Ext Go.Proofs.YtocpdhbkfgolfaaDoor.X
set_option linter.unusedVariables false
set_option linter.unusedSimpArgs false

theorem r11_j2_no (l : List ByteArray) : Ev (fun k => linhayref11_Parse.j2 k l false nul 0 nul) (nul, 0, nul, 3) :=
  Ev.step (fun k => by rw [linhayref11_Parse.j2]) (ev_neg (by simp) (Ev.now _))
theorem letter_is (a : ByteArray) (c : UInt8) : (a.toList == ([c] : List UInt8)) = decide (a.data.toList = [c]) := by
  rw [toL, Bool.eq_iff_iff]; simp
theorem parse2 (a p : ByteArray) : parseL [a, p] = if Rk.kindOf a.data.toList = 1 then told p 1 nul else (nul, 0, nul, 3) := rfl
theorem parse3 (a p d : ByteArray) : parseL [a, p, d] = if Rk.kindOf a.data.toList = 2 ∨ Rk.kindOf a.data.toList = 3 then told p (Rk.kindOf a.data.toList) d else (nul, 0, nul, 3) := rfl
theorem kind_no1 {l : List UInt8} (h : l ≠ [100]) : Rk.kindOf l ≠ 1 := by
  unfold Rk.kindOf
  rw [if_neg h]
  split
  · decide
  · split <;> decide
theorem kind_no23 {l : List UInt8} (h2 : l ≠ [102]) (h3 : l ≠ [108]) : ¬ (Rk.kindOf l = 2 ∨ Rk.kindOf l = 3) := by
  unfold Rk.kindOf
  rw [if_neg h2, if_neg h3]
  split <;> decide
theorem r11_parse_l (l : List ByteArray) (hw : ∀ s ∈ l, s.size ≤ 4096) (hl : l.length < 4294967296) :
    Ev (fun k => if (l.length : Int) = 2 then (if 0 < (l.length : Int) then (linhayref11_Parse.j0 k l ((rdOf ByteArray.empty l 0).toList == ([100] : List UInt8)) (⟨#[]⟩ : ByteArray) 0 (⟨#[]⟩ : ByteArray)) else (none)) else (linhayref11_Parse.j0 k l false (⟨#[]⟩ : ByteArray) 0 (⟨#[]⟩ : ByteArray))) (parseL l) := by
  have not3 : l.length ≠ 3 → Ev (fun k => linhayref11_Parse.j0 k l false nul 0 nul) (nul, 0, nul, 3) := fun h =>
    Ev.step (fun k => by rw [linhayref11_Parse.j0]) (ev_neg (by simp) (ev_neg (by omega) (Ev.step (fun k => by rw [linhayref11_Parse.j1]) (ev_neg (by simp) (ev_neg (by omega) (r11_j2_no l))))))
  match l, hw, hl, not3 with
  | [], _, _, n3 => exact ev_neg (by simp) (n3 (by simp))
  | [a], _, _, n3 => exact ev_neg (by simp) (n3 (by simp))
  | [a, p], hw, _, n3 =>
    have hp := hw p (by simp)
    refine ev_pos rfl (ev_pos (by simp only [List.length_cons, List.length_nil]; omega) ?_)
    rw [show (0 : Int) = ((0 : Nat) : Int) from rfl, rd_nat (l := [a, p]) (i := 0) rfl, letter_is]
    by_cases hd : a.data.toList = [100]
    · rw [decide_eq_true hd]
      refine Ev.step (fun k => by rw [linhayref11_Parse.j0]) ?_
      refine ev_pos rfl (ev_pos (by simp only [List.length_cons, List.length_nil]; omega) ?_)
      rw [show (1 : Int) = ((1 : Nat) : Int) from rfl, rd_nat (l := [a, p]) (i := 1) rfl]
      have e : parseL [a, p] = told p 1 nul := by rw [parse2, hd]; rfl
      rw [e]
      exact told_ev2 p 1 nul (by omega) (by decide)
    · rw [decide_eq_false hd]
      have e : parseL [a, p] = (nul, 0, nul, 3) := by
        rw [parse2, if_neg (kind_no1 hd)]
      rw [e]
      exact n3 (by simp)
  | [a, p, d], hw, _, _ =>
    have hp := hw p (by simp)
    have hdd := hw d (by simp)
    refine ev_neg (by simp) ?_
    have z0 : rdOf ByteArray.empty [a, p, d] 0 = a := rd_nat (l := [a, p, d]) (i := 0) rfl
    have z1 : rdOf ByteArray.empty [a, p, d] 1 = p := rd_nat (l := [a, p, d]) (i := 1) rfl
    have z2 : rdOf ByteArray.empty [a, p, d] 2 = d := rd_nat (l := [a, p, d]) (i := 2) rfl
    refine Ev.step (fun k => by rw [linhayref11_Parse.j0]) ?_
    refine ev_neg (by simp) (ev_pos rfl (ev_pos (by simp only [List.length_cons, List.length_nil]; omega) ?_))
    rw [z0, letter_is]
    by_cases hf : a.data.toList = [102]
    · rw [decide_eq_true hf]
      refine Ev.step (fun k => by rw [linhayref11_Parse.j1]) ?_
      refine ev_pos rfl (ev_pos (by simp only [List.length_cons, List.length_nil]; omega) (ev_pos (by simp only [List.length_cons, List.length_nil]; omega) ?_))
      rw [z1, z2]
      have e : parseL [a, p, d] = told p 2 d := by rw [parse3, hf]; rfl
      rw [e]
      exact told_ev2 p 2 d (by omega) (by omega)
    · rw [decide_eq_false hf]
      refine Ev.step (fun k => by rw [linhayref11_Parse.j1]) ?_
      refine ev_neg (by simp) (ev_pos rfl (ev_pos (by simp only [List.length_cons, List.length_nil]; omega) ?_))
      rw [z0, letter_is]
      by_cases hl : a.data.toList = [108]
      · rw [decide_eq_true hl]
        refine Ev.step (fun k => by rw [linhayref11_Parse.j2]) ?_
        refine ev_pos rfl (ev_pos (by simp only [List.length_cons, List.length_nil]; omega) (ev_pos (by simp only [List.length_cons, List.length_nil]; omega) ?_))
        rw [z1, z2]
        have e : parseL [a, p, d] = told p 3 d := by rw [parse3, hl]; rfl
        rw [e]
        exact told_ev2 p 3 d (by omega) (by omega)
      · rw [decide_eq_false hl]
        have e : parseL [a, p, d] = (nul, 0, nul, 3) := by
          rw [parse3, if_neg (kind_no23 hf hl)]
        rw [e]
        exact r11_j2_no _
  | a :: p :: d :: x :: y, _, _, n3 =>
    exact ev_neg (by simp only [List.length_cons]; omega) (n3 (by simp))

theorem r11_parse (s : ByteArray) (hs : s.size < 4294967281) : Ev (fun k => linhayref11_Parse.f k s) (parseR s.data.toList) := by
  unfold linhayref11_Parse.f parseR
  refine ev_bind (r02_split s hs) ?_
  have hl := split_len s.data.toList
  rw [← Sp.size_eq] at hl
  by_cases h : (Wd.split s.data.toList).2 = 0
  · rw [if_pos h]
    exact ev_pos h (r11_parse_l _ (split_short _) (by omega))
  · rw [if_neg h]
    exact ev_neg h (Ev.now _)

theorem rows_parse_law (s : ByteArray) (hs : s.size ≤ 1048576) : Ev (fun k => linhaylaw11_RowsParse.f k s) true := by
  unfold linhaylaw11_RowsParse.f
  by_cases h : (s.size : Int) > 12000
  · exact ev_pos h (ev_bind l11_lives (Ev.now _))
  · refine ev_neg h (ev_bind (rows_parse s (by omega)) (ev_bind (r11_parse s (by omega)) (ev_pos (by simp) (ev_pos rfl ?_))))
    exact ev_bind l11_lives (Ev.now _)
end Go.Proofs.YtocpdhbkfgolfaaDoor.Pu
