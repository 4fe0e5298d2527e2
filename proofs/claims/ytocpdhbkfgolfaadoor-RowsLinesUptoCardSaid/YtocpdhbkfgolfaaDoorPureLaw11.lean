/- The law RowsLines. -/
import Derived.Test.YtocpdhbkfgolfaaDoorPureRows
import Derived.Test.YtocpdhbkfgolfaaDoorX13
import Derived.Test.YtocpdhbkfgolfaaDoorX13
namespace Go.Proofs.YtocpdhbkfgolfaaDoor.Pu
open Go Go.RowKit Go.Proofs Go.Proofs.YtocpdhbkfgolfaaDoor Go.Proofs.YtocpdhbkfgolfaaDoorW.PrintWords Go.Proofs.YtocpdhbkfgolfaaDoor.Ext Go.Proofs.YtocpdhbkfgolfaaDoor.X
set_option linter.unusedVariables false
set_option linter.unusedSimpArgs false

theorem quote_letter (c : UInt8) (h : c = 100 ∨ c = 108 ∨ c = 102) : quote [c] = [c] := by rcases h with rfl | rfl | rfl <;> rfl
theorem r11_line (p : ByteArray) (kd : Int) (dt : ByteArray) (hp : p.size ≤ 6000) (hd : dt.size ≤ 6000) : Ev (fun k => linhayref11_Line.f k p kd dt) (lineOf p kd dt) := by
  have q1 := quote_len p.data.toList
  have q2 := quote_len dt.data.toList
  rw [← Sp.size_eq] at q1 q2
  unfold linhayref11_Line.f lineOf lineW
  have two : ∀ c : UInt8, (⟨#[c, 32]⟩ : ByteArray) = Sp.mk [c, 32] := fun c => rfl
  by_cases h1 : kd = 1
  · rw [if_pos h1]
    refine ev_pos h1 (ev_bind (r02_quote p (by omega)) (ev_pos (by rw [Sp.mk_size]; omega) ?_))
    rw [two, app_mk, joinq_cons, joinq_one, Sp.mk_data, quote_letter 100 (by simp)]
    exact Ev.now _
  · rw [if_neg h1]
    refine ev_neg h1 ?_
    have go : ∀ c : UInt8, (c = 100 ∨ c = 108 ∨ c = 102) → Ev (fun k => (linhayref02_Quote.f k p).bind fun t334 => (if 2 + t334.size ≤ 9223372036854775807 then (if ((⟨#[c, 32]⟩ : ByteArray) ++ t334).size + 1 ≤ 9223372036854775807 then ((linhayref02_Quote.f k dt).bind fun t335 => (if (((⟨#[c, 32]⟩ : ByteArray) ++ t334) ++ (⟨#[32]⟩ : ByteArray)).size + t335.size ≤ 9223372036854775807 then (some ((((⟨#[c, 32]⟩ : ByteArray) ++ t334) ++ (⟨#[32]⟩ : ByteArray)) ++ t335)) else (none))) else (none)) else (none)))
        (Sp.mk (joinq [Sp.mk [c], p, dt])) := fun c hc => by
      refine ev_bind (r02_quote p (by omega)) ?_
      rw [two, show (⟨#[32]⟩ : ByteArray) = Sp.mk [32] from rfl, app_mk, app_mk]
      refine ev_pos (by rw [Sp.mk_size]; omega) (ev_pos (by rw [Sp.mk_size]; simp only [List.length_append, List.length_cons, List.length_nil]; omega) ?_)
      refine ev_bind (r02_quote dt (by omega)) ?_
      rw [app_mk]
      refine ev_pos (by rw [Sp.mk_size, Sp.mk_size]; simp only [List.length_append, List.length_cons, List.length_nil]; omega) ?_
      rw [joinq_cons, joinq_cons, joinq_one, Sp.mk_data, quote_letter c hc]
      have e : [c, 32] ++ quote p.data.toList ++ [32] ++ quote dt.data.toList = [c] ++ 32 :: (quote p.data.toList ++ 32 :: quote dt.data.toList) := by simp
      rw [e]
      exact Ev.now _
    by_cases h3 : kd = 3
    · rw [if_pos h3]
      exact ev_pos h3 (go 108 (by simp))
    · rw [if_neg h3]
      exact ev_neg h3 (go 102 (by simp))

theorem parse_line {p dt : ByteArray} {kd : Int} (h : rightR p.data.toList kd dt.data.toList = true) : parseR (joinq (lineW p kd dt)) = (p, kd, dt, 0) := by
  unfold parseR
  rw [split_join _ (right_words h)]
  simp only [if_true]
  have ht : told p kd dt = (p, kd, dt, 0) := by unfold told; rw [if_pos h]
  unfold lineW
  by_cases h1 : kd = 1
  · subst h1
    rw [if_pos rfl]
    have hd : dt = nul := by
      unfold rightR kindOk at h
      simp only [Bool.and_eq_true, if_true] at h
      have h2 : dt.data.toList = [] := by simpa using h.2
      rw [← Sp.mk_of dt, h2]; rfl
    subst hd
    exact ht
  · rw [if_neg h1]
    have hk := right_kind h
    rcases hk with h1' | rfl | rfl
    · exact absurd h1' h1
    · exact ht
    · exact ht

theorem rows_lines (p : ByteArray) (kd : Int) (dt : ByteArray) (hp : p.size ≤ 1048576) (hd : dt.size ≤ 1048576) : Ev (fun k => linhaylaw11_RowsLines.f k p kd dt) true := by
  have j0t : Ev (fun k => linhaylaw11_RowsLines.j0 k true p kd dt) true :=
    Ev.step (fun k => by rw [linhaylaw11_RowsLines.j0]) (ev_pos rfl (ev_bind l11_lives (Ev.now _)))
  unfold linhaylaw11_RowsLines.f
  by_cases h6 : (p.size : Int) > 6000
  · exact ev_pos h6 j0t
  refine ev_neg h6 ?_
  by_cases h7 : (dt.size : Int) > 6000
  · rw [decide_eq_true h7]; exact j0t
  rw [decide_eq_false h7]
  refine Ev.step (fun k => by rw [linhaylaw11_RowsLines.j0]) (ev_neg (by simp) ?_)
  refine ev_bind (rows_line p kd dt (by omega) (by omega)) (ev_bind (r11_right p kd dt (by omega) (by omega)) (ev_bind (rows_right p kd dt (by omega) (by omega)) ?_))
  cases hr : rightR p.data.toList kd dt.data.toList with
  | false =>
    rw [if_neg (by simp)]
    refine ev_neg (by simp) (ev_neg (by simp) (ev_neg (by simp) (ev_pos (by rw [toL]; rfl) ?_)))
    refine Ev.step (fun k => by rw [linhaylaw11_RowsLines.j1]) (ev_neg (by simp) (ev_neg (by simp) ?_))
    exact ev_bind l11_lives (Ev.now _)
  | true =>
    rw [if_pos rfl]
    refine ev_neg (by simp) (ev_neg (by simp) (ev_pos rfl ?_))
    refine Ev.step (fun k => by rw [linhaylaw11_RowsLines.j1]) (ev_neg (by simp) (ev_pos rfl ?_))
    have hj := joinq_len (lineW p kd dt) (fun s hs => (right_words hr s hs).2)
    have hl := lineW_len p kd dt
    have hpr := rows_parse (lineOf p kd dt) (by unfold lineOf; rw [Sp.mk_size]; omega)
    rw [show (lineOf p kd dt).data.toList = joinq (lineW p kd dt) from Sp.mk_data _, parse_line hr] at hpr
    refine ev_bind hpr (ev_bind (r11_line p kd dt (by omega) (by omega)) (ev_pos rfl (ev_pos (by simp) (ev_pos rfl ?_))))
    exact ev_bind l11_lives (Ev.now _)
end Go.Proofs.YtocpdhbkfgolfaaDoor.Pu
