/- Tasks as lines, and back. -/
import Derived.Test.YtocpdhbkfgolfaaDoorPureParse
import Derived.Test.YtocpdhbkfgolfaaDoorX19
namespace Go.Proofs.YtocpdhbkfgolfaaDoor.Pu
open Go Go.RowKit Go.Proofs Go.Proofs.YtocpdhbkfgolfaaDoor Go.Proofs.YtocpdhbkfgolfaaDoorW.PrintWords Go.Proofs.YtocpdhbkfgolfaaDoor.Ext Go.Proofs.YtocpdhbkfgolfaaDoor.X
set_option linter.unusedVariables false
set_option linter.unusedSimpArgs false

def twoK (K : Int) : Bool := decide (K = 3 ∨ K = 5 ∨ K = 6)
def lineT (K : Int) (p t : List UInt8) : List UInt8 := vbl K ++ 32 :: (sh p ++ (if twoK K = true then 32 :: sh t else []))
theorem vbl_len (K : Int) : (vbl K).length ≤ 6 := by
  unfold vbl
  repeat' split
  all_goals simp
theorem right_K {K : Int} {p t : List UInt8} (h : rightT K p t = true) : 1 ≤ K ∧ K ≤ 6 := by
  unfold rightT at h
  rw [Bool.and_eq_true] at h
  have h := h.2
  split at h
  · omega
  · split at h
    · omega
    · split at h
      · omega
      · rw [Bool.and_eq_true, beq_iff_eq] at h; omega
theorem right_t {K : Int} {p t : List UInt8} (h : rightT K p t = true) (hK : ¬ (K = 3 ∨ K = 5 ∨ K = 6)) : t = [] := by
  have := right_K h
  unfold rightT at h
  rw [Bool.and_eq_true] at h
  have h := h.2
  rw [if_pos (by omega)] at h
  simpa using h
theorem vb_at {K : Int} (h : 1 ≤ K ∧ K ≤ 6) : vb.getD K.toNat ⟨#[]⟩ = Sp.mk (vbl K) := by
  obtain rfl | rfl | rfl | rfl | rfl | rfl : K = 1 ∨ K = 2 ∨ K = 3 ∨ K = 4 ∨ K = 5 ∨ K = 6 := by omega
  all_goals rfl
theorem b32 : (⟨#[32]⟩ : ByteArray) = Sp.mk [32] := rfl
theorem line_ev (K : Int) (p t : ByteArray) (hp : p.size < 2147483) (ht : t.size < 2147483) :
    Ev (fun k => task_Line.f k K p t) (if rightT K p.data.toList t.data.toList = true then (Sp.mk (lineT K p.data.toList t.data.toList), 0) else (⟨#[]⟩, 2)) := by
  unfold task_Line.f
  refine ev_bind (right K p t (by omega) (by omega)) ?_
  cases hr : rightT K p.data.toList t.data.toList with
  | false => exact ev_neg (by simp) (Ev.now _)
  | true =>
    have hK := right_K hr
    have h1 := sh_len p.data.toList
    have h2 := sh_len t.data.toList
    rw [← Sp.size_eq] at h1 h2
    refine ev_pos rfl (ev_pos (by omega) (ev_bind (shield p (by omega)) (ev_bind (shield t (by omega)) ?_)))
    rw [two_f, vb_at hK]
    refine ev_some (ev_pos (by rw [Sp.mk_size, Sp.mk_size]; omega) (ev_to (Ev.now _) ?_))
    rw [if_pos rfl]
    unfold lineS lineT twoK
    cases decide (K = 3 ∨ K = 5 ∨ K = 6) with
    | true => rw [if_pos rfl, if_pos rfl, b32]; simp only [app_mk]; simp
    | false => rw [if_neg (by simp), if_neg (by simp), b32]; simp only [app_mk]; simp
theorem r_line (K : Int) (hK : 1 ≤ K ∧ K ≤ 6) (p t : ByteArray) (hp : p.size < 2147483) (ht : t.size < 2147483) : Ev (fun k => linhayref19_Line.f k K p t) (Sp.mk (lineT K p.data.toList t.data.toList)) := by
  unfold linhayref19_Line.f
  rw [verb_f]
  have h0 := vbl_len K
  have h1 := sh_len p.data.toList
  have h2 := sh_len t.data.toList
  rw [← Sp.size_eq] at h1 h2
  refine ev_some (ev_pos (by rw [Sp.mk_size]; omega) (ev_bind (r_shield p (by omega)) ?_))
  rw [b32]
  simp only [app_mk]
  refine ev_pos (by rw [Sp.mk_size, Sp.mk_size]; simp; omega) ?_
  have yes : (K = 3 ∨ K = 5 ∨ K = 6) → Ev (fun k => (linhayref19_Shield.f k t).bind fun t385 => (if 1 + t385.size ≤ 9223372036854775807 then (if (Sp.mk (vbl K ++ [32] ++ sh p.data.toList)).size + (Sp.mk [32] ++ t385).size ≤ 9223372036854775807 then (some (Sp.mk (vbl K ++ [32] ++ sh p.data.toList) ++ (Sp.mk [32] ++ t385))) else (none)) else (none))) (Sp.mk (lineT K p.data.toList t.data.toList)) := fun h => by
    refine ev_bind (r_shield t (by omega)) ?_
    simp only [app_mk, Sp.mk_size]
    refine ev_pos (by omega) (ev_pos (by simp; omega) (ev_to (Ev.now _) ?_))
    unfold lineT twoK
    rw [if_pos (by simpa using h)]
    simp
  by_cases h3 : K = 3
  · exact ev_pos h3 (yes (.inl h3))
  refine ev_neg h3 ?_
  by_cases h5 : K = 5
  · exact ev_pos h5 (yes (.inr (.inl h5)))
  refine ev_neg h5 ?_
  by_cases h6 : K = 6
  · exact ev_pos h6 (yes (.inr (.inr h6)))
  refine ev_neg h6 (ev_to (Ev.now _) ?_)
  unfold lineT twoK
  rw [if_neg (by simp; omega)]
  simp
theorem spl1_no : ∀ {a : List UInt8}, 32 ∉ a → spl1 a = [a]
  | [], _ => rfl
  | c :: a, h => by
    rw [spl1, if_neg (fun e => h (by simp [e])), spl1_no (fun x => h (by simp [x]))]
theorem spl1_at : ∀ {a : List UInt8} (b : List UInt8), 32 ∉ a → spl1 (a ++ 32 :: b) = a :: spl1 b
  | [], b, _ => by simp [spl1]
  | c :: a, b, h => by
    rw [List.cons_append, spl1, if_neg (fun e => h (by simp [e])), spl1_at b (fun x => h (by simp [x]))]
theorem hexd_32 : ∀ n : Fin 16, hexd n.val ≠ 32 := by decide
theorem sh_32 (l : List UInt8) : 32 ∉ sh l := by
  intro h
  obtain ⟨c, _, hc⟩ := List.mem_flatMap.1 h
  unfold shC at hc
  have h256 : c.toNat < 256 := c.toNat_lt
  split at hc
  · rename_i hp
    obtain rfl : 32 = c := by simpa using hc
    simp [plainC] at hp
  · have a := hexd_32 ⟨c.toNat / 16, by omega⟩
    have b := hexd_32 ⟨c.toNat % 16, by omega⟩
    simp at hc
    rcases hc with h | h
    · exact a h.symm
    · exact b h.symm
theorem vbl_32 (K : Int) : 32 ∉ vbl K := by
  unfold vbl
  repeat' split
  all_goals decide
theorem bareR_sh (l : List UInt8) : bareR (sh l) = (Sp.mk l, true) := by unfold bareR; rw [bare_sh]
theorem parse_line19 {K : Int} {p t : ByteArray} (h : rightT K p.data.toList t.data.toList = true) : parseT (spl1 (lineT K p.data.toList t.data.toList)) = (K, p, t, 0) := by
  have hK := right_K h
  unfold lineT
  rw [spl1_at _ (vbl_32 K)]
  unfold parseT twoK
  rw [List.getD_cons_zero, kind_vbl hK, if_neg (by omega)]
  by_cases h2 : K = 3 ∨ K = 5 ∨ K = 6
  · rw [if_pos (by simpa using h2), spl1_at _ (sh_32 _), spl1_no (sh_32 _)]
    show (if K = 3 ∨ K = 5 ∨ K = 6 then twoT K (bareR (sh p.data.toList)) (bareR (sh t.data.toList)) else nulT 3) = _
    rw [if_pos h2, bareR_sh, bareR_sh, Sp.mk_of, Sp.mk_of]
    unfold twoT
    rw [if_pos rfl, if_pos rfl, if_pos h]
  · rw [if_neg (by simpa using h2), List.append_nil, spl1_no (sh_32 _)]
    show (if K = 1 ∨ K = 2 ∨ K = 4 then oneT K (bareR (sh p.data.toList)) else nulT 3) = _
    have ht := right_t h h2
    rw [if_pos (by omega), bareR_sh, Sp.mk_of]
    unfold oneT
    rw [ht] at h
    rw [if_pos rfl, if_pos h]
    have : t = ⟨#[]⟩ := by rw [← Sp.mk_of t, ht]; rfl
    rw [this]
theorem lineT_len (K : Int) (p t : List UInt8) : (lineT K p t).length ≤ 8 + 3 * p.length + 3 * t.length := by
  unfold lineT
  have h0 := vbl_len K
  have h1 := sh_len p
  have h2 := sh_len t
  rw [List.length_append, List.length_cons, List.length_append]
  split
  · simp; omega
  · simp; omega
end Go.Proofs.YtocpdhbkfgolfaaDoor.Pu
