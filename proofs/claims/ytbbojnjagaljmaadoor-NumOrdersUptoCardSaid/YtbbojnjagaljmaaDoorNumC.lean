/- A number's text, and what is told is parsed, as plain functions. -/
import Derived.Test.YtbbojnjagaljmaaDoorNumB
namespace Go.Proofs.YtbbojnjagaljmaaDoor.Nu
open Go Go.RowKit Go.Proofs Go.Proofs.YtbbojnjagaljmaaDoor Go.Proofs.YtbbojnjagaljmaaDoorW.PrintWords Go.Proofs.YtbbojnjagaljmaaDoor.Pu Go.Proofs.YtbbojnjagaljmaaDoor.X
set_option linter.unusedVariables false
set_option linter.unusedSimpArgs false
def dgc (u : Nat) : UInt8 := UInt8.ofNat (48 + u % 10)
theorem dgc_nat (u : Nat) : (dgc u).toNat = 48 + u % 10 := by
  unfold dgc
  rw [UInt8.toNat_ofNat']
  omega
theorem dec_step (u : Nat) : Lib.decDigits u = if u < 10 then [dgc u] else Lib.decDigits (u / 10) ++ [dgc u] := by
  rw [Lib.decDigits]
  by_cases h : u < 10
  · rw [dif_pos h, if_pos h]; unfold dgc; rw [Nat.mod_eq_of_lt h]
  · rw [dif_neg h, if_neg h]; rfl
theorem dec_good : ∀ (u : Nat), (Lib.decDigits u).all isD = true ∧ decA 0 (Lib.decDigits u) = u ∧ Lib.decDigits u ≠ [] ∧ (0 < u → (Lib.decDigits u).head? ≠ some 48) := by
  intro u
  induction u using Nat.strongRecOn with
  | _ u ih =>
    rw [dec_step]
    have hD : isD (dgc u) = true := decide_eq_true (by rw [dgc_nat]; omega)
    by_cases h : u < 10
    · rw [if_pos h]
      refine ⟨by simp [hD], ?_, by simp, ?_⟩
      · rw [decA_cons, dgc_nat, show decA _ [] = _ from by unfold decA; rw [List.foldl_nil]]; omega
      · intro h0 e
        have : dgc u = 48 := by simpa using e
        have := congrArg UInt8.toNat this
        rw [dgc_nat] at this
        have e48 : (48 : UInt8).toNat = 48 := rfl
        omega
    · rw [if_neg h]
      obtain ⟨h1, h2, h3, h4⟩ := ih (u / 10) (by omega)
      refine ⟨by rw [List.all_append, h1]; simp [hD], ?_, by simp, ?_⟩
      · rw [decA_snoc, h2, dgc_nat]; omega
      · intro _
        have := h4 (by omega)
        cases hd : Lib.decDigits (u / 10) with
        | nil => exact absurd hd h3
        | cons a l => rw [hd] at this; simpa using this
theorem w64 {x : Int} (h0 : 0 ≤ x) (h : x < 18446744073709551616) : IntKind.u64.wrap x = x := by
  simp only [IntKind.wrap, IntKind.bits, IntKind.signed]
  simp
  omega
theorem dig_num (u : Nat) (hu : u < 18446744073709551616) : [IntKind.u64.wrap (48 + Int.tmod (u : Int) 10) % 256] = ni [dgc u] := by
  have e : Int.tmod (u : Int) 10 = ((u % 10 : Nat) : Int) := by
    rw [Int.tmod_eq_emod_of_nonneg (by omega)]; omega
  rw [e, w64 (by omega) (by omega)]
  simp only [ni, List.map_cons, List.map_nil, dgc_nat]
  congr 1
  omega
theorem div_num (u : Nat) (hu : u < 18446744073709551616) : IntKind.u64.wrap (Int.tdiv (u : Int) 10) = ((u / 10 : Nat) : Int) := by
  have e : Int.tdiv (u : Int) 10 = ((u / 10 : Nat) : Int) := by
    rw [Int.tdiv_eq_ediv_of_nonneg (by omega)]; omega
  rw [e, w64 (by omega) (by omega)]
def signT (n : Int) (l : List UInt8) : List UInt8 := if n < 0 then 45 :: l else l
theorem text_done (n : Int) (acc : ByteArray) (h : acc.data.toList ≠ []) (hz : acc.size ≤ 100) : Ev (fun k => linhayref01_Text.l0 k n acc ((0 : Nat) : Int)) (Sp.mk (signT n acc.data.toList)) := by
  refine Ev.step (fun k => by rw [linhayref01_Text.l0]) ?_
  refine ev_neg (by rw [toL]; exact h) (ev_neg (by omega) ?_)
  by_cases hn : n < 0
  · have e : Sp.mk (signT n acc.data.toList) = (⟨#[45]⟩ : ByteArray) ++ acc := by unfold signT; rw [if_pos hn, Sp.mk_cons, Sp.mk_of]
    rw [e]
    exact ev_pos hn (ev_pos (by omega) (Ev.now _))
  · have e : Sp.mk (signT n acc.data.toList) = acc := by unfold signT; rw [if_neg hn, Sp.mk_of]
    rw [e]
    exact ev_neg hn (Ev.now _)
theorem text_step (n : Int) (u : Nat) (acc : ByteArray) (r : ByteArray) (hu : u < 18446744073709551616) (hz : acc.size ≤ 100) (h : acc.data.toList = [] ∨ 0 < u)
    (hr : Ev (fun k => linhayref01_Text.l0 k n (Sp.mk (dgc u :: acc.data.toList)) ((u / 10 : Nat) : Int)) r) : Ev (fun k => linhayref01_Text.l0 k n acc (u : Int)) r := by
  refine Ev.step (fun k => by rw [linhayref01_Text.l0]) ?_
  have e1 : (strOfNums (ni [dgc u]) ++ acc) = Sp.mk (dgc u :: acc.data.toList) := by
    rw [strOfNums_ni, show dgc u :: acc.data.toList = [dgc u] ++ acc.data.toList from rfl, Sp.mk_append, Sp.mk_of]
  have e2 : (strOfNums (ni [dgc u])).size = 1 := by rw [strOfNums_ni, Sp.mk_size]; rfl
  have body : Ev (fun k => (some [IntKind.u64.wrap (48 + Int.tmod (u : Int) 10) % 256]).bind fun y => (if (strOfNums y).size + acc.size ≤ 9223372036854775807 then (linhayref01_Text.l0 k n ((strOfNums y) ++ acc) (IntKind.u64.wrap (Int.tdiv (u : Int) 10))) else none)) r := by
    rw [dig_num u hu, div_num u hu]
    refine ev_some (ev_pos (by rw [e2]; omega) ?_)
    rw [e1]
    exact hr
  by_cases h0 : acc.toList = []
  · exact ev_pos h0 body
  · refine ev_neg h0 (ev_pos ?_ body)
    rcases h with h | h
    · exact absurd (by rw [toL]; exact h) h0
    · omega
theorem text_main (n : Int) : ∀ (k u : Nat) (acc : ByteArray), u < 10 ^ (k + 1) → u < 18446744073709551616 → acc.size + k ≤ 60 → (acc.data.toList = [] ∨ 0 < u) →
    Ev (fun k => linhayref01_Text.l0 k n acc (u : Int)) (Sp.mk (signT n (Lib.decDigits u ++ acc.data.toList))) := by
  intro k
  induction k with
  | zero =>
    intro u acc hu hu2 hz h
    have h10 : u < 10 := by simpa using hu
    rw [dec_step, if_pos h10]
    refine text_step n u acc _ hu2 (by omega) h ?_
    rw [show u / 10 = 0 by omega]
    have := text_done n (Sp.mk (dgc u :: acc.data.toList)) (by rw [Sp.mk_data]; simp) (by rw [Sp.mk_size, List.length_cons, ← Sp.size_eq]; omega)
    rw [Sp.mk_data] at this
    exact this
  | succ k ih =>
    intro u acc hu hu2 hz h
    rw [dec_step]
    by_cases h10 : u < 10
    · rw [if_pos h10]
      refine text_step n u acc _ hu2 (by omega) h ?_
      rw [show u / 10 = 0 by omega]
      have := text_done n (Sp.mk (dgc u :: acc.data.toList)) (by rw [Sp.mk_data]; simp) (by rw [Sp.mk_size, List.length_cons, ← Sp.size_eq]; omega)
      rw [Sp.mk_data] at this
      exact this
    · rw [if_neg h10]
      refine text_step n u acc _ hu2 (by omega) h ?_
      have hp : 10 ^ (k + 1 + 1) = 10 * 10 ^ (k + 1) := by rw [Nat.pow_succ]; omega
      have := ih (u / 10) (Sp.mk (dgc u :: acc.data.toList)) (by rw [hp] at hu; omega) (by omega) (by rw [Sp.mk_size, List.length_cons, ← Sp.size_eq]; omega) (.inr (by omega))
      rw [Sp.mk_data] at this
      rw [List.append_assoc]
      exact this
theorem ref_text (n : Int) (h0 : -9223372036854775808 ≤ n) (h1 : n ≤ 9223372036854775807) : Ev (fun k => linhayref01_Text.f k n) (Sp.mk (Lib.itoa n)) := by
  have hp : (10 : Nat) ^ (19 + 1) = 100000000000000000000 := by decide
  have main : ∀ u : Nat, u < 18446744073709551616 → Ev (fun k => linhayref01_Text.j0 k n ⟨#[]⟩ (u : Int)) (Sp.mk (signT n (Lib.decDigits u))) := by
    intro u hu
    refine Ev.step (fun k => by rw [linhayref01_Text.j0]) ?_
    have := text_main n 19 u ⟨#[]⟩ (by rw [hp]; omega) hu (by show 0 + 19 ≤ 60; omega) (.inl rfl)
    rw [show (⟨#[]⟩ : ByteArray).data.toList = [] from rfl, List.append_nil] at this
    exact this
  unfold linhayref01_Text.f Lib.itoa
  by_cases hn : n < 0
  · rw [if_pos hn]
    have e : IntKind.u64.wrap (-(IntKind.u64.wrap n)) = ((n.natAbs : Nat) : Int) := by
      simp only [IntKind.wrap, IntKind.bits, IntKind.signed]
      simp
      omega
    rw [e]
    have := main n.natAbs (by omega)
    unfold signT at this
    rw [if_pos hn] at this
    exact ev_pos hn this
  · rw [if_neg hn]
    have e : IntKind.u64.wrap n = ((n.toNat : Nat) : Int) := by rw [w64 (by omega) (by omega)]; omega
    rw [e]
    have := main n.toNat (by omega)
    unfold signT at this
    rw [if_neg hn] at this
    exact ev_neg hn this
theorem back_num (n low high : Int) (h0 : -9223372036854775808 ≤ n) (h1 : n ≤ 9223372036854775807) : goodN (Lib.itoa n) = true ∧ overN (Lib.itoa n) = false ∧ valN (Lib.itoa n) = n := by
  unfold Lib.itoa
  by_cases hn : n < 0
  · rw [if_pos hn]
    obtain ⟨d1, d2, d3, d4⟩ := dec_good n.natAbs
    have e1 : negB (45 :: Lib.decDigits n.natAbs) = true := rfl
    have e2 : magL (45 :: Lib.decDigits n.natAbs) = Lib.decDigits n.natAbs := by unfold magL; rw [e1, if_pos rfl]; rfl
    refine ⟨?_, ?_, ?_⟩
    · unfold goodN
      rw [e2, decide_eq_true d3, d1, decide_eq_false (fun h => d4 (by omega) h.1)]; rfl
    · unfold overN
      rw [e1, e2, d2, if_pos rfl]
      exact decide_eq_false (by omega)
    · unfold valN
      rw [e1, e2, d2, if_pos rfl]
      omega
  · rw [if_neg hn]
    obtain ⟨d1, d2, d3, d4⟩ := dec_good n.toNat
    have e1 : negB (Lib.decDigits n.toNat) = false := by
      cases hd : Lib.decDigits n.toNat with
      | nil => exact absurd hd d3
      | cons a l =>
        unfold negB
        rw [hd, List.all_cons, Bool.and_eq_true] at d1
        have ha := of_decide_eq_true d1.1
        have : a ≠ 45 := by rintro rfl; have e : (45 : UInt8).toNat = 45 := rfl; omega
        simpa using this
    have e2 : magL (Lib.decDigits n.toNat) = Lib.decDigits n.toNat := by unfold magL; rw [e1, if_neg (by simp)]
    refine ⟨?_, ?_, ?_⟩
    · unfold goodN
      rw [e2, decide_eq_true d3, d1]
      have : ¬ ((Lib.decDigits n.toNat).head? = some 48 ∧ Lib.decDigits n.toNat ≠ [48]) := by
        rintro ⟨g1, g2⟩
        by_cases h : 0 < n.toNat
        · exact d4 h g1
        · have : n.toNat = 0 := by omega
          rw [this] at g2
          exact g2 (by rw [dec_step, if_pos (by omega)]; rfl)
      rw [decide_eq_false this]; rfl
    · unfold overN
      rw [e1, e2, d2, if_neg (by simp)]
      exact decide_eq_false (by omega)
    · unfold valN
      rw [e1, e2, d2, if_neg (by simp)]
      omega
end Go.Proofs.YtbbojnjagaljmaaDoor.Nu
