/- Lines of tasks: parsed by the program and by the reference; plain functions on bytes. -/
import Derived.Test.YtocpdhbkfgolfaaDoorPureTask
import Derived.Test.YtocpdhbkfgolfaaDoorX17
import Derived.Test.YtocpdhbkfgolfaaDoorX16
import Derived.Test.YtocpdhbkfgolfaaDoorX16
import Derived.Test.YtocpdhbkfgolfaaDoorX16
namespace Go.Proofs.YtocpdhbkfgolfaaDoor.Pu
open Go Go.RowKit Go.Proofs Go.Proofs.YtocpdhbkfgolfaaDoor Go.Proofs.YtocpdhbkfgolfaaDoorW.PrintWords Go.Proofs.YtocpdhbkfgolfaaDoor.Ext Go.Proofs.YtocpdhbkfgolfaaDoor.X
set_option linter.unusedVariables false
set_option linter.unusedSimpArgs false

theorem isEm (l : List UInt8) : (l == ([] : List UInt8)) = l.isEmpty := by cases l <;> rfl
def realT (p : List UInt8) : Bool := Pa.isPath p && (p != [47])
def rightT (K : Int) (p t : List UInt8) : Bool :=
  realT p && (if K = 1 ∨ K = 2 ∨ K = 4 then t.isEmpty else if K = 3 then !t.isEmpty && decide (t.length ≤ 65536) else if K = 5 then realT t else (K == 6) && decide (t.length ≤ 65536))
theorem real_f (p : ByteArray) (hp : p.size < 2147483000) : task_real.f p = some (realT p.data.toList) := by
  unfold task_real.f realT
  rw [path_Is.f, if_pos (by omega), Option.bind_some, toL]
  cases Pa.isPath p.data.toList <;> simp
theorem len_le (t : ByteArray) (n : Nat) : decide ((t.size : Int) ≤ (n : Int)) = decide (t.data.toList.length ≤ n) := by
  rw [← Sp.size_eq, Bool.eq_iff_iff]; simp
theorem right (K : Int) (p t : ByteArray) (hp : p.size < 2147483000) (ht : t.size < 2147483000) : Ev (fun k => task_Right.f k K p t) (rightT K p.data.toList t.data.toList) := by
  unfold task_Right.f rightT
  rw [real_f p hp]
  refine ev_some ?_
  have hl := len_le t 65536
  cases realT p.data.toList with
  | false => exact ev_neg (by simp) (Ev.now _)
  | true =>
    refine ev_pos rfl ?_
    rw [Bool.true_and]
    have yes : (K = 1 ∨ K = 2 ∨ K = 4) → Ev (fun k => task_Right.j0 k K true K p t) (if K = 1 ∨ K = 2 ∨ K = 4 then t.data.toList.isEmpty else if K = 3 then !t.data.toList.isEmpty && decide (t.data.toList.length ≤ 65536) else if K = 5 then realT t.data.toList else (K == 6) && decide (t.data.toList.length ≤ 65536)) := fun h => by
      refine Ev.step (fun k => by rw [task_Right.j0]) (ev_pos rfl ?_)
      rw [toL, isEm]
      exact ev_to (Ev.now _) (if_pos h).symm
    have no : ¬ (K = 1 ∨ K = 2 ∨ K = 4) → Ev (fun k => task_Right.j0 k K false K p t) (if K = 1 ∨ K = 2 ∨ K = 4 then t.data.toList.isEmpty else if K = 3 then !t.data.toList.isEmpty && decide (t.data.toList.length ≤ 65536) else if K = 5 then realT t.data.toList else (K == 6) && decide (t.data.toList.length ≤ 65536)) := fun h => by
      refine Ev.step (fun k => by rw [task_Right.j0]) (ev_neg (by simp) ?_)
      rw [if_neg h]
      rw [toL, show decide ((t.size : Int) ≤ 65536) = decide (t.data.toList.length ≤ 65536) from hl]
      by_cases h3 : K = 3
      · refine ev_pos h3 ?_
        rw [show (if K = 3 then !t.data.toList.isEmpty && decide (t.data.toList.length ≤ 65536) else if K = 5 then realT t.data.toList else (K == 6) && decide (t.data.toList.length ≤ 65536)) = (!t.data.toList.isEmpty && decide (t.data.toList.length ≤ 65536)) from if_pos h3]
        by_cases h0 : t.data.toList = []
        · exact ev_pos h0 (ev_to (Ev.now _) (by rw [h0]; rfl))
        · refine ev_neg h0 (ev_to (Ev.now _) ?_)
          have : t.data.toList.isEmpty = false := by simpa using h0
          rw [this]; rfl
      · rw [show (if K = 3 then !t.data.toList.isEmpty && decide (t.data.toList.length ≤ 65536) else if K = 5 then realT t.data.toList else (K == 6) && decide (t.data.toList.length ≤ 65536)) = (if K = 5 then realT t.data.toList else (K == 6) && decide (t.data.toList.length ≤ 65536)) from if_neg h3]
        refine ev_neg h3 ?_
        by_cases h5 : K = 5
        · refine ev_pos h5 ?_
          rw [real_f t ht]
          exact ev_some (ev_to (Ev.now _) (if_pos h5).symm)
        · refine ev_neg h5 (ev_to ?_ (if_neg h5).symm)
          by_cases h6 : K = 6
          · refine ev_pos h6 (ev_to (Ev.now _) ?_)
            rw [h6]; rfl
          · refine ev_neg h6 (ev_to (Ev.now _) ?_)
            have : (K == 6) = false := beq_eq_false_iff_ne.2 h6
            rw [this]; rfl
    by_cases h1 : K = 1
    · refine ev_pos h1 ?_
      rw [show (K == 1) = true from beq_iff_eq.2 h1]
      exact yes (.inl h1)
    · refine ev_neg h1 ?_
      by_cases h2 : K = 2
      · refine ev_pos h2 ?_
        rw [show (K == 2) = true from beq_iff_eq.2 h2]
        exact yes (.inr (.inl h2))
      · refine ev_neg h2 ?_
        by_cases h4 : K = 4
        · rw [show (K == 4) = true from beq_iff_eq.2 h4]
          exact yes (.inr (.inr h4))
        · rw [show (K == 4) = false from beq_eq_false_iff_ne.2 h4]
          exact no (by omega)
theorem r_right (K : Int) (p t : ByteArray) (hp : p.size < 2147483000) (ht : t.size < 2147483000) : Ev (fun k => linhayref19_Right.f k K p t) (rightT K p.data.toList t.data.toList) := by
  unfold linhayref19_Right.f rightT
  refine ev_bind (r04_is p hp) ?_
  have hl := len_le t 65536
  have hl1 : ((t.size : Int) ≥ 1) ↔ t.data.toList ≠ [] := by
    rw [Sp.size_eq, ne_eq, ← List.length_eq_zero_iff]
    omega
  have dead : realT p.data.toList = false → Ev (fun k => linhayref19_Right.j0 k true K p t) (realT p.data.toList && (if K = 1 ∨ K = 2 ∨ K = 4 then t.data.toList.isEmpty else if K = 3 then !t.data.toList.isEmpty && decide (t.data.toList.length ≤ 65536) else if K = 5 then realT t.data.toList else (K == 6) && decide (t.data.toList.length ≤ 65536))) := fun h => by
    rw [h]
    refine Ev.step (fun k => by rw [linhayref19_Right.j0]) ?_
    exact ev_pos rfl (Ev.now _)
  cases hi : Pa.isPath p.data.toList with
  | false => exact ev_neg (by simp) (dead (by unfold realT; rw [hi]; rfl))
  | true =>
    refine ev_pos rfl ?_
    rw [toL]
    by_cases h47 : p.data.toList = [47]
    · rw [show (p.data.toList == [47]) = true by rw [h47]; rfl]
      exact dead (by unfold realT; rw [hi, h47]; rfl)
    · have hr : realT p.data.toList = true := by unfold realT; rw [hi]; simpa using h47
      rw [show (p.data.toList == [47]) = false by simpa using h47, hr, Bool.true_and]
      refine Ev.step (fun k => by rw [linhayref19_Right.j0]) (ev_neg (by simp) ?_)
      have yes : (K = 1 ∨ K = 2 ∨ K = 4) → Ev (fun k => linhayref19_Right.j1 k true K p t) (if K = 1 ∨ K = 2 ∨ K = 4 then t.data.toList.isEmpty else if K = 3 then !t.data.toList.isEmpty && decide (t.data.toList.length ≤ 65536) else if K = 5 then realT t.data.toList else (K == 6) && decide (t.data.toList.length ≤ 65536)) := fun h => by
        refine Ev.step (fun k => by rw [linhayref19_Right.j1]) (ev_pos rfl ?_)
        rw [toL, isEm]
        exact ev_to (Ev.now _) (if_pos h).symm
      by_cases h1 : K = 1
      · exact ev_pos h1 (yes (.inl h1))
      · refine ev_neg h1 ?_
        by_cases h2 : K = 2
        · exact ev_pos h2 (yes (.inr (.inl h2)))
        · refine ev_neg h2 ?_
          by_cases h4 : K = 4
          · rw [show (K == 4) = true from beq_iff_eq.2 h4]
            exact yes (.inr (.inr h4))
          · rw [show (K == 4) = false from beq_eq_false_iff_ne.2 h4]
            refine Ev.step (fun k => by rw [linhayref19_Right.j1]) (ev_neg (by simp) ?_)
            refine ev_to ?_ (if_neg (by omega)).symm
            rw [show decide ((t.size : Int) ≤ 65536) = decide (t.data.toList.length ≤ 65536) from hl]
            by_cases h3 : K = 3
            · refine ev_pos h3 (ev_to ?_ (if_pos h3).symm)
              by_cases h0 : t.data.toList = []
              · exact ev_neg (by rw [hl1]; simpa using h0) (ev_to (Ev.now _) (by rw [h0]; rfl))
              · refine ev_pos (hl1.2 h0) (ev_to (Ev.now _) ?_)
                have : t.data.toList.isEmpty = false := by simpa using h0
                rw [this]; rfl
            · refine ev_neg h3 (ev_to ?_ (if_neg h3).symm)
              by_cases h5 : K = 5
              · refine ev_pos h5 (ev_to (ev_bind (r04_is t ht) ?_) (if_pos h5).symm)
                unfold realT
                cases Pa.isPath t.data.toList with
                | false => exact ev_neg (by simp) (Ev.now _)
                | true => refine ev_pos rfl ?_; rw [toL]; exact Ev.now _
              · refine ev_neg h5 (ev_to ?_ (if_neg h5).symm)
                by_cases h6 : K = 6
                · refine ev_pos h6 (ev_to (Ev.now _) ?_)
                  rw [h6]; rfl
                · refine ev_neg h6 (ev_to (Ev.now _) ?_)
                  have : (K == 6) = false := beq_eq_false_iff_ne.2 h6
                  rw [this]; rfl

/-! ### what stands between blanks -/
def spl1 : List UInt8 → List (List UInt8)
  | [] => [[]]
  | c :: t => if c = 32 then [] :: spl1 t else match spl1 t with | h :: r => (c :: h) :: r | [] => [[c]]
def glue (now : List UInt8) : List (List UInt8) → List (List UInt8)
  | h :: r => (now ++ h) :: r
  | [] => [now]
theorem spl1_ne (l : List UInt8) : spl1 l ≠ [] := by
  cases l with
  | nil => simp [spl1]
  | cons c t => rw [spl1]; split; · simp
                split <;> simp
theorem glue_nil {l : List (List UInt8)} (h : l ≠ []) : glue [] l = l := by cases l with | nil => exact absurd rfl h | cons a b => rfl
theorem glue_glue (a : List UInt8) (c : UInt8) (t : List UInt8) : glue a (match spl1 t with | h :: r => (c :: h) :: r | [] => [[c]]) = glue (a ++ [c]) (spl1 t) := by
  cases h : spl1 t with
  | nil => exact absurd h (spl1_ne t)
  | cons x y => simp [glue]
theorem idx_cons (c : UInt8) (t : List UInt8) : Lib.index (c :: t) [32] = if c = 32 then 0 else if Lib.index t [32] = -1 then -1 else Lib.index t [32] + 1 := by
  rw [Lib.index_one, Lib.index_one, Lib.indexByte]
  by_cases h : c = 32
  · rw [if_pos (by simpa using h), if_pos h]
  · rw [if_neg (by simpa using h), if_neg h]
    by_cases h2 : Lib.indexByte t 32 = -1
    · rw [if_pos (by simpa using h2), if_pos h2]
    · rw [if_neg (by simpa using h2), if_neg h2]
theorem splitK_cons {c : UInt8} (h : c ≠ 32) (t : List UInt8) : ∀ k, Lib.splitK [32] 0 k (c :: t) = match Lib.splitK [32] 0 k t with | x :: r => (c :: x) :: r | [] => [[c]]
  | 0 => by simp [Lib.splitK]
  | k + 1 => by
    rw [Lib.splitK, Lib.splitK, idx_cons, if_neg h]
    have hg := Lib.index_ge t [32]
    by_cases h2 : Lib.index t [32] = -1
    · simp [h2]
    · obtain ⟨i, hi⟩ := Int.eq_ofNat_of_zero_le (show 0 ≤ Lib.index t [32] by omega)
      have e1 : ((Lib.index t [32] + 1) == -1) = false := beq_eq_false_iff_ne.2 (by omega)
      have e2 : ((Lib.index t [32]) == -1) = false := beq_eq_false_iff_ne.2 h2
      rw [if_neg h2, e1, e2, hi]
      have e3 : ((i : Int) + 1).toNat = i + 1 := by omega
      simp [e3]
theorem count_cons {c : UInt8} (h : c ≠ 32) (t : List UInt8) : Lib.count (c :: t) [32] = Lib.count t [32] := by
  have hg := Lib.index_ge t [32]
  have hx := idx_cons c t
  rw [if_neg h] at hx
  by_cases h2 : Lib.index t [32] = -1
  · rw [if_pos h2] at hx
    rw [Lib.count_miss hx, Lib.count_miss h2]
  · rw [if_neg h2] at hx
    obtain ⟨i, hi⟩ := Int.eq_ofNat_of_zero_le (show 0 ≤ Lib.index t [32] by omega)
    rw [Lib.count_hit (i := i + 1) (by simp) (by rw [hx, hi]; omega), Lib.count_hit (i := i) (by simp) hi]
    simp
theorem split_spl : ∀ t : List UInt8, Lib.splitK [32] 0 (Lib.count t [32]) t = spl1 t
  | [] => by
    have h : Lib.index [] [32] = -1 := by decide
    rw [Lib.count_miss h]; rfl
  | c :: t => by
    by_cases h : c = 32
    · subst h
      have hx : Lib.index (32 :: t) [32] = ((0 : Nat) : Int) := by rw [idx_cons, if_pos rfl]; rfl
      rw [Lib.count_hit (i := 0) (by simp) hx, Nat.add_comm, Lib.splitK, hx]
      have := split_spl t
      simp [spl1, this]
    · rw [count_cons h, splitK_cons h, split_spl t, spl1, if_neg h]
theorem split_bs (s : ByteArray) : Lib.splitB ⟨#[32]⟩ 0 (Lib.countB s ⟨#[32]⟩) s = bs (spl1 s.data.toList) := by
  have h := Lib.splitB_data ⟨#[32]⟩ 0 (Lib.countB s ⟨#[32]⟩) s
  rw [← split_spl]
  have e : Lib.splitK (⟨#[32]⟩ : ByteArray).data.toList 0 (Lib.countB s ⟨#[32]⟩) s.data.toList = Lib.splitK [32] 0 (Lib.count s.data.toList [32]) s.data.toList := rfl
  rw [← e, ← h, bs, List.map_map]
  conv => lhs; rw [← List.map_id (Lib.splitB ⟨#[32]⟩ 0 (Lib.countB s ⟨#[32]⟩) s)]
  apply List.map_congr_left
  intro a _
  exact (Sp.mk_of a).symm
theorem spl1_len (l : List UInt8) : (spl1 l).length ≤ l.length + 1 ∧ ∀ x ∈ spl1 l, x.length ≤ l.length := by
  induction l with
  | nil => simp [spl1]
  | cons c t ih =>
    rw [spl1]
    split
    · refine ⟨by simp; omega, ?_⟩
      intro x hx
      rcases List.mem_cons.1 hx with rfl | hx
      · simp
      · have := ih.2 x hx; simp; omega
    · cases h : spl1 t with
      | nil => exact absurd h (spl1_ne t)
      | cons a b =>
        rw [h] at ih
        refine ⟨by simp at ih ⊢; omega, ?_⟩
        intro x hx
        rcases List.mem_cons.1 hx with rfl | hx
        · have := ih.2 a (by simp); simp; omega
        · have := ih.2 x (by simp [hx]); simp; omega
theorem r_parts_l0 (s : ByteArray) (hs : s.size < 4294967281) : ∀ (d i : Nat) (out : List (List UInt8)) (now : List UInt8), i + d = s.size → out.length ≤ i → now.length ≤ i →
    Ev (fun k => linhayref19_parts.l0 k s (bs (out ++ [now])) (i : Int)) (bs (out ++ glue now (spl1 (s.data.toList.drop i)))) := by
  intro d
  induction d with
  | zero =>
    intro i out now hi ho hn
    refine Ev.step (fun k => by rw [linhayref19_parts.l0]) (ev_neg (by omega) ?_)
    rw [List.drop_eq_nil_of_le (by rw [← Sp.size_eq]; omega)]
    simp only [spl1, glue, List.append_nil]
    exact Ev.now _
  | succ d ih =>
    intro i out now hi ho hn
    obtain ⟨c, hc, hdr⟩ := get_at s (i := i) (by omega)
    refine Ev.step (fun k => by rw [linhayref19_parts.l0]) (ev_pos (by omega) (ev_pos (by omega) ?_))
    rw [bt_nat hc, w1 (by omega), hdr, spl1]
    have hlen : (bs (out ++ [now])).length = out.length + 1 := by rw [bs_len]; simp
    by_cases h : c = 32
    · subst h
      refine ev_pos rfl (ev_pos (by rw [hlen]; omega) ?_)
      have e : bs (out ++ [now]) ++ [(⟨#[]⟩ : ByteArray)] = bs ((out ++ [now]) ++ [[]]) := by rw [bs_append (out ++ [now])]; rfl
      rw [e]
      have := ih (i + 1) (out ++ [now]) [] (by omega) (by simp; omega) (by simp)
      rw [glue_nil (spl1_ne _)] at this
      rw [if_pos rfl]
      simpa [glue] using this
    · refine ev_neg (fun e => h ((u8_lit 32 (by omega)).1 e)) ?_
      rw [hlen, wr (x := ((out.length + 1 : Nat) : Int) - 1) (by omega) (by omega), show ((out.length + 1 : Nat) : Int) - 1 = ((out.length : Nat) : Int) by omega]
      have e1 : rdOf ByteArray.empty (bs (out ++ [now])) (out.length : Int) = Sp.mk now := rd_nat (by rw [bs_get]; simp)
      refine ev_pos (by omega) (ev_pos (by omega) (ev_pos (by omega) (ev_pos (by omega) ?_)))
      rw [e1, Int.toNat_natCast, Int.toNat_natCast, ex1 hc, Int.toNat_natCast, app_mk, Sp.mk_size, Sp.mk_size]
      refine ev_pos (by simp; omega) ?_
      have e2 : (bs (out ++ [now])).set out.length (Sp.mk (now ++ [c])) = bs (out ++ [now ++ [c]]) := by
        rw [bs_append, bs_append, List.set_append_right _ _ (by rw [bs_len]; omega), bs_len]; simp [bs]
      rw [e2, if_neg h, glue_glue]
      exact ih (i + 1) out (now ++ [c]) (by omega) (by omega) (by simp; omega)
theorem r_parts (s : ByteArray) (hs : s.size < 4294967281) : Ev (fun k => linhayref19_parts.f k s) (bs (spl1 s.data.toList)) := by
  have h := r_parts_l0 s hs s.size 0 [] [] (by omega) (by simp) (by simp)
  rw [List.drop_zero, glue_nil (spl1_ne _)] at h
  simpa [bs, Sp.mk, linhayref19_parts.f] using h

/-! ### parsed -/
theorem sh_ge (l : List UInt8) : l.length ≤ (sh l).length := by
  induction l with
  | nil => simp
  | cons c l ih =>
    have : 1 ≤ (shC c).length := by unfold shC; split <;> simp
    rw [sh_cons, List.length_append, List.length_cons]; omega
theorem bareR_size (l : List UInt8) : (bareR l).1.size ≤ l.length := by
  unfold bareR
  cases h : bare l with
  | none => exact Nat.zero_le _
  | some o =>
    have := sh_ge o
    rw [sh_bare _ l o (Nat.le_refl _) h] at this
    simpa [Sp.mk_size] using this
def oneT (K : Int) (x : BB) : P4 := if x.2 = true then (if rightT K x.1.data.toList [] = true then (K, x.1, (⟨#[]⟩ : ByteArray), 0) else nulT 2) else nulT 3
def twoT (K : Int) (x y : BB) : P4 := if x.2 = true then (if y.2 = true then (if rightT K x.1.data.toList y.1.data.toList = true then (K, x.1, y.1, 0) else nulT 2) else nulT 3) else nulT 3
def wordsT (K : Int) : List (List UInt8) → P4
  | [_, a] => if K = 1 ∨ K = 2 ∨ K = 4 then oneT K (bareR a) else nulT 3
  | [_, a, b] => if K = 3 ∨ K = 5 ∨ K = 6 then twoT K (bareR a) (bareR b) else nulT 3
  | _ => nulT 3
def parseT (l : List (List UInt8)) : P4 := if kindV (l.getD 0 []) = 0 then nulT 3 else wordsT (kindV (l.getD 0 [])) l
theorem kindV_range (s : List UInt8) : 0 ≤ kindV s ∧ kindV s ≤ 6 := by
  unfold kindV
  repeat' split
  all_goals omega
theorem two_f (K : Int) : task_two.f K = some (decide (K = 3 ∨ K = 5 ∨ K = 6)) := by
  unfold task_two.f
  by_cases h3 : K = 3
  · simp [h3]
  · by_cases h5 : K = 5
    · simp [h5]
    · by_cases h6 : K = 6
      · simp [h6]
      · simp [h3, h5, h6]
theorem bareR_data (a : List UInt8) (ha : a.length < 2147483000) : Ev (fun k => task_Bare.f k (Sp.mk a)) (bareR a) := by
  have := bare_ev (Sp.mk a) (by rw [Sp.mk_size]; omega)
  rwa [Sp.mk_data] at this
theorem r_bareR_data (a : List UInt8) (ha : a.length < 2147483000) : Ev (fun k => linhayref19_Bare.f k (Sp.mk a)) (bareR a) := by
  have := r_bare (Sp.mk a) (by rw [Sp.mk_size]; omega)
  rwa [Sp.mk_data] at this
theorem parseRight_ev (K : Int) (p t : ByteArray) (hp : p.size < 2147483000) (ht : t.size < 2147483000) :
    Ev (fun k => parseRight k K p t) (if rightT K p.data.toList t.data.toList = true then (K, p, t, 0) else nulT 2) := by
  unfold parseRight
  refine ev_bind (right K p t hp ht) ?_
  cases rightT K p.data.toList t.data.toList with
  | false => exact ev_neg (by simp) (Ev.now _)
  | true => exact ev_pos rfl (Ev.now _)
theorem words_ev (K : Int) (hK : 1 ≤ K ∧ K ≤ 6) (l : List (List UInt8)) (hl : ∀ x ∈ l, x.length < 2147483000) : Ev (fun k => parseWords k K (decide (K = 3 ∨ K = 5 ∨ K = 6)) (bs l)) (wordsT K l) := by
  match l, hl with
  | [], _ => exact Ev.now _
  | [_], _ => exact Ev.now _
  | [a0, a], hl =>
    show Ev (fun k => if decide (K = 3 ∨ K = 5 ∨ K = 6) = true then some (nulT 3) else (task_Bare.f k (Sp.mk a)).bind fun x => if x.2 = true then parseRight k K x.1 ⟨#[]⟩ else some (nulT 3)) (if K = 1 ∨ K = 2 ∨ K = 4 then oneT K (bareR a) else nulT 3)
    have ha := hl a (by simp)
    have hz := bareR_size a
    by_cases h : K = 3 ∨ K = 5 ∨ K = 6
    · exact ev_to (ev_pos (by simpa using h) (Ev.now _)) (if_neg (by omega)).symm
    · refine ev_to (ev_neg (by simpa using h) (ev_bind (bareR_data a ha) ?_)) (if_pos (by omega)).symm
      unfold oneT
      cases (bareR a).2 with
      | false => exact ev_neg (by simp) (Ev.now _)
      | true => exact ev_pos rfl (parseRight_ev K _ _ (by omega) (by decide))
  | [a0, a, b], hl =>
    show Ev (fun k => if decide (K = 3 ∨ K = 5 ∨ K = 6) = true then (task_Bare.f k (Sp.mk a)).bind fun x => if x.2 = true then ((task_Bare.f k (Sp.mk b)).bind fun y => if y.2 = true then parseRight k K x.1 y.1 else some (nulT 3)) else some (nulT 3) else some (nulT 3)) (if K = 3 ∨ K = 5 ∨ K = 6 then twoT K (bareR a) (bareR b) else nulT 3)
    have ha := hl a (by simp)
    have hb := hl b (by simp)
    have hz := bareR_size a
    have hz2 := bareR_size b
    by_cases h : K = 3 ∨ K = 5 ∨ K = 6
    · refine ev_to (ev_pos (by simpa using h) (ev_bind (bareR_data a ha) ?_)) (if_pos h).symm
      unfold twoT
      cases (bareR a).2 with
      | false => exact ev_neg (by simp) (Ev.now _)
      | true =>
        refine ev_pos rfl (ev_bind (bareR_data b hb) ?_)
        cases (bareR b).2 with
        | false => exact ev_neg (by simp) (Ev.now _)
        | true => exact ev_pos rfl (parseRight_ev K _ _ (by omega) (by omega))
    · exact ev_to (ev_neg (by simpa using h) (Ev.now _)) (if_neg h).symm
  | a0 :: a :: b :: c :: d, _ => exact Ev.now _
theorem bs_getD (l : List (List UInt8)) : ((bs l).getD 0 ⟨#[]⟩).data.toList = l.getD 0 [] := by cases l <;> simp [bs]
theorem parse_ev (s : ByteArray) (hs : s.size < 2147483000) : Ev (fun k => task_Parse.f k s) (parseT (spl1 s.data.toList)) := by
  unfold task_Parse.f parseT
  refine ev_pos (by omega) ?_
  simp only [split_bs, bs_getD, two_f]
  refine ev_some ?_
  have hr := kindV_range ((spl1 s.data.toList).getD 0 [])
  generalize kindV ((spl1 s.data.toList).getD 0 []) = K at hr ⊢
  by_cases h : K = 0
  · exact ev_to (ev_pos h (Ev.now _)) (if_pos h).symm
  · refine ev_to (ev_neg h ?_) (if_neg h).symm
    exact words_ev K (by omega) _ (fun x hx => by have := (spl1_len s.data.toList).2 x hx; rw [← Sp.size_eq] at this; omega)

/-! ### the reference -/
def vbl (x : Int) : List UInt8 := if x = 1 then [109, 107, 100, 105, 114] else if x = 2 then [114, 109, 100, 105, 114] else if x = 3 then [108, 105, 110, 107] else if x = 4 then [117, 110, 108, 105, 110, 107] else if x = 5 then [109, 111, 118, 101] else [119, 114, 105, 116, 101]
theorem verb_f (x : Int) : linhayref19_verb.f x = some (Sp.mk (vbl x)) := by
  unfold linhayref19_verb.f vbl
  by_cases h1 : x = 1
  · simp [h1, Sp.mk]
  by_cases h2 : x = 2
  · simp [h2, Sp.mk]
  by_cases h3 : x = 3
  · simp [h3, Sp.mk]
  by_cases h4 : x = 4
  · simp [h4, Sp.mk]
  by_cases h5 : x = 5
  · simp [h5, Sp.mk]
  simp [h1, h2, h3, h4, h5, Sp.mk]
theorem kind_vbl {x : Int} (h : 1 ≤ x ∧ x ≤ 6) : kindV (vbl x) = x := by
  obtain rfl | rfl | rfl | rfl | rfl | rfl : x = 1 ∨ x = 2 ∨ x = 3 ∨ x = 4 ∨ x = 5 ∨ x = 6 := by omega
  all_goals rfl
theorem vbl_kind {s : List UInt8} (h : kindV s ≠ 0) : vbl (kindV s) = s := by
  unfold kindV at h ⊢
  repeat' split
  all_goals first
    | (rename_i e; rw [e]; rfl)
    | (rename_i a b c d e f; simp [a, b, c, d, e, f] at h)
def wantN (x : Int) : Int := if x = 3 ∨ 5 ≤ x then 3 else 2
theorem ref_to_j2 (l : List ByteArray) (x : Int) (hx : 1 ≤ x ∧ x ≤ 6) (R : P4) (h : Ev (fun k => linhayref19_Parse.j2 k l x (wantN x)) R) : Ev (fun k => linhayref19_Parse.l0 k l x) R := by
  refine Ev.step (fun k => by rw [linhayref19_Parse.l0]) (ev_pos (by omega) ?_)
  by_cases h3 : x = 3
  · refine ev_pos h3 ?_
    refine Ev.step (fun k => by rw [linhayref19_Parse.j1]) (ev_pos rfl ?_)
    rw [wantN, if_pos (.inl h3)] at h
    exact h
  · refine ev_neg h3 ?_
    refine Ev.step (fun k => by rw [linhayref19_Parse.j1]) ?_
    by_cases h5 : 5 ≤ x
    · rw [wantN, if_pos (.inr h5)] at h
      exact ev_pos (by simpa using h5) h
    · rw [wantN, if_neg (by omega)] at h
      exact ev_neg (by simpa using h5) h
theorem ref_skip (l : List (List UInt8)) (hne : l ≠ []) (x : Int) (hx : 1 ≤ x ∧ x ≤ 6) (R : P4) (hm : l.getD 0 [] ≠ vbl x ∨ (l.length : Int) ≠ wantN x) (h : Ev (fun k => linhayref19_Parse.l0 k (bs l) (x + 1)) R) : Ev (fun k => linhayref19_Parse.l0 k (bs l) x) R := by
  refine ref_to_j2 _ x hx R ?_
  have hl : 0 < l.length := List.length_pos_iff.2 hne
  refine Ev.step (fun k => by rw [linhayref19_Parse.j2]) (ev_pos (by rw [bs_len]; omega) ?_)
  rw [verb_f]
  refine ev_some ?_
  have hgo : Ev (fun k => linhayref19_Parse.j3 k (bs l) x (wantN x) true) R := by
    refine Ev.step (fun k => by rw [linhayref19_Parse.j3]) (ev_pos rfl ?_)
    rw [wr (x := x + 1) (by omega) (by omega)]
    exact h
  have e : (rdOf ByteArray.empty (bs l) 0).toList = l.getD 0 [] := by
    rw [toL]
    cases l with
    | nil => exact absurd rfl hne
    | cons a b => rw [show (0 : Int) = ((0 : Nat) : Int) from rfl, rd_nat (l := bs (a :: b)) (i := 0) (x := Sp.mk a) rfl]; simp
  rw [e, toList_mk, bs_len]
  by_cases h0 : l.getD 0 [] = vbl x
  · refine ev_pos h0 ?_
    rw [show ((l.length : Int) != wantN x) = true from bne_iff_ne.2 (hm.resolve_left (fun c => c h0))]
    exact hgo
  · exact ev_neg h0 hgo
theorem ref_hit (l : List (List UInt8)) (hne : l ≠ []) (hl : ∀ x ∈ l, x.length < 2147483000) (x : Int) (hx : 1 ≤ x ∧ x ≤ 6) (h0 : l.getD 0 [] = vbl x) (hn : (l.length : Int) = wantN x) : Ev (fun k => linhayref19_Parse.l0 k (bs l) x) (wordsT x l) := by
  refine ref_to_j2 _ x hx _ ?_
  have hl0 : 0 < l.length := List.length_pos_iff.2 hne
  refine Ev.step (fun k => by rw [linhayref19_Parse.j2]) (ev_pos (by rw [bs_len]; omega) ?_)
  rw [verb_f]
  refine ev_some ?_
  have e : (rdOf ByteArray.empty (bs l) 0).toList = l.getD 0 [] := by
    rw [toL]
    cases l with
    | nil => exact absurd rfl hne
    | cons a b => rw [show (0 : Int) = ((0 : Nat) : Int) from rfl, rd_nat (l := bs (a :: b)) (i := 0) (x := Sp.mk a) rfl]; simp
  rw [e, toList_mk, bs_len]
  refine ev_pos h0 ?_
  rw [show ((l.length : Int) != wantN x) = false from bne_eq_false_iff_eq.2 hn]
  refine Ev.step (fun k => by rw [linhayref19_Parse.j3]) (ev_neg (by simp) ?_)
  by_cases h3 : x = 3 ∨ 5 ≤ x
  · have hw : wantN x = 3 := if_pos h3
    rw [hw] at hn ⊢
    match l, hl, hn with
    | [a0, a, b], hl, _ =>
      have ha := hl a (by simp)
      have hb := hl b (by simp)
      have hz := bareR_size a
      have hz2 := bareR_size b
      refine ev_pos (by rw [bs_len]; simp) ?_
      rw [show (1 : Int) = ((1 : Nat) : Int) from rfl, rd_nat (l := bs [a0, a, b]) (i := 1) (x := Sp.mk a) rfl, show (2 : Int) = ((2 : Nat) : Int) from rfl, rd_nat (l := bs [a0, a, b]) (i := 2) (x := Sp.mk b) rfl]
      refine ev_bind (r_bareR_data a ha) (ev_pos rfl (ev_pos (by rw [bs_len]; simp) (ev_bind (r_bareR_data b hb) ?_)))
      show Ev _ (if x = 3 ∨ x = 5 ∨ x = 6 then twoT x (bareR a) (bareR b) else nulT 3)
      refine ev_to ?_ (if_pos (by omega)).symm
      unfold twoT
      refine Ev.step (fun k => by rw [linhayref19_Parse.j4]) ?_
      cases (bareR a).2 with
      | false =>
        refine ev_neg (by simp) ?_
        refine Ev.step (fun k => by rw [linhayref19_Parse.j5]) ?_
        exact ev_pos rfl (Ev.now _)
      | true =>
        refine ev_pos rfl ?_
        refine Ev.step (fun k => by rw [linhayref19_Parse.j5]) ?_
        cases (bareR b).2 with
        | false => exact ev_pos rfl (Ev.now _)
        | true =>
          refine ev_neg (by simp) (ev_bind (r_right x _ _ (by omega) (by omega)) ?_)
          cases rightT x (bareR a).1.data.toList (bareR b).1.data.toList with
          | false => exact ev_neg (by simp) (Ev.now _)
          | true => exact ev_pos rfl (Ev.now _)
  · have hw : wantN x = 2 := if_neg h3
    rw [hw] at hn ⊢
    match l, hl, hn with
    | [a0, a], hl, _ =>
      have ha := hl a (by simp)
      have hz := bareR_size a
      refine ev_pos (by rw [bs_len]; simp) ?_
      rw [show (1 : Int) = ((1 : Nat) : Int) from rfl, rd_nat (l := bs [a0, a]) (i := 1) (x := Sp.mk a) rfl]
      refine ev_bind (r_bareR_data a ha) (ev_neg (by omega) ?_)
      show Ev _ (if x = 1 ∨ x = 2 ∨ x = 4 then oneT x (bareR a) else nulT 3)
      refine ev_to ?_ (if_pos (by omega)).symm
      unfold oneT
      refine Ev.step (fun k => by rw [linhayref19_Parse.j4]) ?_
      cases (bareR a).2 with
      | false =>
        refine ev_neg (by simp) ?_
        refine Ev.step (fun k => by rw [linhayref19_Parse.j5]) ?_
        exact ev_pos rfl (Ev.now _)
      | true =>
        refine ev_pos rfl ?_
        refine Ev.step (fun k => by rw [linhayref19_Parse.j5]) ?_
        refine ev_neg (by simp) (ev_bind (r_right x _ _ (by omega) (by decide)) ?_)
        show Ev _ (if rightT x (bareR a).1.data.toList [] = true then (x, (bareR a).1, (⟨#[]⟩ : ByteArray), 0) else nulT 2)
        cases rightT x (bareR a).1.data.toList [] with
        | false => exact ev_neg (by simp) (Ev.now _)
        | true => exact ev_pos rfl (Ev.now _)
theorem ref_none (l : List (List UInt8)) (hne : l ≠ []) : ∀ (n : Nat) (x : Int), x + n = 7 → 1 ≤ x → (∀ y, x ≤ y → y ≤ 6 → l.getD 0 [] ≠ vbl y ∨ (l.length : Int) ≠ wantN y) → Ev (fun k => linhayref19_Parse.l0 k (bs l) x) (nulT 3) := by
  intro n
  induction n with
  | zero =>
    intro x hx h1 _
    obtain rfl : x = 7 := by omega
    refine Ev.step (fun k => by rw [linhayref19_Parse.l0]) ?_
    exact ev_neg (by omega) (Ev.now _)
  | succ n ih =>
    intro x hx h1 hm
    exact ref_skip l hne x (by omega) _ (hm x (by omega) (by omega)) (ih (x + 1) (by omega) (by omega) (fun y a b => hm y (by omega) b))
theorem ref_till (l : List (List UInt8)) (hne : l ≠ []) (K : Int) (hK : K ≤ 6) (R : P4) (hR : Ev (fun k => linhayref19_Parse.l0 k (bs l) K) R) : ∀ (n : Nat) (x : Int), x + n = K → 1 ≤ x → (∀ y, x ≤ y → y < K → l.getD 0 [] ≠ vbl y) → Ev (fun k => linhayref19_Parse.l0 k (bs l) x) R := by
  intro n
  induction n with
  | zero => intro x hx h1 _; rw [show x = K by omega]; exact hR
  | succ n ih =>
    intro x hx h1 hm
    exact ref_skip l hne x (by omega) _ (.inl (hm x (by omega) (by omega))) (ih (x + 1) (by omega) (by omega) (fun y a b => hm y (by omega) b))
theorem r_parse (s : ByteArray) (hs : s.size < 2147483000) : Ev (fun k => linhayref19_Parse.f k s) (parseT (spl1 s.data.toList)) := by
  unfold linhayref19_Parse.f
  refine ev_bind (r_parts s (by omega)) ?_
  have hne := spl1_ne s.data.toList
  have hl : ∀ x ∈ spl1 s.data.toList, x.length < 2147483000 := fun x hx => by have := (spl1_len s.data.toList).2 x hx; rw [← Sp.size_eq] at this; omega
  generalize spl1 s.data.toList = l at hne hl ⊢
  have hr := kindV_range (l.getD 0 [])
  have hlen : 0 < l.length := List.length_pos_iff.2 hne
  unfold parseT
  by_cases h0 : kindV (l.getD 0 []) = 0
  · rw [if_pos h0]
    exact ref_none l hne 6 1 (by omega) (by omega) (fun y a b => .inl (fun e => by rw [e, kind_vbl ⟨a, b⟩] at h0; omega))
  · rw [if_neg h0]
    have hv := vbl_kind h0
    by_cases hn : (l.length : Int) = wantN (kindV (l.getD 0 []))
    · refine ref_till l hne (kindV (l.getD 0 [])) hr.2 _ (ref_hit l hne hl _ ⟨by omega, hr.2⟩ hv.symm hn) (kindV (l.getD 0 []) - 1).toNat 1 (by omega) (by omega) ?_
      intro y a b e
      have h6 : y ≤ 6 := by omega
      rw [e, kind_vbl ⟨a, h6⟩] at b
      omega
    · have e : wordsT (kindV (l.getD 0 [])) l = nulT 3 := by
        generalize kindV (l.getD 0 []) = K at hn h0 hr
        unfold wantN at hn
        match l, hn with
        | [], _ => rfl
        | [_], _ => rfl
        | [_, a], hn =>
          show (if K = 1 ∨ K = 2 ∨ K = 4 then oneT K (bareR a) else nulT 3) = _
          rw [if_neg]
          intro h
          rw [if_neg (by omega)] at hn
          simp at hn
        | [_, a, b], hn =>
          show (if K = 3 ∨ K = 5 ∨ K = 6 then twoT K (bareR a) (bareR b) else nulT 3) = _
          rw [if_neg]
          intro h
          rw [if_pos (by omega)] at hn
          simp at hn
        | _ :: _ :: _ :: _ :: _, _ => rfl
      rw [e]
      refine ref_none l hne 6 1 (by omega) (by omega) (fun y a b => ?_)
      by_cases ey : y = kindV (l.getD 0 [])
      · rw [ey]; exact .inr hn
      · refine .inl (fun e2 => ey ?_)
        rw [e2, kind_vbl ⟨a, b⟩]

/-! ### the law's own run -/
theorem l19_lives : Ev (fun k => linhaylaw19_lives.f k) true := by
  unfold linhaylaw19_lives.f
  refine ev_bind (parse_ev _ (by decide)) ?_
  have e : parseT (spl1 (⟨#[108, 105, 110, 107, 32, 47, 116, 47, 97, 32, 46, 46, 47, 115, 47, 112, 47, 97, 37, 50, 48, 98]⟩ : ByteArray).data.toList) = (3, ⟨#[47, 116, 47, 97]⟩, ⟨#[46, 46, 47, 115, 47, 112, 47, 97, 32, 98]⟩, 0) := by decide +kernel
  rw [e]
  exact ev_pos rfl (ev_eq (by simp [toL]))
theorem beqL (a : List UInt8) : (a == a) = true := by simp
end Go.Proofs.YtocpdhbkfgolfaaDoor.Pu
