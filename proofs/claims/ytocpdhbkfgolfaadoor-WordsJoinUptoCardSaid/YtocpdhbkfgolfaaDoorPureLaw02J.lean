/- The law WordsJoin. -/
import Derived.Test.YtocpdhbkfgolfaaDoorPureQuote
namespace Go.Proofs.YtocpdhbkfgolfaaDoor.Pu
open Go Go.RowKit Go.Proofs Go.Proofs.YtocpdhbkfgolfaaDoor Go.Proofs.YtocpdhbkfgolfaaDoorW.PrintWords Go.Proofs.YtocpdhbkfgolfaaDoor.Ext Go.Proofs.YtocpdhbkfgolfaaDoor.X
set_option linter.unusedVariables false
set_option linter.unusedSimpArgs false

def jt (r : List ByteArray) : List UInt8 := r.flatMap fun s => 32 :: quote s.data.toList
theorem joinq_jt : ∀ (s : ByteArray) (r : List ByteArray), joinq (s :: r) = quote s.data.toList ++ jt r
  | s, [] => by rw [joinq_one]; simp [jt]
  | s, t :: r => by rw [joinq_cons, joinq_jt t r]; simp [jt]

theorem r02_join_l0 (l : List ByteArray) (hl : l.length ≤ 100) (h : ∀ s ∈ l, s.size ≤ 4096) : ∀ (d i : Nat), i + d = l.length → 0 < i → ∀ acc : List UInt8, acc.length ≤ i * 30000 →
    Ev (fun k => linhayref02_Join.l0 k l (Sp.mk acc) (i : Int)) (Sp.mk (acc ++ jt (l.drop i))) := by
  intro d
  induction d with
  | zero =>
    intro i hi h0 acc ha
    refine Ev.step (fun k => by rw [linhayref02_Join.l0]) ?_
    refine ev_neg (by omega) ?_
    have e : l.drop i = [] := List.drop_eq_nil_of_le (by omega)
    rw [e]
    simpa [jt] using Ev.now _
  | succ d ih =>
    intro i hi h0 acc ha
    have hlt : i < l.length := by omega
    have hs := h l[i] (List.getElem_mem hlt)
    have hq := quote_len l[i].data.toList
    rw [← Sp.size_eq] at hq
    refine Ev.step (fun k => by rw [linhayref02_Join.l0]) ?_
    rw [rd_nat (List.getElem?_eq_getElem hlt), List.drop_eq_getElem_cons hlt]
    refine ev_pos (by omega) (ev_pos (by omega) (ev_pos (by rw [Sp.mk_size]; omega) (ev_pos (by omega) ?_)))
    refine ev_bind (r02_quote _ (by omega)) ?_
    rw [show (⟨#[32]⟩ : ByteArray) = Sp.mk [32] from rfl, app_mk, app_mk, Sp.mk_size, Sp.mk_size, w1 (by omega)]
    refine ev_pos (by simp only [List.length_append, List.length_cons, List.length_nil]; omega) ?_
    have := ih (i + 1) (by omega) (by omega) (acc ++ [32] ++ quote l[i].data.toList) (by simp only [List.length_append, List.length_cons, List.length_nil]; omega)
    have e : acc ++ jt (l[i] :: l.drop (i + 1)) = acc ++ [32] ++ quote l[i].data.toList ++ jt (l.drop (i + 1)) := by simp only [jt, List.flatMap_cons]; simp only [List.append_assoc, List.cons_append, List.nil_append]
    rw [e]
    exact this
theorem r02_join (l : List ByteArray) (hl : l.length ≤ 100) (h : ∀ s ∈ l, s.size ≤ 4096) : Ev (fun k => linhayref02_Join.f k l) (Sp.mk (joinq l)) := by
  unfold linhayref02_Join.f
  refine Ev.step (fun k => by rw [linhayref02_Join.l0]) ?_
  cases l with
  | nil =>
    refine ev_neg (by simp) ?_
    exact Ev.now _
  | cons s r =>
    have hs := h s (by simp)
    have hq := quote_len s.data.toList
    rw [← Sp.size_eq] at hq
    refine ev_pos (by simp only [List.length_cons]; omega) (ev_neg (by omega) (ev_pos (by omega) ?_))
    rw [show (0 : Int) = ((0 : Nat) : Int) from rfl, rd_nat (l := s :: r) (i := 0) rfl]
    refine ev_bind (r02_quote s (by omega)) ?_
    rw [show (⟨#[]⟩ : ByteArray) = Sp.mk [] from rfl, app_mk, Sp.mk_size, Sp.mk_size, w1 (by omega)]
    refine ev_pos (by simp; omega) ?_
    have := r02_join_l0 (s :: r) hl h r.length 1 (by simp; omega) (by omega) (quote s.data.toList) (by omega)
    rw [joinq_jt]
    simpa using this

def Qs (l : List ByteArray) : List ByteArray := l.map fun s => Sp.mk (quote s.data.toList)
theorem join_Qs (l : List ByteArray) : Lib.join ((Qs l).map (·.data.toList)) [32] = joinq l := by
  simp [Qs, joinq, List.map_map, Function.comp_def]
theorem words_join_l0 (l : List ByteArray) (hl : l.length ≤ 100) (h : ∀ s ∈ l, s.size ≤ 4096) : ∀ (d i : Nat), i + d = l.length →
    Ev (fun k => words_Join.l0 k (Qs (l.take i)) l (l.length : Int) (i : Int)) (Sp.mk (joinq l)) := by
  intro d
  induction d with
  | zero =>
    intro i hi
    refine Ev.step (fun k => by rw [words_Join.l0]) ?_
    refine ev_neg (by omega) ?_
    have e : l.take i = l := List.take_of_length_le (by omega)
    rw [e]
    have hj := joinq_len l h
    have hf : strings_Join.f (Qs l) (⟨#[32]⟩ : ByteArray) = some (Sp.mk (joinq l)) := by
      unfold strings_Join.f
      rw [show ((⟨#[32]⟩ : ByteArray).data.toList) = [32] from rfl, join_Qs, if_pos ⟨by simp [Qs]; omega, by omega⟩]
    exact ev_opt hf (Ev.now _)
  | succ d ih =>
    intro i hi
    have hlt : i < l.length := by omega
    have hs := h l[i] (List.getElem_mem hlt)
    refine Ev.step (fun k => by rw [words_Join.l0]) ?_
    rw [rd_nat (List.getElem?_eq_getElem hlt)]
    refine ev_pos (by omega) (ev_pos (by omega) (ev_pos (by omega) ?_))
    refine ev_opt (quote_f l[i] (by omega)) (ev_pos (by simp [Qs]; omega) ?_)
    have := ih (i + 1) (by omega)
    rw [w1 (by omega)]
    have e : Qs (l.take (i + 1)) = Qs (l.take i) ++ [Sp.mk (quote l[i].data.toList)] := by
      rw [List.take_succ_eq_append_getElem hlt]; simp only [Qs, List.map_append, List.map_cons, List.map_nil]
    rw [e] at this
    exact this
theorem words_join (l : List ByteArray) (hl : l.length ≤ 100) (h : ∀ s ∈ l, s.size ≤ 4096) : Ev (fun k => words_Join.f k l) (Sp.mk (joinq l)) :=
  words_join_l0 l hl h l.length 0 (by omega)

/-! ### the law -/
def okWord (s : ByteArray) : Prop := s.data.toList.any bad = false ∧ s.size ≤ 4096
theorem l02_join_l2 (l : List ByteArray) (hL : l.length < 4611686018427387904) (hsz : ∀ s ∈ l, s.size ≤ 1048576) (right : Bool) (hr : right = true → l.length ≤ 100 ∧ ∀ s ∈ l, okWord s) : ∀ (d i : Nat), i + d = l.length →
    Ev (fun k => linhaylaw02_WordsJoin.l2 k l right (i : Int)) true := by
  intro d
  induction d with
  | zero =>
    intro i hi
    refine Ev.step (fun k => by rw [linhaylaw02_WordsJoin.l2]) ?_
    refine ev_neg (by omega) ?_
    cases right with
    | false => exact ev_neg (by simp) (ev_bind l02_lives (Ev.now _))
    | true =>
      obtain ⟨hl, ho⟩ := hr rfl
      have h1 : ∀ s ∈ l, s.size ≤ 4096 := fun s hs => (ho s hs).2
      have hj := joinq_len l h1
      refine ev_pos rfl (ev_bind (words_join l hl h1) ?_)
      have hsp : words_Split.f (Sp.mk (joinq l)) = some (l, 0) := by
        unfold words_Split.f
        rw [Sp.mk_data, split_join l ho, if_pos (by rw [Sp.mk_size]; omega)]
      refine ev_opt hsp (ev_bind (words_join l hl h1) (ev_bind (r02_join l hl h1) (ev_pos rfl (ev_pos rfl ?_))))
      refine ev_bind (r02_same l l hL) (ev_pos (by simp) ?_)
      exact ev_bind l02_lives (Ev.now _)
  | succ d ih =>
    intro i hi
    have hlt : i < l.length := by omega
    have hs := hsz l[i] (List.getElem_mem hlt)
    refine Ev.step (fun k => by rw [linhaylaw02_WordsJoin.l2]) ?_
    rw [rd_nat (List.getElem?_eq_getElem hlt), w1 (by omega)]
    refine ev_pos (by omega) (ev_pos (by omega) ?_)
    by_cases h4 : (l[i].size : Int) ≤ 4096
    · refine ev_pos h4 (ev_opt (quote_f _ (by omega)) (ev_bind (r02_quote _ (by omega)) (ev_pos rfl ?_)))
      exact ih (i + 1) (by omega)
    · exact ev_neg h4 (ih (i + 1) (by omega))

theorem l02_join_l1 (l : List ByteArray) (i : Nat) (hlt : i < l.length) (hL : l.length < 4611686018427387904) (hs : l[i].size ≤ 1048576) : ∀ (d j : Nat), j + d = l[i].size → ∀ (right : Bool) (R : Bool),
    (Ev (fun k => linhaylaw02_WordsJoin.l0 k l (right && !(l[i].data.toList.drop j).any bad) ((i + 1 : Nat) : Int)) R) →
    Ev (fun k => linhaylaw02_WordsJoin.l1 k l right (i : Int) (j : Int)) R := by
  intro d
  induction d with
  | zero =>
    intro j hj right R h
    refine Ev.step (fun k => by rw [linhaylaw02_WordsJoin.l1]) ?_
    rw [rd_nat (List.getElem?_eq_getElem hlt), w1 (n := i) (by omega)]
    refine ev_pos (by omega) (ev_pos (by omega) (ev_neg (by omega) ?_))
    have e : l[i].data.toList.drop j = [] := List.drop_eq_nil_of_le (by rw [← Sp.size_eq]; omega)
    rw [e] at h
    simpa using h
  | succ d ih =>
    intro j hj right R h
    obtain ⟨c, hc, hdr⟩ := get_at l[i] (i := j) (by omega)
    refine Ev.step (fun k => by rw [linhaylaw02_WordsJoin.l1]) ?_
    rw [rd_nat (List.getElem?_eq_getElem hlt), w1 (n := i) (by omega), w1 (n := j) (by omega), bt_nat hc]
    rw [hdr] at h
    refine ev_pos (by omega) (ev_pos (by omega) (ev_pos (by omega) ?_))
    cases right with
    | false =>
      refine ev_neg (by simp) ?_
      simpa using h
    | true =>
      refine ev_pos rfl (ev_pos (by omega) ?_)
      by_cases h10 : c = 10
      · subst h10
        refine ev_pos (by rfl) ?_
        refine ih (j + 1) (by omega) false R ?_
        simpa [bad] using h
      · refine ev_neg (fun e => h10 ((u8_lit 10 (by omega)).1 e)) ?_
        by_cases h0 : c = 0
        · subst h0
          refine ih (j + 1) (by omega) _ R ?_
          simpa [bad] using h
        · have e : ((c.toNat : Int) != 0) = true := bne_iff_ne.2 (fun e => h0 ((u8_lit 0 (by omega)).1 e))
          rw [e]
          refine ih (j + 1) (by omega) true R ?_
          simpa [bad, h10, h0] using h

theorem l02_join_l0 (l : List ByteArray) (hL : l.length < 4611686018427387904) (hsz : ∀ s ∈ l, s.size ≤ 1048576) : ∀ (d i : Nat), i + d = l.length → ∀ (right : Bool),
    (right = true → l.length ≤ 100 ∧ ∀ s ∈ l.take i, okWord s) → Ev (fun k => linhaylaw02_WordsJoin.l0 k l right (i : Int)) true := by
  intro d
  induction d with
  | zero =>
    intro i hi right hr
    refine Ev.step (fun k => by rw [linhaylaw02_WordsJoin.l0]) ?_
    refine ev_neg (by omega) ?_
    by_cases h : (l.length : Int) > 100
    · exact ev_pos h (ev_bind l02_lives (Ev.now _))
    · refine ev_neg h ?_
      rw [List.take_of_length_le (by omega)] at hr
      exact l02_join_l2 l hL hsz right hr l.length 0 (by omega)
  | succ d ih =>
    intro i hi right hr
    have hlt : i < l.length := by omega
    have hs := hsz l[i] (List.getElem_mem hlt)
    have next : ∀ r2 : Bool, (r2 = true → right = true ∧ l[i].size ≤ 4096) → Ev (fun k => linhaylaw02_WordsJoin.j1 k l r2 (i : Int)) true := fun r2 h2 => by
      refine Ev.step (fun k => by rw [linhaylaw02_WordsJoin.j1]) ?_
      refine l02_join_l1 l i hlt hL hs l[i].size 0 (by omega) r2 true ?_
      refine ih (i + 1) (by omega) _ fun e => ?_
      simp only [List.drop_zero, Bool.and_eq_true, Bool.not_eq_true'] at e
      obtain ⟨e1, e2⟩ := h2 e.1
      refine ⟨(hr e1).1, fun s hs' => ?_⟩
      rw [List.take_succ_eq_append_getElem hlt] at hs'
      rcases List.mem_append.1 hs' with hs' | hs'
      · exact (hr e1).2 s hs'
      · rw [List.mem_singleton] at hs'
        subst hs'
        exact ⟨e.2, e2⟩
    refine Ev.step (fun k => by rw [linhaylaw02_WordsJoin.l0]) ?_
    rw [rd_nat (List.getElem?_eq_getElem hlt)]
    refine ev_pos (by omega) (ev_pos (by omega) ?_)
    by_cases h : (l[i].size : Int) > 4096
    · exact ev_pos h (next false (by simp))
    · exact ev_neg h (next right (fun e => ⟨e, by omega⟩))

theorem words_join_law (l : List ByteArray) (hL : l.length ≤ 1048576) (hsz : ∀ s ∈ l, s.size ≤ 1048576) : Ev (fun k => linhaylaw02_WordsJoin.f k l) true :=
  l02_join_l0 l (by omega) hsz l.length 0 (by omega) _ (fun h => ⟨by have := of_decide_eq_true h; omega, by simp⟩)
end Go.Proofs.YtocpdhbkfgolfaaDoor.Pu
