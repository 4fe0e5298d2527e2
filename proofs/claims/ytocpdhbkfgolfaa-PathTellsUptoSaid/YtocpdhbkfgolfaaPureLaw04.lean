/- The laws of layer 4, of the printed functions. -/
import Derived.Test.YtocpdhbkfgolfaaPurePath
namespace Go.Proofs.Ytocpdhbkfgolfaa.Pu
open Go Go.RowKit Go.Proofs Go.Proofs.Ytocpdhbkfgolfaa Go.Proofs.YtocpdhbkfgolfaaW.PrintWords Go.Proofs.Ytocpdhbkfgolfaa.Ext Go.Proofs.Ytocpdhbkfgolfaa.X
set_option linter.unusedVariables false
set_option linter.unusedSimpArgs false

theorem under_len (s d : List UInt8) : (under s d).1.length ≤ s.length + 2 := by
  rw [under]
  split
  · have h1 := Sp.join_room ((Sp.parts s).drop (Sp.parts d).length)
    have h2 := drop_room (Sp.parts s) (Sp.parts d).length
    have h3 := Sp.parts_room s
    show (Lib.join _ [47]).length ≤ _
    omega
  · simp
theorem dirP_len (s : List UInt8) : (dirP s).length ≤ s.length + 2 := by
  have h1 := Sp.join_room (cp s).dropLast
  have h2 := Sp.dropLast_room (cp s)
  have h3 := cp_room s
  rw [dirP, Sp.text, List.length_cons]
  omega
theorem baseP_len (s : List UInt8) : (baseP s).length ≤ s.length + 2 := by
  rw [baseP]
  cases h : (cp s).getLast? with
  | none => simp
  | some x =>
    have h1 := Sp.mem_room (List.mem_of_getLast? h)
    have h2 := cp_room s
    simp
    omega

theorem path_back (s d : ByteArray) (hs : s.size < 1073741000) (hd : d.size < 1073741000) : Ev (fun k => linhaylaw04_PathBack.f k s d) true := by
  have c1 := clean_len s.data.toList
  have c2 := clean_len d.data.toList
  rw [← Sp.size_eq] at c1 c2
  have g1 : (Sp.mk (Sp.clean s.data.toList)).size < 1073741100 := by rw [Sp.mk_size]; omega
  have g2 : (Sp.mk (Sp.clean d.data.toList)).size < 1073741100 := by rw [Sp.mk_size]; omega
  have e47 : (⟨#[47]⟩ : ByteArray) = Sp.mk [47] := rfl
  have u1 := under_len (Sp.clean s.data.toList) (Sp.clean d.data.toList)
  have d1 := dirP_len (Sp.clean s.data.toList)
  have b1 := baseP_len (Sp.clean s.data.toList)
  have stop : ∀ b : Bool, b = false → Ev (fun k => linhaylaw04_PathBack.j1 k (Sp.mk (Sp.clean s.data.toList)) b) true := fun b hb => by
    refine Ev.step (fun k => by rw [linhaylaw04_PathBack.j1]) (ev_neg (by rw [hb]; simp) ?_)
    refine ev_opt (f_clean (by omega)) ?_
    rw [Sp.mk_data, clean_clean]
    refine ev_pos rfl ?_
    have w1 := path_within (Sp.mk (Sp.clean s.data.toList)) (Sp.mk (Sp.clean s.data.toList)) (by omega) (by omega)
    rw [Sp.mk_data, under_self] at w1
    refine ev_bind w1 (ev_pos rfl ?_)
    refine ev_opt (path_dir _ (by omega)) ?_
    have w2 := path_within (Sp.mk (Sp.clean s.data.toList)) (Sp.mk (dirP (Sp.mk (Sp.clean s.data.toList)).data.toList)) (by omega) (by rw [Sp.mk_data, Sp.mk_size]; omega)
    rw [Sp.mk_data, Sp.mk_data, under_dir] at w2
    rw [Sp.mk_data]
    refine ev_bind w2 (ev_pos rfl ?_)
    have w3 := path_within (Sp.mk (Sp.clean s.data.toList)) (Sp.mk [47]) (by omega) (by rw [Sp.mk_size]; decide)
    rw [Sp.mk_data, Sp.mk_data, under_root] at w3
    rw [e47]
    exact ev_bind w3 (ev_pos rfl (ev_bind lives04 (Ev.now _)))
  have mid : ∀ b : Bool, b = false → Ev (fun k => linhaylaw04_PathBack.j0 k (Sp.mk (Sp.clean s.data.toList)) b) true := fun b hb => by
    refine Ev.step (fun k => by rw [linhaylaw04_PathBack.j0]) (ev_neg (by rw [hb]; simp) ?_)
    rw [toList_mk]
    by_cases h : Sp.clean s.data.toList = [47]
    · exact ev_pos h (stop false rfl)
    · refine ev_neg h (ev_opt (path_dir _ (by omega)) (ev_opt (path_base _ (by omega)) ?_))
      rw [Sp.mk_data]
      refine ev_opt (path_join _ _ (by rw [Sp.mk_size]; omega) (by rw [Sp.mk_size]; omega)) ?_
      rw [Sp.mk_data, Sp.mk_data, join_dir_base _ h, toList_mk]
      exact stop _ (by simp)
  unfold linhaylaw04_PathBack.f
  refine ev_opt (f_clean (by omega)) (ev_opt (f_clean (by omega)) ?_)
  have hu := path_under (Sp.mk (Sp.clean s.data.toList)) (Sp.mk (Sp.clean d.data.toList)) (by omega) (by omega)
  rw [Sp.mk_data, Sp.mk_data] at hu
  refine ev_bind hu ?_
  by_cases h : (under (Sp.clean s.data.toList) (Sp.clean d.data.toList)).2 = true
  · refine ev_pos h ?_
    refine ev_opt (path_join _ _ (by omega) (by rw [Sp.mk_size]; omega)) ?_
    rw [Sp.mk_data, Sp.mk_data, back _ _ h]
    exact mid _ (by simp)
  · exact ev_neg h (mid false rfl)

/-! ### what any path is -/
theorem same_l0 (a b : List ByteArray) (hab : a.length = b.length) (hl : a.length < 4294967296) : ∀ (d i : Nat), i + d = a.length → a.take i = b.take i →
    Ev (fun k => linhayref02_Same.l0 k a b (i : Int)) (decide (a = b)) := by
  intro d
  induction d with
  | zero =>
    intro i hi ht
    obtain rfl : i = a.length := by omega
    refine Ev.step (fun k => by rw [linhayref02_Same.l0]) (ev_neg (by omega) ?_)
    have : a = b := by
      rw [List.take_length, List.take_of_length_le (by omega)] at ht
      exact ht
    rw [decide_eq_true this]
    exact Ev.now _
  | succ d ih =>
    intro i hi ht
    have h1 : i < a.length := by omega
    have h2 : i < b.length := by omega
    refine Ev.step (fun k => by rw [linhayref02_Same.l0]) (ev_pos (by omega) (ev_pos (by omega) (ev_pos (by omega) ?_)))
    rw [rd_nat (List.getElem?_eq_getElem h1), rd_nat (List.getElem?_eq_getElem h2), w1 (by omega)]
    by_cases e : a[i] = b[i]
    · refine ev_pos (by rw [e]) (ih (i + 1) (by omega) ?_)
      rw [List.take_succ_eq_append_getElem h1, List.take_succ_eq_append_getElem h2, ht, e]
    · refine ev_neg (by rw [toL, toL]; intro h; exact e (by rw [← Sp.mk_of a[i], ← Sp.mk_of b[i], h])) ?_
      have : ¬ a = b := fun h => e (by subst h; rfl)
      rw [decide_eq_false this]
      exact Ev.now _
theorem same (a b : List ByteArray) (hl : a.length < 4294967296) : Ev (fun k => linhayref02_Same.f k a b) (decide (a = b)) := by
  unfold linhayref02_Same.f
  by_cases h : a.length = b.length
  · exact ev_pos (by omega) (same_l0 a b h hl _ 0 (Nat.zero_add _) (by simp))
  · refine ev_neg (by omega) ?_
    rw [decide_eq_false (fun e => h (by rw [e]))]
    exact Ev.now _

theorem r03_check_l0 (s : ByteArray) (hs : s.size ≤ 64) : ∀ (d i : Nat), i + d = s.size → (47 ∉ s.data.toList.take i ∧ 0 ∉ s.data.toList.take i) →
    Ev (fun k => linhayref03_Check.l0 k s (i : Int)) (if 47 ∈ s.data.toList ∨ 0 ∈ s.data.toList then 11 else if s.data.toList = [46] ∨ s.data.toList = [46, 46] then 6 else 0) := by
  intro d
  induction d with
  | zero =>
    intro i hi hn
    have e : s.data.toList.take i = s.data.toList := List.take_of_length_le (by rw [← Sp.size_eq]; omega)
    rw [e] at hn
    refine Ev.step (fun k => by rw [linhayref03_Check.l0]) (ev_neg (by omega) ?_)
    rw [toL]
    have hx : ¬ (47 ∈ s.data.toList ∨ 0 ∈ s.data.toList) := fun h => h.elim hn.1 hn.2
    by_cases h1 : s.data.toList = [46]
    · refine ev_pos h1 ?_
      rw [if_neg hx, if_pos (.inl h1)]
      exact Ev.now _
    · refine ev_neg h1 ?_
      by_cases h2 : s.data.toList = [46, 46]
      · refine ev_pos h2 ?_
        rw [if_neg hx, if_pos (.inr h2)]
        exact Ev.now _
      · refine ev_neg h2 ?_
        rw [if_neg hx, if_neg (fun h => h.elim h1 h2)]
        exact Ev.now _
  | succ d ih =>
    intro i hi hn
    have hlt : i < s.size := by omega
    obtain ⟨c, hc, hd⟩ := get_at s hlt
    have hm : c ∈ s.data.toList := List.mem_of_getElem? hc
    refine Ev.step (fun k => by rw [linhayref03_Check.l0]) (ev_pos (by omega) (ev_pos (by omega) ?_))
    rw [bt_nat hc, w1 (by omega)]
    by_cases h0 : c = 0
    · subst h0
      rw [if_pos (.inr hm)]
      exact ev_pos rfl (Ev.now _)
    · refine ev_neg (fun h => h0 (UInt8.toNat_inj.1 (by simpa using h))) ?_
      by_cases h47 : c = 47
      · subst h47
        rw [if_pos (.inl hm)]
        exact ev_pos rfl (Ev.now _)
      · refine ev_neg (fun h => h47 (UInt8.toNat_inj.1 (by have : ((47 : UInt8).toNat : Int) = 47 := rfl; omega))) (ih (i + 1) (by omega) ?_)
        have hl : i < s.data.toList.length := by rw [← Sp.size_eq]; exact hlt
        have e : s.data.toList[i] = c := by rw [List.getElem?_eq_getElem hl] at hc; exact Option.some.inj hc
        rw [List.take_succ_eq_append_getElem hl, e]
        simp only [List.mem_append, List.mem_singleton, not_or]
        exact ⟨⟨hn.1, fun h => h47 h.symm⟩, hn.2, fun h => h0 h.symm⟩
theorem r03_check (s : ByteArray) : Ev (fun k => linhayref03_Check.f k s) (Sp.check s.data.toList) := by
  unfold linhayref03_Check.f Sp.check
  by_cases h0 : s.size = 0
  · have : s.data.toList = [] := List.eq_nil_of_length_eq_zero (by rw [← Sp.size_eq]; exact h0)
    rw [if_pos this]
    exact ev_pos (by omega) (Ev.now _)
  · have : s.data.toList ≠ [] := fun h => h0 (by rw [Sp.size_eq, h]; rfl)
    rw [if_neg this, ← Sp.size_eq]
    refine ev_neg (by omega) ?_
    by_cases h1 : 64 < s.size
    · rw [if_pos (.inl h1)]
      exact ev_pos (by omega) (Ev.now _)
    · refine ev_neg (by omega) ?_
      have h := r03_check_l0 s (by omega) _ 0 (Nat.zero_add _) (by simp)
      have e : (64 < s.size ∨ (47 ∈ s.data.toList ∨ 0 ∈ s.data.toList)) = (47 ∈ s.data.toList ∨ 0 ∈ s.data.toList) := propext ⟨fun x => x.elim (fun y => absurd y h1) id, .inr⟩
      simp only [e]
      exact h
theorem r04_is_l0 (l : List (List UInt8)) (hl : l.length < 4294967290) : ∀ (d i : Nat), i + d = l.length → (l.take i).all Sp.right = true →
    Ev (fun k => linhayref04_Is.l0 k (bs l) (i : Int)) (l.all Sp.right) := by
  intro d
  induction d with
  | zero =>
    intro i hi hr
    rw [List.take_of_length_le (by omega)] at hr
    refine Ev.step (fun k => by rw [linhayref04_Is.l0]) (ev_neg (by rw [bs_len]; omega) ?_)
    rw [hr]
    exact Ev.now _
  | succ d ih =>
    intro i hi hr
    have hlt : i < l.length := by omega
    have hg : (bs l)[i]? = some (Sp.mk l[i]) := by rw [bs_get, List.getElem?_eq_getElem hlt]; rfl
    refine Ev.step (fun k => by rw [linhayref04_Is.l0]) (ev_pos (by rw [bs_len]; omega) (ev_pos (by omega) ?_))
    rw [rd_nat hg, w1 (by omega)]
    refine ev_bind (r03_check _) ?_
    rw [Sp.mk_data]
    by_cases h : Sp.check l[i] = 0
    · refine ev_pos h (ih (i + 1) (by omega) ?_)
      rw [List.take_succ_eq_append_getElem hlt, List.all_append, hr]
      simp [Sp.right, h]
    · refine ev_neg h ?_
      have : l.all Sp.right = false := by
        rw [List.all_eq_false]
        exact ⟨l[i], List.getElem_mem hlt, by simp [Sp.right, h]⟩
      rw [this]
      exact Ev.now _
theorem right_up {x : List UInt8} (h : Sp.right x = true) : Up x := by
  rintro rfl
  revert h
  decide
theorem r04_is (s : ByteArray) (hs : s.size < 2147483000) : Ev (fun k => linhayref04_Is.f k s) (Pa.isPath s.data.toList) := by
  have h1 := Sp.parts_room s.data.toList
  have h2 := Sp.len_room (Sp.parts s.data.toList)
  rw [← Sp.size_eq] at h1
  refine ev_bind (r04_parts s (by omega)) (ev_bind (r04_text _ (by omega)) ?_)
  rw [toL, toList_mk]
  have no : ∀ b : Bool, b = true → Pa.isPath s.data.toList = false → Ev (fun k => linhayref04_Is.j0 k (bs (Sp.parts s.data.toList)) b) (Pa.isPath s.data.toList) := fun b hb h => by
    rw [h]
    exact Ev.step (fun k => by rw [linhayref04_Is.j0]) (ev_pos hb (Ev.now _))
  by_cases ht : s.data.toList = Sp.text (Sp.parts s.data.toList)
  · refine ev_pos ht ?_
    by_cases hl : s.size ≤ 1024
    · rw [decide_eq_false (by omega)]
      refine Ev.step (fun k => by rw [linhayref04_Is.j0]) (ev_neg (by simp) ?_)
      have h := r04_is_l0 (Sp.parts s.data.toList) (by omega) _ 0 (Nat.zero_add _) (by simp)
      by_cases hr : (Sp.parts s.data.toList).all Sp.right = true
      · have hc : Sp.clean s.data.toList = s.data.toList := by
          have hu : ∀ x ∈ Sp.parts s.data.toList, Up x := fun x hx => right_up (List.all_eq_true.1 hr x hx)
          rw [Sp.clean, climbs_id _ hu]
          exact ht.symm
        have e : Pa.isPath s.data.toList = true := Pa.is_yes (by rw [← Sp.size_eq]; exact hl) hc (fun x hx => List.all_eq_true.1 hr x hx)
        rw [hr] at h
        rw [e]
        exact h
      · have hr2 : (Sp.parts s.data.toList).all Sp.right = false := by simpa using hr
        have e : Pa.isPath s.data.toList = false := by simp [Pa.isPath, hr2]
        rw [hr2] at h
        rw [e]
        exact h
    · exact no _ (decide_eq_true (by omega)) (Pa.is_no1 (by rw [← Sp.size_eq]; exact hl))
  · refine ev_neg ht (no _ rfl ?_)
    by_cases hr : (Sp.parts s.data.toList).all Sp.right = true
    · have hu : ∀ x ∈ Sp.parts s.data.toList, Up x := fun x hx => right_up (List.all_eq_true.1 hr x hx)
      refine Pa.is_no2 (fun h => ht ?_)
      rw [Sp.clean, climbs_id _ hu] at h
      exact h.symm
    · have hr2 : (Sp.parts s.data.toList).all Sp.right = false := by simpa using hr
      simp [Pa.isPath, hr2]
theorem r04_dir (s : ByteArray) (hs : s.size < 2147483000) : Ev (fun k => linhayref04_Dir.f k s) (Sp.mk (dirP s.data.toList)) := by
  have h1 := cp_room s.data.toList
  have h2 := Sp.len_room (cp s.data.toList)
  have h3 := clean_len s.data.toList
  rw [← Sp.size_eq] at h1 h3
  have h5 := Sp.dropLast_room (cp s.data.toList)
  refine ev_bind (r04_clean s (by omega)) ?_
  have hp := r04_parts (Sp.mk (Sp.clean s.data.toList)) (by rw [Sp.mk_size]; omega)
  rw [Sp.mk_data, parts_clean] at hp
  refine ev_bind hp ?_
  rw [bs_len]
  by_cases h0 : (cp s.data.toList).length = 0
  · refine ev_pos (by omega) ?_
    have := List.eq_nil_of_length_eq_zero h0
    rw [dirP, this]
    exact Ev.now _
  · refine ev_neg (by omega) ?_
    rw [wm1 (by omega) (by omega)]
    refine ev_pos (by omega) (ev_pos (by omega) ?_)
    rw [Int.toNat_natCast, bs_take, ← List.dropLast_eq_take]
    exact ev_bind (r04_text _ (by omega)) (Ev.now _)
theorem r04_base (s : ByteArray) (hs : s.size < 2147483000) : Ev (fun k => linhayref04_Base.f k s) (Sp.mk (baseP s.data.toList)) := by
  have h1 := cp_room s.data.toList
  have h2 := Sp.len_room (cp s.data.toList)
  have h3 := clean_len s.data.toList
  rw [← Sp.size_eq] at h1 h3
  refine ev_bind (r04_clean s (by omega)) ?_
  have hp := r04_parts (Sp.mk (Sp.clean s.data.toList)) (by rw [Sp.mk_size]; omega)
  rw [Sp.mk_data, parts_clean] at hp
  refine ev_bind hp ?_
  rw [bs_len]
  by_cases h0 : (cp s.data.toList).length = 0
  · refine ev_pos (by omega) ?_
    have := List.eq_nil_of_length_eq_zero h0
    rw [baseP, this]
    exact Ev.now _
  · refine ev_neg (by omega) ?_
    rw [wm1 (by omega) (by omega)]
    refine ev_pos (by omega) (ev_pos (by omega) ?_)
    have e : (bs (cp s.data.toList))[(cp s.data.toList).length - 1]? = some (Sp.mk (baseP s.data.toList)) := by
      rw [bs_get, baseP, List.getLast?_eq_getElem?, List.getElem?_eq_getElem (by omega)]
      rfl
    rw [rd_nat e]
    exact Ev.now _
theorem path_tells (s : ByteArray) (hs : s.size < 2147483000) : Ev (fun k => linhaylaw04_PathTells.f k s) true := by
  have h1 := Sp.parts_len s.data.toList
  rw [← Sp.size_eq] at h1
  have hi : path_Is.f s = some (Pa.isPath s.data.toList) := by rw [path_Is.f, if_pos (by omega)]
  unfold linhaylaw04_PathTells.f
  refine ev_opt (f_parts (by omega)) (ev_bind (r04_parts s (by omega)) (ev_bind (same _ _ (by rw [bs_len]; omega)) (ev_pos (decide_eq_true rfl) ?_)))
  refine ev_opt (f_clean (by omega)) (ev_bind (r04_clean s (by omega)) (ev_pos rfl ?_))
  refine ev_opt hi (ev_bind (r04_is s hs) (ev_pos (by simp) ?_))
  refine ev_opt (path_dir s hs) (ev_bind (r04_dir s hs) (ev_pos rfl ?_))
  exact ev_opt (path_base s hs) (ev_bind (r04_base s hs) (ev_pos rfl (ev_bind lives04 (Ev.now _))))
end Go.Proofs.Ytocpdhbkfgolfaa.Pu
