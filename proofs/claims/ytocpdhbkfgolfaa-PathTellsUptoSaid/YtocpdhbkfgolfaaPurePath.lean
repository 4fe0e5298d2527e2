/- What the path package's functions and the reference's come to, as plain functions on bytes. -/
import Derived.Test.YtocpdhbkfgolfaaPureR04
import Derived.Test.YtocpdhbkfgolfaaX
namespace Go.Proofs.Ytocpdhbkfgolfaa.Pu
open Go Go.RowKit Go.Proofs Go.Proofs.Ytocpdhbkfgolfaa Go.Proofs.YtocpdhbkfgolfaaW.PrintWords Go.Proofs.Ytocpdhbkfgolfaa.Ext Go.Proofs.Ytocpdhbkfgolfaa.X
set_option linter.unusedVariables false
set_option linter.unusedSimpArgs false

/-! ### equal lists -/
theorem equal_l0 (a b : List ByteArray) (hab : a.length = b.length) (hl : a.length < 4294967296) : ∀ (d i : Nat), i + d = a.length → a.take i = b.take i →
    Ev (fun k => slices_Equal_string_string.l0 k a b (a.length : Int) (i : Int)) (decide (a = b)) := by
  intro d
  induction d with
  | zero =>
    intro i hi ht
    obtain rfl : i = a.length := by omega
    refine Ev.step (fun k => by rw [slices_Equal_string_string.l0]) (ev_neg (by omega) ?_)
    have : a = b := by
      rw [List.take_length, List.take_of_length_le (by omega)] at ht
      exact ht
    rw [decide_eq_true this]
    exact Ev.now _
  | succ d ih =>
    intro i hi ht
    have h1 : i < a.length := by omega
    have h2 : i < b.length := by omega
    refine Ev.step (fun k => by rw [slices_Equal_string_string.l0]) (ev_pos (by omega) (ev_pos (by omega) (ev_pos (by omega) (ev_pos (by omega) ?_))))
    rw [rd_nat (List.getElem?_eq_getElem h1), rd_nat (List.getElem?_eq_getElem h2), w1 (by omega)]
    by_cases e : a[i] = b[i]
    · refine ev_pos (by rw [e]) (ih (i + 1) (by omega) ?_)
      rw [List.take_succ_eq_append_getElem h1, List.take_succ_eq_append_getElem h2, ht, e]
    · refine ev_neg (by rw [toL, toL]; intro h; exact e (by rw [← Sp.mk_of a[i], ← Sp.mk_of b[i], h])) ?_
      have : ¬ a = b := fun h => e (by subst h; rfl)
      rw [decide_eq_false this]
      exact Ev.now _
theorem equal (a b : List ByteArray) (hl : a.length < 4294967296) : Ev (fun k => slices_Equal_string_string.f k a b) (decide (a = b)) := by
  unfold slices_Equal_string_string.f
  by_cases h : a.length = b.length
  · exact ev_pos (by omega) (equal_l0 a b h hl _ 0 (Nat.zero_add _) (by simp))
  · refine ev_neg (by omega) ?_
    rw [decide_eq_false (fun e => h (by rw [e]))]
    exact Ev.now _
theorem bs_eq {a b : List (List UInt8)} : bs a = bs b ↔ a = b := by
  constructor
  · intro h
    have := congrArg (List.map (fun x : ByteArray => x.data.toList)) h
    rwa [lists_bs, lists_bs] at this
  · intro h; rw [h]

/-! ### Under -/
/-- A path from a directory on: both clean, the directory's parts ahead. -/
def under (s dir : List UInt8) : List UInt8 × Bool :=
  if Sp.clean s = s ∧ Sp.clean dir = dir ∧ Sp.parts dir <+: Sp.parts s then (Lib.join ((Sp.parts s).drop (Sp.parts dir).length) [47], true) else ([], false)
theorem f_clean {s : ByteArray} (hs : s.size < 4294967281) : path_Clean.f s = some (Sp.mk (Sp.clean s.data.toList)) := by rw [path_Clean.f, if_pos hs]
theorem f_parts {s : ByteArray} (hs : s.size < 4294967281) : path_Parts.f s = some (bs (Sp.parts s.data.toList)) := by rw [path_Parts.f, if_pos hs]
theorem f_join {l : List (List UInt8)} {sep : ByteArray} (h1 : l.length < 4294967281) (h2 : (Lib.join l sep.data.toList).length < 4294967281) : strings_Join.f (bs l) sep = some (Sp.mk (Lib.join l sep.data.toList)) := by
  rw [strings_Join.f, lists_bs, if_pos ⟨by rw [bs_len]; exact h1, h2⟩]
theorem drop_room (l : List (List UInt8)) (n : Nat) : Sp.room (l.drop n) ≤ Sp.room l := by
  have := Sp.room_append (l.take n) (l.drop n)
  rw [List.take_append_drop] at this
  omega
theorem clean_len (s : List UInt8) : (Sp.clean s).length ≤ s.length + 2 := by
  have h1 := Sp.join_room (Sp.climbs (Sp.parts s))
  have h2 := Sp.climbs_room (Sp.parts s)
  have h3 := Sp.parts_room s
  rw [Sp.clean, Sp.text, List.length_cons]
  omega
theorem data_eq {a b : ByteArray} : a.data.toList = b.data.toList ↔ a = b := ⟨fun h => by rw [← Sp.mk_of a, ← Sp.mk_of b, h], fun h => by rw [h]⟩

theorem path_under (s dir : ByteArray) (hs : s.size < 4294967200) (hd : dir.size < 4294967200) : Ev (fun k => path_Under.f k s dir) (Sp.mk (under s.data.toList dir.data.toList).1, (under s.data.toList dir.data.toList).2) := by
  have empty : (⟨#[]⟩ : ByteArray) = Sp.mk [] := rfl
  have no : ∀ b : Bool, b = true → ¬ (Sp.clean s.data.toList = s.data.toList ∧ Sp.clean dir.data.toList = dir.data.toList ∧ Sp.parts dir.data.toList <+: Sp.parts s.data.toList) → Ev (fun k => path_Under.j0 k s dir b) (Sp.mk (under s.data.toList dir.data.toList).1, (under s.data.toList dir.data.toList).2) := fun b hb h => by
    refine Ev.step (fun k => by rw [path_Under.j0]) (ev_pos hb ?_)
    rw [under, if_neg h]
    exact Ev.now _
  unfold path_Under.f
  refine ev_opt (f_clean (by omega)) ?_
  rw [toList_mk, toL]
  by_cases h1 : Sp.clean s.data.toList = s.data.toList
  · refine ev_pos h1 (ev_opt (f_clean (by omega)) ?_)
    rw [toList_mk, toL]
    by_cases h2 : Sp.clean dir.data.toList = dir.data.toList
    · have e : (Sp.clean dir.data.toList != dir.data.toList) = false := by rw [h2]; simp
      rw [e]
      have l1 := Sp.parts_room s.data.toList
      have l2 := Sp.len_room (Sp.parts s.data.toList)
      have l3 := Sp.parts_len dir.data.toList
      rw [← Sp.size_eq] at l1 l3
      refine Ev.step (fun k => by rw [path_Under.j0]) (ev_neg (by simp) (ev_opt (f_parts (s := s) (by omega)) (ev_opt (f_parts (s := dir) (by omega)) ?_)))
      rw [bs_len, bs_len]
      by_cases h3 : (Sp.parts s.data.toList).length < (Sp.parts dir.data.toList).length
      · refine ev_pos (by omega) ?_
        rw [under, if_neg (fun h => by have := h.2.2.length_le; omega)]
        exact Ev.now _
      · refine ev_neg (by omega) (ev_pos (by omega) (ev_pos (by omega) ?_))
        rw [Int.toNat_natCast, bs_take, bs_drop]
        refine ev_bind (equal _ _ (by rw [bs_len, List.length_take]; omega)) ?_
        by_cases h4 : (Sp.parts s.data.toList).take (Sp.parts dir.data.toList).length = Sp.parts dir.data.toList
        · refine ev_pos (decide_eq_true (bs_eq.2 h4)) ?_
          have h5 := Sp.join_room ((Sp.parts s.data.toList).drop (Sp.parts dir.data.toList).length)
          have h6 := drop_room (Sp.parts s.data.toList) (Sp.parts dir.data.toList).length
          refine ev_opt (f_join (by rw [List.length_drop]; omega) (by show (Lib.join _ [47]).length < _; omega)) ?_
          rw [under, if_pos ⟨h1, h2, by rw [← h4]; exact List.take_prefix _ _⟩]
          exact Ev.now _
        · refine ev_neg (by simpa using fun h => h4 (bs_eq.1 h)) ?_
          rw [under, if_neg (fun h => h4 (List.prefix_iff_eq_take.1 h.2.2).symm)]
          exact Ev.now _
    · have e : (Sp.clean dir.data.toList != dir.data.toList) = true := by simpa using h2
      rw [e]
      exact no _ rfl (fun h => h2 h.2.1)
  · refine ev_neg h1 (no _ rfl (fun h => h1 h.1))

/-! ### Under, of the reference -/
theorem prefix_step {a b : List (List UInt8)} {i : Nat} (hab : b.length ≤ a.length) (hi : i < b.length) (ht : a.take i = b.take i) : (a[i]'(by omega) = b[i]) ↔ a.take (i + 1) = b.take (i + 1) := by
  rw [List.take_succ_eq_append_getElem (l := a) (by omega), List.take_succ_eq_append_getElem (l := b) hi, ht]
  constructor
  · intro h; rw [h]
  · intro h
    have h2 := List.append_cancel_left h
    injection h2
theorem r04_under_l0 (a b : List (List UInt8)) (hab : b.length ≤ a.length) (ha : Sp.room a < 4294967290) : ∀ (d i : Nat), i + d = a.length → a.take (min i b.length) = b.take (min i b.length) →
    Ev (fun k => linhayref04_Under.l0 k (bs a) (bs b) (Sp.mk (Lib.join ((a.take i).drop b.length) [47])) (i : Int)) (if b <+: a then (Sp.mk (Lib.join (a.drop b.length) [47]), true) else (Sp.mk [], false)) := by
  have hla := Sp.len_room a
  intro d
  induction d with
  | zero =>
    intro i hi ht
    obtain rfl : i = a.length := by omega
    refine Ev.step (fun k => by rw [linhayref04_Under.l0]) (ev_neg (by rw [bs_len]; omega) ?_)
    rw [Nat.min_eq_right hab, List.take_length] at ht
    have hp : b <+: a := by rw [List.prefix_iff_eq_take, ht]
    rw [if_pos hp, List.take_length]
    exact Ev.now _
  | succ d ih =>
    intro i hi ht
    have hlt : i < a.length := by omega
    have hg : (bs a)[i]? = some (Sp.mk a[i]) := by rw [bs_get, List.getElem?_eq_getElem hlt]; rfl
    have hroom := Sp.mem_room (List.getElem_mem hlt)
    refine Ev.step (fun k => by rw [linhayref04_Under.l0]) (ev_pos (by rw [bs_len]; omega) ?_)
    by_cases hb : i < b.length
    · have hg2 : (bs b)[i]? = some (Sp.mk b[i]) := by rw [bs_get, List.getElem?_eq_getElem hb]; rfl
      have hm : min i b.length = i := by omega
      rw [hm] at ht
      refine ev_pos (by rw [bs_len]; omega) (ev_pos (by omega) ?_)
      rw [rd_nat hg, rd_nat hg2, toList_mk, toList_mk]
      by_cases e : a[i] = b[i]
      · have e1 : (a[i] != b[i]) = false := by simp [e]
        rw [e1]
        refine Ev.step (fun k => by rw [linhayref04_Under.j2]) (ev_neg (by simp) (ev_neg (by rw [bs_len]; omega) (ev_neg (by rw [bs_len]; omega) ?_)))
        rw [w1 (by omega)]
        have h := ih (i + 1) (by omega) (by rw [show min (i + 1) b.length = i + 1 by omega]; exact (prefix_step hab hb ht).1 e)
        have z : ∀ j, j ≤ b.length → (a.take j).drop b.length = [] := fun j hj => List.drop_eq_nil_of_le (by rw [List.length_take]; omega)
        rw [z (i + 1) (by omega)] at h
        rw [z i (by omega)]
        exact h
      · have e1 : (a[i] != b[i]) = true := by simpa using e
        rw [e1]
        refine Ev.step (fun k => by rw [linhayref04_Under.j2]) (ev_pos rfl ?_)
        have hp : ¬ b <+: a := fun hp => e (by
          have h2 := congrArg (List.take (i + 1)) (List.prefix_iff_eq_take.1 hp)
          rw [List.take_take, Nat.min_eq_left (by omega)] at h2
          exact (prefix_step hab hb ht).2 h2.symm)
        rw [if_neg hp]
        exact Ev.now _
    · have hm : min i b.length = b.length := by omega
      have hm1 : min (i + 1) b.length = b.length := by omega
      rw [hm] at ht
      refine ev_neg (by rw [bs_len]; omega) ?_
      have hdr : Sp.room ((a.take i).drop b.length) ≤ Sp.room a := by
        have h1 := drop_room (a.take i) b.length
        have h2 := Sp.room_append (a.take i) (a.drop i)
        rw [List.take_append_drop] at h2
        omega
      have hj := Sp.join_room ((a.take i).drop b.length)
      refine Ev.step (fun k => by rw [linhayref04_Under.j2]) (ev_neg (by simp) ?_)
      have h := ih (i + 1) (by omega) (by rw [hm1]; exact ht)
      have e2 : (a.take (i + 1)).drop b.length = (a.take i).drop b.length ++ [a[i]] := by
        rw [List.take_succ_eq_append_getElem hlt, List.drop_append_of_le_length (by rw [List.length_take]; omega)]
      rw [e2] at h
      by_cases hgt : b.length < i
      · refine ev_pos (by rw [bs_len]; omega) (ev_pos (by rw [Sp.mk_size]; omega) (ev_pos (by rw [bs_len]; omega) (ev_pos (by omega) (ev_pos (by rw [bs_len]; omega) ?_))))
        have e47 : (⟨#[47]⟩ : ByteArray) = Sp.mk [47] := rfl
        rw [rd_nat hg, e47, app_mk]
        refine ev_pos (by rw [Sp.mk_size, Sp.mk_size, List.length_append, List.length_singleton]; omega) ?_
        rw [app_mk, w1 (by omega)]
        have e3 : Lib.join ((a.take i).drop b.length ++ [a[i]]) [47] = Lib.join ((a.take i).drop b.length) [47] ++ [47] ++ a[i] := by
          rcases hc : (a.take i).drop b.length with _ | ⟨x, r⟩
          · have := congrArg List.length hc
            rw [List.length_drop, List.length_take, List.length_nil] at this
            omega
          · rw [List.cons_append, Lib.join_cons, Lib.join_cons]
            simp [Lib.joinTail]
        rw [e3] at h
        exact h
      · obtain rfl : b.length = i := by omega
        refine ev_neg (by rw [bs_len]; omega) (ev_pos (by rw [bs_len]; omega) (ev_pos (by omega) (ev_pos (by rw [bs_len]; omega) ?_)))
        have z : (a.take b.length).drop b.length = [] := List.drop_eq_nil_of_le (by rw [List.length_take]; omega)
        rw [rd_nat hg, z]
        rw [z] at h
        refine ev_pos (by rw [Sp.mk_size, Sp.mk_size, Lib.join_nil]; simp; omega) ?_
        rw [w1 (by omega), Lib.join_nil, app_mk]
        rw [List.nil_append, Lib.join_one] at h
        exact h
theorem r04_under (s dir : ByteArray) (hs : s.size < 4294967200) (hd : dir.size < 4294967200) : Ev (fun k => linhayref04_Under.f k s dir) (Sp.mk (under s.data.toList dir.data.toList).1, (under s.data.toList dir.data.toList).2) := by
  have no : ∀ (a b : List ByteArray) (c : Bool), c = true → ¬ (Sp.clean s.data.toList = s.data.toList ∧ Sp.clean dir.data.toList = dir.data.toList ∧ Sp.parts dir.data.toList <+: Sp.parts s.data.toList) → Ev (fun k => linhayref04_Under.j0 k a b c) (Sp.mk (under s.data.toList dir.data.toList).1, (under s.data.toList dir.data.toList).2) := fun a b c hc h => by
    refine Ev.step (fun k => by rw [linhayref04_Under.j0]) (ev_pos hc ?_)
    rw [under, if_neg h]
    exact Ev.now _
  refine ev_bind (r04_parts s (by omega)) (ev_bind (r04_parts dir (by omega)) (ev_bind (r04_clean s (by omega)) ?_))
  rw [toList_mk, toL]
  by_cases h1 : Sp.clean s.data.toList = s.data.toList
  · refine ev_pos h1 (ev_bind (r04_clean dir (by omega)) ?_)
    rw [toList_mk, toL]
    by_cases h2 : Sp.clean dir.data.toList = dir.data.toList
    · refine ev_pos h2 ?_
      rw [bs_len, bs_len]
      by_cases h3 : (Sp.parts s.data.toList).length < (Sp.parts dir.data.toList).length
      · exact no _ _ _ (decide_eq_true (by omega)) (fun h => by have := h.2.2.length_le; omega)
      · have hr := Sp.parts_room s.data.toList
        rw [← Sp.size_eq] at hr
        rw [decide_eq_false (by omega)]
        refine Ev.step (fun k => by rw [linhayref04_Under.j0]) (ev_neg (by simp) ?_)
        have h := r04_under_l0 (Sp.parts s.data.toList) (Sp.parts dir.data.toList) (by omega) (by omega) _ 0 (Nat.zero_add _) (by simp)
        rw [List.take_zero, List.drop_nil, Lib.join_nil] at h
        have e : (if Sp.parts dir.data.toList <+: Sp.parts s.data.toList then (Sp.mk (Lib.join ((Sp.parts s.data.toList).drop (Sp.parts dir.data.toList).length) [47]), true) else (Sp.mk [], false)) = (Sp.mk (under s.data.toList dir.data.toList).1, (under s.data.toList dir.data.toList).2) := by
          rw [under]
          by_cases hp : Sp.parts dir.data.toList <+: Sp.parts s.data.toList
          · rw [if_pos hp, if_pos ⟨h1, h2, hp⟩]
          · rw [if_neg hp, if_neg (fun h => hp h.2.2)]
        rw [e] at h
        exact h
    · exact ev_neg h2 (no _ _ _ rfl (fun h => h2 h.2.1))
  · exact ev_neg h1 (no _ _ _ rfl (fun h => h1 h.1))

/-! ### Join, Within, lives -/
def joinP (dir s : List UInt8) : List UInt8 := if s.head? = some 47 then Sp.clean s else Sp.clean (dir ++ 47 :: s)
theorem head_prefix (s : ByteArray) : ((s.extract 0 1).toList == ([47] : List UInt8)) = decide (s.data.toList.head? = some 47) := by
  rw [toL, Lib.extract_data]
  cases h : s.data.toList with
  | nil => simp
  | cons c l =>
    by_cases e : c = 47
    · subst e; simp
    · simp [e]
theorem path_join (dir s : ByteArray) (hd : dir.size < 2147483000) (hs : s.size < 2147483000) : path_Join.f dir s = some (Sp.mk (joinP dir.data.toList s.data.toList)) := by
  have hp : strings_HasPrefix.f s (⟨#[47]⟩ : ByteArray) = some (decide (s.data.toList.head? = some 47)) := by
    unfold strings_HasPrefix.f stringslite_HasPrefix.f
    have z : (⟨#[47]⟩ : ByteArray).size = 1 := rfl
    rw [z]
    by_cases h : 1 ≤ s.size
    · rw [if_pos (by omega), if_pos (by omega), if_pos (by omega)]
      have := head_prefix s
      rw [← this, toL ⟨#[47]⟩]
      rfl
    · rw [if_neg (by omega)]
      have : s.data.toList = [] := List.eq_nil_of_length_eq_zero (by rw [← Sp.size_eq]; omega)
      simp [this]
  have e47 : (⟨#[47]⟩ : ByteArray) = Sp.mk [47] := rfl
  unfold path_Join.f
  rw [hp, Option.bind_some, joinP]
  by_cases h : s.data.toList.head? = some 47
  · rw [if_pos (decide_eq_true h), if_pos h, f_clean (by omega)]
    rfl
  · rw [if_neg (by simpa using h), if_neg h, if_pos (by omega)]
    have e := cat3 dir s
    have e2 := size_snoc dir 47
    rw [e, e2, if_pos (by omega), f_clean (by rw [Sp.mk_size, List.length_append, List.length_cons, ← Sp.size_eq, ← Sp.size_eq]; omega), Sp.mk_data]
    rfl
theorem r04_join (dir s : ByteArray) (hd : dir.size < 2147483000) (hs : s.size < 2147483000) : Ev (fun k => linhayref04_Join.f k dir s) (Sp.mk (joinP dir.data.toList s.data.toList)) := by
  have e47 : (⟨#[47]⟩ : ByteArray) = Sp.mk [47] := rfl
  have go : ∀ b : Bool, b = decide (s.data.toList.head? = some 47) → Ev (fun k => linhayref04_Join.j0 k dir s b) (Sp.mk (joinP dir.data.toList s.data.toList)) := fun b hb => by
    refine Ev.step (fun k => by rw [linhayref04_Join.j0]) ?_
    rw [joinP]
    by_cases h : s.data.toList.head? = some 47
    · rw [if_pos h]
      exact ev_pos (by rw [hb]; exact decide_eq_true h) (ev_bind (r04_clean s (by omega)) (Ev.now _))
    · rw [if_neg h]
      refine ev_neg (by rw [hb]; simpa using h) (ev_pos (by omega) ?_)
      have e := cat3 dir s
      have e2 := size_snoc dir 47
      rw [e, e2]
      refine ev_pos (by omega) ?_
      have h := r04_clean (Sp.mk (dir.data.toList ++ 47 :: s.data.toList)) (by rw [Sp.mk_size, List.length_append, List.length_cons, ← Sp.size_eq, ← Sp.size_eq]; omega)
      rw [Sp.mk_data] at h
      exact ev_bind h (Ev.now _)
  unfold linhayref04_Join.f
  rw [toL]
  by_cases h0 : s.data.toList = []
  · exact ev_pos h0 (go false (by simp [h0]))
  · have hpos : 0 < s.size := by rw [Sp.size_eq]; exact List.length_pos_iff.2 h0
    refine ev_neg h0 (ev_pos (by omega) (go _ ?_))
    obtain ⟨c, hc, hd2⟩ := get_at s hpos
    have := bt_nat hc
    rw [show ((0 : Nat) : Int) = 0 from rfl] at this
    rw [this]
    rw [List.drop_zero] at hd2
    rw [hd2, List.head?_cons]
    by_cases e : c = 47
    · subst e; rfl
    · have e1 : ((c.toNat : Int) != 47) = true := u8_ne.2 e
      rw [bne_iff_ne] at e1
      rw [beq_eq_false_iff_ne.2 e1]
      exact (decide_eq_false (by simpa using e)).symm
theorem path_within (s dir : ByteArray) (hs : s.size < 4294967200) (hd : dir.size < 4294967200) : Ev (fun k => path_Within.f k s dir) (under s.data.toList dir.data.toList).2 := ev_bind (path_under s dir hs hd) (Ev.now _)
theorem lives04 : Ev (fun k => linhaylaw04_lives.f k) true := by
  unfold linhaylaw04_lives.f
  refine ev_bind (path_under _ _ (by decide) (by decide)) (ev_opt (f_clean (by decide)) ?_)
  refine ev_pos (by rw [toList_mk]; decide +kernel) (ev_pos (by rw [toList_mk]; decide +kernel) ?_)
  have : (under (⟨#[47, 97, 47, 98, 47, 99]⟩ : ByteArray).data.toList (⟨#[47, 97]⟩ : ByteArray).data.toList).2 = true := by decide +kernel
  rw [this]
  exact Ev.now _

theorem path_joins (s dir : ByteArray) (hs : s.size < 2147483000) (hd : dir.size < 2147483000) : Ev (fun k => linhaylaw04_PathJoins.f k s dir) true := by
  unfold linhaylaw04_PathJoins.f
  refine ev_bind (path_under s dir (by omega) (by omega)) (ev_bind (r04_under s dir (by omega) (by omega)) (ev_opt (path_join dir s hd hs) (ev_bind (r04_join dir s hd hs) ?_)))
  refine ev_pos rfl (ev_pos rfl (ev_pos (by simp) (ev_bind (path_within s dir (by omega) (by omega)) (ev_pos (by simp) (ev_bind lives04 (Ev.now _))))))

/-! ### what PathBack says, of the plain functions -/
def NoSlash (x : List UInt8) : Prop := x ≠ [] ∧ x ≠ [46] ∧ 47 ∉ x
theorem go_parts (now l : List UInt8) (h : 47 ∉ now) : ∀ x ∈ Sp.go now l, NoSlash x := by
  have keep : ∀ (now : List UInt8) (r : List (List UInt8)), 47 ∉ now → (∀ x ∈ r, NoSlash x) → ∀ x ∈ Sp.keep now r, NoSlash x := by
    intro now r hn hr x hx
    unfold Sp.keep at hx
    split at hx
    · exact hr x hx
    · rename_i hk
      rcases List.mem_cons.1 hx with rfl | hx
      · exact ⟨fun e => hk (.inl e), fun e => hk (.inr e), hn⟩
      · exact hr x hx
  induction l generalizing now with
  | nil => rw [Sp.go]; exact keep now [] h (by simp)
  | cons c l ih =>
    rw [Sp.go]
    split
    · exact keep now _ h (ih [] (by simp))
    · rename_i hc
      exact ih _ (by simp [h]; exact fun e => hc e.symm)
theorem parts_ok (s : List UInt8) : ∀ x ∈ Sp.parts s, NoSlash x := go_parts [] s (by simp)
theorem go_run (now x l : List UInt8) (hx : 47 ∉ x) : Sp.go now (x ++ l) = Sp.go (now ++ x) l := by
  induction x generalizing now with
  | nil => simp
  | cons c x ih =>
    have hc : c ≠ 47 := fun e => hx (by simp [e])
    rw [List.cons_append, Sp.go, if_neg hc, ih _ (fun h => hx (List.mem_cons_of_mem _ h))]
    simp
theorem parts_slash (l : List UInt8) : Sp.parts (47 :: l) = Sp.parts l := by simp [Sp.parts, Sp.go, Sp.keep]
/-- The parts of parts that are joined are these parts. -/
theorem parts_tail (L : List (List UInt8)) (h : ∀ x ∈ L, NoSlash x) : Sp.parts (Lib.joinTail [47] L) = L := by
  induction L with
  | nil => simp [Lib.joinTail]
  | cons x L ih =>
    obtain ⟨h1, h2, h3⟩ := h x List.mem_cons_self
    have e : Lib.joinTail [47] (x :: L) = 47 :: (x ++ Lib.joinTail [47] L) := by simp [Lib.joinTail]
    rw [e, parts_slash, Sp.parts, go_run _ _ _ h3, List.nil_append]
    cases L with
    | nil => simp [Lib.joinTail, Sp.go, Sp.keep, h1, h2]
    | cons y L =>
      have e2 : Lib.joinTail [47] (y :: L) = 47 :: (y ++ Lib.joinTail [47] L) := by simp [Lib.joinTail]
      have ih2 := ih (fun z hz => h z (List.mem_cons_of_mem _ hz))
      rw [e2, parts_slash] at ih2
      rw [e2, Sp.go, if_pos rfl, Sp.keep, if_neg (fun h => h.elim h1 h2)]
      rw [Sp.parts] at ih2
      rw [ih2]
theorem join_tail (L : List (List UInt8)) (hL : L ≠ []) : 47 :: Lib.join L [47] = Lib.joinTail [47] L := by
  cases L with
  | nil => exact absurd rfl hL
  | cons x L => rw [Lib.join_cons]; simp [Lib.joinTail]
theorem parts_text (L : List (List UInt8)) (h : ∀ x ∈ L, NoSlash x) : Sp.parts (Sp.text L) = L := by
  by_cases hL : L = []
  · subst hL; rw [Sp.text, Lib.join_nil]; rfl
  · rw [Sp.text, join_tail L hL, parts_tail L h]
theorem parts_join (L : List (List UInt8)) (h : ∀ x ∈ L, NoSlash x) : Sp.parts (Lib.join L [47]) = L := by
  by_cases hL : L = []
  · subst hL; rw [Lib.join_nil]; rfl
  · rw [← parts_slash, join_tail L hL, parts_tail L h]
/-- Parts none of which is two points stand as they are. -/
def Up (x : List UInt8) : Prop := x ≠ [46, 46]
theorem climbs_id (L : List (List UInt8)) (h : ∀ x ∈ L, Up x) : Sp.climbs L = L := by
  have key : ∀ (L out : List (List UInt8)), (∀ x ∈ L, Up x) → L.foldl Sp.climb out = out ++ L := by
    intro L
    induction L with
    | nil => intro out _; simp
    | cons x L ih =>
      intro out h
      rw [List.foldl_cons, Sp.climb, if_neg (h x List.mem_cons_self), ih _ (fun y hy => h y (List.mem_cons_of_mem _ hy))]
      simp
  simpa [Sp.climbs] using key L [] h
theorem climbs_up (L : List (List UInt8)) : ∀ x ∈ Sp.climbs L, Up x ∧ x ∈ L := by
  have key : ∀ (L out : List (List UInt8)), ∀ x ∈ L.foldl Sp.climb out, (x ∈ out) ∨ (Up x ∧ x ∈ L) := by
    intro L
    induction L with
    | nil => intro out x hx; exact .inl hx
    | cons y L ih =>
      intro out x hx
      rcases ih _ x hx with h | ⟨h1, h2⟩
      · unfold Sp.climb at h
        split at h
        · exact .inl ((List.dropLast_sublist _).subset h)
        · rename_i hy
          rcases List.mem_append.1 h with h | h
          · exact .inl h
          · obtain rfl := List.mem_singleton.1 h
            exact .inr ⟨hy, List.mem_cons_self⟩
      · exact .inr ⟨h1, List.mem_cons_of_mem _ h2⟩
  intro x hx
  rcases key L [] x hx with h | h
  · cases h
  · exact h
/-- The parts of a clean path. -/
def cp (s : List UInt8) : List (List UInt8) := Sp.climbs (Sp.parts s)
theorem cp_ok (s : List UInt8) : ∀ x ∈ cp s, NoSlash x ∧ Up x := fun x hx => ⟨parts_ok s x (climbs_up _ x hx).2, (climbs_up _ x hx).1⟩
theorem parts_clean (s : List UInt8) : Sp.parts (Sp.clean s) = cp s := parts_text _ (fun x hx => (cp_ok s x hx).1)
theorem clean_text (L : List (List UInt8)) (h : ∀ x ∈ L, NoSlash x ∧ Up x) : Sp.clean (Sp.text L) = Sp.text L := by
  rw [Sp.clean, parts_text L (fun x hx => (h x hx).1), climbs_id L (fun x hx => (h x hx).2)]
theorem clean_clean (s : List UInt8) : Sp.clean (Sp.clean s) = Sp.clean s := clean_text _ (cp_ok s)
theorem clean_of (s : List UInt8) : Sp.clean s = Sp.text (cp s) := rfl
theorem text_app (L M : List (List UInt8)) (h : ∀ x ∈ L, NoSlash x ∧ Up x) (hM : ∀ x ∈ M, NoSlash x ∧ Up x) : joinP (Sp.text L) (Lib.join M [47]) = Sp.text (L ++ M) := by
  have hh : (Lib.join M [47]).head? ≠ some 47 := by
    cases M with
    | nil => simp [Lib.join_nil]
    | cons x M =>
      obtain ⟨⟨h1, _, h3⟩, _⟩ := hM x List.mem_cons_self
      rw [Lib.join_cons]
      cases x with
      | nil => exact absurd rfl h1
      | cons c x =>
        simp only [List.cons_append, List.head?_cons]
        intro e
        exact h3 (by injection e with e; simp [e])
  rw [joinP, if_neg hh, Sp.clean]
  have e : Sp.parts (Sp.text L ++ 47 :: Lib.join M [47]) = L ++ M := by
    have key : ∀ (now : List UInt8) (a b : List UInt8), Sp.go now (a ++ 47 :: b) = Sp.go now a ++ Sp.parts b := by
      intro now a b
      induction a generalizing now with
      | nil =>
        have e1 : Sp.go now (47 :: b) = Sp.keep now (Sp.go [] b) := by rw [Sp.go, if_pos rfl]
        have e2 : Sp.go now [] = Sp.keep now [] := by rw [Sp.go]
        rw [List.nil_append, e1, e2, Sp.keep_app]; rfl
      | cons c a ih =>
        rw [List.cons_append, Sp.go, Sp.go]
        split
        · rw [ih, Sp.keep_app, Sp.keep_app now (Sp.go [] a)]; simp
        · exact ih _
    rw [Sp.parts, key, ← Sp.parts, parts_text L (fun x hx => (h x hx).1), parts_join M (fun x hx => (hM x hx).1)]
  rw [e, climbs_id _ (fun x hx => by rcases List.mem_append.1 hx with hx | hx; exact (h x hx).2; exact (hM x hx).2)]
theorem text_inj {L M : List (List UInt8)} (h : ∀ x ∈ L, NoSlash x) (hM : ∀ x ∈ M, NoSlash x) (e : Sp.text L = Sp.text M) : L = M := by
  rw [← parts_text L h, ← parts_text M hM, e]
/-- Under, of clean paths. -/
theorem under_clean (s d : List UInt8) : under (Sp.clean s) (Sp.clean d) = if cp d <+: cp s then (Lib.join ((cp s).drop (cp d).length) [47], true) else ([], false) := by
  rw [under, parts_clean, parts_clean, clean_clean, clean_clean]
  by_cases h : cp d <+: cp s
  · rw [if_pos ⟨rfl, rfl, h⟩, if_pos h]
  · rw [if_neg (fun x => h x.2.2), if_neg h]

/-! ### Dir, Base -/
def dirP (s : List UInt8) : List UInt8 := Sp.text (cp s).dropLast
def baseP (s : List UInt8) : List UInt8 := (cp s).getLast?.getD []
theorem mx_nat (n : Nat) (h : n < 4294967296) : mx (wrap64 ((n : Int) - 1)) 0 = ((n - 1 : Nat) : Int) := by
  unfold mx wrap64
  omega
theorem cp_room (s : List UInt8) : Sp.room (cp s) ≤ s.length + 1 := Nat.le_trans (Sp.climbs_room _) (Sp.parts_room s)
theorem dropLast_len (l : List (List UInt8)) : l.dropLast.length ≤ l.length := by rw [List.length_dropLast]; omega
theorem path_dir (s : ByteArray) (hs : s.size < 2147483000) : path_Dir.f s = some (Sp.mk (dirP s.data.toList)) := by
  have h1 := cp_room s.data.toList
  have h2 := Sp.len_room (cp s.data.toList)
  have h3 := clean_len s.data.toList
  rw [← Sp.size_eq] at h1 h3
  have h4 := Sp.join_room (cp s.data.toList).dropLast
  have h5 := Sp.dropLast_room (cp s.data.toList)
  have h6 := dropLast_len (cp s.data.toList)
  unfold path_Dir.f
  rw [f_clean (by omega), Option.bind_some, f_parts (by rw [Sp.mk_size]; omega), Option.bind_some, Sp.mk_data, parts_clean, bs_len, mx_nat _ (by omega), if_pos (by omega), if_pos (by omega), Int.toNat_natCast, bs_take, ← List.dropLast_eq_take,
    f_join (by omega) (by show (Lib.join _ [47]).length < _; omega), Option.bind_some, if_pos (by rw [Sp.mk_size]; show 1 + (Lib.join _ [47]).length ≤ _; omega)]
  exact congrArg some (Sp.mk_cons 47 _).symm
theorem path_base (s : ByteArray) (hs : s.size < 2147483000) : path_Base.f s = some (Sp.mk (baseP s.data.toList)) := by
  have h1 := cp_room s.data.toList
  have h2 := Sp.len_room (cp s.data.toList)
  have h3 := clean_len s.data.toList
  rw [← Sp.size_eq] at h1 h3
  unfold path_Base.f
  rw [f_clean (by omega), Option.bind_some, f_parts (by rw [Sp.mk_size]; omega), Option.bind_some, Sp.mk_data, parts_clean, bs_len]
  by_cases h0 : (cp s.data.toList).length = 0
  · rw [if_pos (by omega)]
    have := List.eq_nil_of_length_eq_zero h0
    rw [baseP, this]
    rfl
  · rw [if_neg (by omega), wm1 (by omega) (by omega), if_pos (by omega), if_pos (by omega)]
    have e : (bs (cp s.data.toList))[(cp s.data.toList).length - 1]? = some (Sp.mk (baseP s.data.toList)) := by
      rw [bs_get, baseP, List.getLast?_eq_getElem?, List.getElem?_eq_getElem (by omega)]
      rfl
    rw [rd_nat e]

theorem under_self (s : List UInt8) : (under (Sp.clean s) (Sp.clean s)).2 = true := by rw [under_clean, if_pos (List.prefix_refl _)]
theorem cp_text (L : List (List UInt8)) (h : ∀ x ∈ L, NoSlash x ∧ Up x) : cp (Sp.text L) = L := by
  rw [cp, parts_text L (fun x hx => (h x hx).1), climbs_id L (fun x hx => (h x hx).2)]
theorem cp_clean (s : List UInt8) : cp (Sp.clean s) = cp s := cp_text _ (cp_ok s)
theorem dir_ok (s : List UInt8) : ∀ x ∈ (cp s).dropLast, NoSlash x ∧ Up x := fun x hx => cp_ok s x ((List.dropLast_sublist _).subset hx)
theorem join_dir_base (s : List UInt8) (h : Sp.clean s ≠ [47]) : joinP (dirP (Sp.clean s)) (baseP (Sp.clean s)) = Sp.clean s := by
  rw [dirP, baseP, cp_clean]
  have hne : cp s ≠ [] := fun e => h (by rw [clean_of, e]; rfl)
  have hl : (cp s).getLast? = some ((cp s).getLast hne) := List.getLast?_eq_some_getLast hne
  have hlast := cp_ok s _ (List.getLast_mem hne)
  rw [hl]
  have e := text_app (cp s).dropLast [(cp s).getLast hne] (dir_ok s) (fun x hx => by rw [List.mem_singleton.1 hx]; exact hlast)
  rw [Lib.join_one, List.dropLast_concat_getLast hne] at e
  rw [clean_of]
  exact e
theorem under_dir (s : List UInt8) : (under (Sp.clean s) (dirP (Sp.clean s))).2 = true := by
  have e : dirP (Sp.clean s) = Sp.clean (dirP (Sp.clean s)) := by rw [dirP, cp_clean, clean_text _ (dir_ok s)]
  rw [e, under_clean]
  have e2 : cp (dirP (Sp.clean s)) = (cp s).dropLast := by rw [dirP, cp_clean, cp_text _ (dir_ok s)]
  rw [e2, if_pos (List.dropLast_prefix _)]
theorem under_root (s : List UInt8) : (under (Sp.clean s) [47]).2 = true := by
  have e : ([47] : List UInt8) = Sp.clean [] := rfl
  rw [e, under_clean, if_pos (by show ([] : List (List UInt8)) <+: _; exact List.nil_prefix)]
theorem back (s d : List UInt8) (h : (under (Sp.clean s) (Sp.clean d)).2 = true) : joinP (Sp.clean d) (under (Sp.clean s) (Sp.clean d)).1 = Sp.clean s := by
  rw [under_clean] at h ⊢
  by_cases hp : cp d <+: cp s
  · rw [if_pos hp, clean_of d, text_app _ _ (cp_ok d) (fun x hx => cp_ok s x (List.mem_of_mem_drop hx)), clean_of s]
    congr 1
    conv => rhs; rw [← List.take_append_drop (cp d).length (cp s), ← List.prefix_iff_eq_take.1 hp]
  · rw [if_neg hp] at h; cases h
end Go.Proofs.Ytocpdhbkfgolfaa.Pu
