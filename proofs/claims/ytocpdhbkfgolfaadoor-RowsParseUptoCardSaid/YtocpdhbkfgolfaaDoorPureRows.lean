/- Layer 11: rows. -/
import Derived.Test.YtocpdhbkfgolfaaDoorPureWords
import Derived.Test.YtocpdhbkfgolfaaDoorPureIs
import Derived.Test.YtocpdhbkfgolfaaDoorX12
import Derived.Test.YtocpdhbkfgolfaaDoorX12
import Derived.Test.YtocpdhbkfgolfaaDoorX11
import Derived.Test.YtocpdhbkfgolfaaDoorX12
namespace Go.Proofs.YtocpdhbkfgolfaaDoor.Pu
open Go Go.RowKit Go.Proofs Go.Proofs.YtocpdhbkfgolfaaDoor Go.Proofs.YtocpdhbkfgolfaaDoorW.PrintWords Go.Proofs.YtocpdhbkfgolfaaDoor.Ext Go.Proofs.YtocpdhbkfgolfaaDoor.X
set_option linter.unusedVariables false
set_option linter.unusedSimpArgs false

theorem any_bad (l : List UInt8) : Lib.containsAny l [10, 0] = l.any bad := by
  rw [Bool.eq_iff_iff, Sp.containsAny_iff, List.any_eq_true]
  constructor
  · rintro ⟨b, h1, h2⟩; exact ⟨b, h1, by simpa [bad, or_assoc] using h2⟩
  · rintro ⟨b, h1, h2⟩; exact ⟨b, h1, by simpa [bad, or_assoc] using h2⟩
def fits (l : List UInt8) : Bool := decide (l.length ≤ 4096) && !l.any bad
def kindOk (kd : Int) (dt : List UInt8) : Bool := if kd = 1 then dt.isEmpty else if kd = 3 then !dt.isEmpty else kd == 2
def rightR (p : List UInt8) (kd : Int) (dt : List UInt8) : Bool := Pa.isPath p && !(p == [47]) && fits p && fits dt && kindOk kd dt

theorem rows_fits_f (s : ByteArray) (hs : s.size < 4294967281) : rows_fits.f s = some (fits s.data.toList) := by
  unfold rows_fits.f fits
  have h : strings_ContainsAny.f s (⟨#[10, 0]⟩ : ByteArray) = some (s.data.toList.any bad) := by
    unfold strings_ContainsAny.f
    rw [if_pos ⟨hs, by decide, by decide, by decide⟩, show ((⟨#[10, 0]⟩ : ByteArray).data.toList) = [10, 0] from rfl, any_bad]
  rw [h, ← Sp.size_eq]
  by_cases h4 : s.size ≤ 4096
  · rw [if_pos (by omega), decide_eq_true h4]; rfl
  · rw [if_neg (by omega), decide_eq_false h4]; rfl
theorem isE (l : List UInt8) : (l == ([] : List UInt8)) = l.isEmpty := by cases l <;> rfl
theorem isE2 (l : List UInt8) : (l != ([] : List UInt8)) = !l.isEmpty := by cases l <;> rfl
theorem rows_right (p : ByteArray) (kd : Int) (dt : ByteArray) (hp : p.size < 2147483000) (hd : dt.size < 2147483000) : Ev (fun k => rows_Right.f k p kd dt) (rightR p.data.toList kd dt.data.toList) := by
  unfold rows_Right.f rightR
  have hI : path_Is.f p = some (Pa.isPath p.data.toList) := by unfold path_Is.f; rw [if_pos (by omega)]
  have j : ∀ b : Bool, Ev (fun k => rows_Right.j0 k b p kd dt) (!b && kindOk kd dt.data.toList) := fun b => by
    refine Ev.step (fun k => by rw [rows_Right.j0]) ?_
    cases b with
    | true => exact ev_pos rfl (Ev.now _)
    | false =>
      refine ev_neg (by simp) ?_
      rw [Bool.not_false, Bool.true_and]
      unfold kindOk
      rw [toL, isE, isE2]
      split
      · exact Ev.now _
      · split <;> exact Ev.now _
  refine ev_opt hI ?_
  cases Pa.isPath p.data.toList with
  | false => exact ev_neg (by simp) (j true)
  | true =>
    refine ev_pos rfl ?_
    rw [toL]
    by_cases h47 : p.data.toList = [47]
    · refine ev_pos h47 ?_
      rw [h47]
      exact j true
    · refine ev_neg h47 ?_
      have e : (p.data.toList == [47]) = false := by simpa using h47
      rw [e]
      refine ev_opt (rows_fits_f p (by omega)) ?_
      cases fits p.data.toList with
      | false => exact ev_neg (by simp) (j true)
      | true =>
        refine ev_pos rfl (ev_opt (rows_fits_f dt (by omega)) ?_)
        have := j (!fits dt.data.toList)
        rw [Bool.not_not] at this
        exact this

theorem r11_fits_l0 (s : ByteArray) (hs : s.size < 4294967281) : ∀ (d i : Nat), i + d = s.size → Ev (fun k => linhayref11_fits.l0 k s (i : Int)) (!(s.data.toList.drop i).any bad && decide (s.size ≤ 4096)) := by
  intro d
  induction d with
  | zero =>
    intro i hi
    refine Ev.step (fun k => by rw [linhayref11_fits.l0]) (ev_neg (by omega) ?_)
    rw [List.drop_eq_nil_of_le (by rw [← Sp.size_eq]; omega)]
    have e : decide ((s.size : Int) ≤ 4096) = decide (s.size ≤ 4096) := by rw [Bool.eq_iff_iff]; simp; omega
    rw [e]
    exact Ev.now _
  | succ d ih =>
    intro i hi
    obtain ⟨c, hc, hdr⟩ := get_at s (i := i) (by omega)
    refine Ev.step (fun k => by rw [linhayref11_fits.l0]) (ev_pos (by omega) (ev_pos (by omega) ?_))
    rw [bt_nat hc, w1 (by omega), hdr]
    by_cases h10 : c = 10
    · subst h10; exact ev_pos rfl (Ev.now _)
    · refine ev_neg (fun e => h10 ((u8_lit 10 (by omega)).1 e)) ?_
      by_cases h0 : c = 0
      · subst h0; exact ev_pos rfl (Ev.now _)
      · refine ev_neg (fun e => h0 ((u8_lit 0 (by omega)).1 e)) ?_
        have := ih (i + 1) (by omega)
        simpa [bad, h10, h0] using this
theorem r11_fits (s : ByteArray) (hs : s.size < 4294967281) : Ev (fun k => linhayref11_fits.f k s) (fits s.data.toList) := by
  have := r11_fits_l0 s hs s.size 0 (by omega)
  rw [List.drop_zero, Bool.and_comm] at this
  unfold fits
  rw [← Sp.size_eq]
  exact this
theorem r11_right (p : ByteArray) (kd : Int) (dt : ByteArray) (hp : p.size < 2147483000) (hd : dt.size < 2147483000) : Ev (fun k => linhayref11_Right.f k p kd dt) (rightR p.data.toList kd dt.data.toList) := by
  unfold linhayref11_Right.f rightR
  refine ev_bind (r04_is p hp) ?_
  cases Pa.isPath p.data.toList with
  | false => exact ev_neg (by simp) (Ev.now _)
  | true =>
    refine ev_pos rfl ?_
    rw [toL]
    by_cases h47 : p.data.toList = [47]
    · refine ev_pos h47 ?_
      rw [h47]
      exact Ev.now _
    · refine ev_neg h47 (ev_bind (r11_fits p (by omega)) ?_)
      have e : (p.data.toList == [47]) = false := by simpa using h47
      rw [e]
      cases fits p.data.toList with
      | false => exact ev_neg (by simp) (Ev.now _)
      | true =>
        refine ev_pos rfl (ev_bind (r11_fits dt (by omega)) ?_)
        cases fits dt.data.toList with
        | false => exact ev_neg (by simp) (Ev.now _)
        | true =>
          refine ev_pos rfl ?_
          rw [toL, isE2]
          unfold kindOk
          by_cases h1 : kd = 1
          · subst h1
            refine ev_pos rfl ?_
            by_cases h0 : dt.data.toList = []
            · rw [h0]; exact ev_pos rfl (Ev.now _)
            · refine ev_neg h0 (ev_neg (by decide) (ev_neg (by decide) ?_))
              have : dt.data.toList.isEmpty = false := by simpa using h0
              rw [this]
              exact Ev.now _
          · refine ev_neg h1 ?_
            rw [if_neg h1]
            by_cases h2 : kd = 2
            · subst h2; exact ev_pos rfl (Ev.now _)
            · refine ev_neg h2 ?_
              by_cases h3 : kd = 3
              · subst h3; refine ev_pos rfl ?_
                simpa using Ev.now _
              · refine ev_neg h3 ?_
                have : (kd == 2) = false := by simpa using h2
                rw [if_neg h3, this]
                exact Ev.now _

/-- What a row's line says; an error's number. -/
abbrev R4 := ByteArray × Int × ByteArray × Int
def nul : ByteArray := ⟨#[]⟩
def told (p : ByteArray) (kd : Int) (dt : ByteArray) : R4 := if rightR p.data.toList kd dt.data.toList = true then (p, kd, dt, 0) else (nul, 0, nul, 2)
def parseL : List ByteArray → R4
  | [a, p] => if Rk.kindOf a.data.toList = 1 then told p 1 nul else (nul, 0, nul, 3)
  | [a, p, d] => if Rk.kindOf a.data.toList = 2 ∨ Rk.kindOf a.data.toList = 3 then told p (Rk.kindOf a.data.toList) d else (nul, 0, nul, 3)
  | _ => (nul, 0, nul, 3)
def parseR (s : List UInt8) : R4 := if (Wd.split s).2 = 0 then parseL (Wd.split s).1 else (nul, 0, nul, (Wd.split s).2)

theorem kind_cases (l : List UInt8) : Rk.kindOf l = 0 ∨ Rk.kindOf l = 1 ∨ Rk.kindOf l = 2 ∨ Rk.kindOf l = 3 := by
  unfold Rk.kindOf; split
  · simp
  · split
    · simp
    · split <;> simp
theorem told_ev (p : ByteArray) (kd : Int) (dt : ByteArray) (hp : p.size < 2147483000) (hd : dt.size < 2147483000) :
    Ev (fun k => (rows_Right.f k p kd dt).bind fun t => if t = true then some (p, kd, dt, (0 : Int)) else some ((⟨#[]⟩ : ByteArray), 0, (⟨#[]⟩ : ByteArray), 2)) (told p kd dt) := by
  refine ev_bind (rows_right p kd dt hp hd) ?_
  unfold told
  split <;> exact Ev.now _
theorem told_ev2 (p : ByteArray) (kd : Int) (dt : ByteArray) (hp : p.size < 2147483000) (hd : dt.size < 2147483000) :
    Ev (fun k => (linhayref11_Right.f k p kd dt).bind fun t => if t = true then some (p, kd, dt, (0 : Int)) else some ((⟨#[]⟩ : ByteArray), 0, (⟨#[]⟩ : ByteArray), 2)) (told p kd dt) := by
  refine ev_bind (r11_right p kd dt hp hd) ?_
  unfold told
  split <;> exact Ev.now _

theorem parse_j0_bad (l : List ByteArray) : Ev (fun k => rows_Parse.j0 k l true) (nul, 0, nul, 3) := by
  refine Ev.step (fun k => by rw [rows_Parse.j0]) ?_
  exact ev_pos rfl (Ev.now _)
theorem parse_j2_bad (l : List ByteArray) (p : ByteArray) (kd : Int) (d : ByteArray) : Ev (fun k => rows_Parse.j2 k l true p kd d) (nul, 0, nul, 3) := by
  refine Ev.step (fun k => by rw [rows_Parse.j2]) ?_
  exact ev_pos rfl (Ev.now _)
theorem rows_parse_l (l : List ByteArray) (hw : ∀ s ∈ l, s.size ≤ 4096) (hl : l.length < 4294967296) :
    Ev (fun k => if (l.length : Int) < 2 then (rows_Parse.j0 k l true) else (if 0 < (l.length : Int) then ((rows_kind.f (rdOf ByteArray.empty l 0)).bind fun t313 => (rows_Parse.j0 k l (t313 == 0))) else (none))) (parseL l) := by
  match l, hw, hl with
  | [], _, _ => exact ev_pos (by simp) (parse_j0_bad _)
  | [a], _, _ => exact ev_pos (by simp) (parse_j0_bad _)
  | a :: p :: r, hw, hl =>
    have hp := hw p (by simp)
    refine ev_neg (by simp only [List.length_cons]; omega) (ev_pos (by simp only [List.length_cons]; omega) ?_)
    rw [show (0 : Int) = ((0 : Nat) : Int) from rfl, rd_nat (l := a :: p :: r) (i := 0) rfl]
    have hk : rows_kind.f a = some (Rk.kindOf a.data.toList) := rfl
    refine ev_opt hk ?_
    have hkc := kind_cases a.data.toList
    generalize hK : Rk.kindOf a.data.toList = K at *
    by_cases h0 : K = 0
    · subst h0
      have e : parseL (a :: p :: r) = (nul, 0, nul, 3) := by
        unfold parseL
        split <;> simp_all
      rw [e]
      exact parse_j0_bad _
    · have b0 : (K == 0) = false := by simpa using h0
      rw [show (K == ((0 : Nat) : Int)) = false from b0]
      refine Ev.step (fun k => by rw [rows_Parse.j0]) (ev_neg (by simp) (ev_pos (by simp only [List.length_cons]; omega) ?_))
      rw [show (0 : Int) = ((0 : Nat) : Int) from rfl, rd_nat (l := a :: p :: r) (i := 0) rfl, show (1 : Int) = ((1 : Nat) : Int) from rfl, rd_nat (l := a :: p :: r) (i := 1) rfl]
      refine ev_opt hk (ev_pos (by simp only [List.length_cons]; omega) ?_)
      by_cases h1 : K = 1
      · subst h1
        refine ev_pos rfl ?_
        refine Ev.step (fun k => by rw [rows_Parse.j1]) ?_
        cases r with
        | nil =>
          refine ev_neg (by simp) (ev_pos rfl ?_)
          refine Ev.step (fun k => by rw [rows_Parse.j2]) (ev_neg (by simp) (ev_pos rfl ?_))
          have e : parseL [a, p] = told p 1 nul := by show (if Rk.kindOf a.data.toList = 1 then told p 1 nul else _) = _; rw [hK]; rfl
          rw [e]
          exact told_ev p 1 nul (by omega) (by decide)
        | cons d r =>
          have e : parseL (a :: p :: d :: r) = (nul, 0, nul, 3) := by
            cases r with
            | nil => show (if Rk.kindOf a.data.toList = 2 ∨ Rk.kindOf a.data.toList = 3 then told p (Rk.kindOf a.data.toList) d else _) = _; rw [hK]; rfl
            | cons x y => rfl
          rw [e]
          exact ev_pos (by simp only [List.length_cons, bne_iff_ne]; omega) (by
            have : (((a :: p :: d :: r).length : Int) != 2) = true := by simp only [List.length_cons, bne_iff_ne]; omega
            rw [this]; exact parse_j2_bad _ _ _ _)
      · refine ev_neg h1 ?_
        refine Ev.step (fun k => by rw [rows_Parse.j1]) (ev_neg (by simp) (ev_neg h1 ?_))
        have hK23 : K = 2 ∨ K = 3 := by omega
        match r, hw, hl with
        | [], _, _ =>
          have e : parseL [a, p] = (nul, 0, nul, 3) := by show (if Rk.kindOf a.data.toList = 1 then told p 1 nul else _) = _; rw [hK, if_neg h1]
          rw [e]
          exact parse_j2_bad _ _ _ _
        | [d], hw, _ =>
          have hd := hw d (by simp)
          have e : parseL [a, p, d] = told p K d := by show (if Rk.kindOf a.data.toList = 2 ∨ Rk.kindOf a.data.toList = 3 then told p (Rk.kindOf a.data.toList) d else _) = _; rw [hK, if_pos hK23]
          rw [e]
          refine Ev.step (fun k => by rw [rows_Parse.j2]) (ev_neg (by simp) (ev_neg h1 (ev_pos (by simp only [List.length_cons, List.length_nil]; omega) ?_)))
          rw [show (2 : Int) = ((2 : Nat) : Int) from rfl, rd_nat (l := [a, p, d]) (i := 2) rfl]
          exact told_ev p K d (by omega) (by omega)
        | d :: x :: y, _, _ =>
          have e : parseL (a :: p :: d :: x :: y) = (nul, 0, nul, 3) := rfl
          rw [e]
          have : (((a :: p :: d :: x :: y).length : Int) != 3) = true := by simp only [List.length_cons, bne_iff_ne]; omega
          rw [this]
          exact parse_j2_bad _ _ _ _

/-! ### what words a line has is short -/
def Short (x : Wd.S3) : Prop := (∀ s ∈ x.1, s.size ≤ 4096) ∧ x.2.1.length ≤ 4096
theorem nums_size (l : List Int) : (strOfNums l).size = l.length := by simp [strOfNums, ByteArray.size]
theorem fin_short (x : Wd.S3) (h : Short x) : Short (Wd.fin x) := by
  unfold Wd.fin; split
  · exact h
  · refine ⟨fun s hs => ?_, by simp⟩
    rcases List.mem_append.1 hs with hs | hs
    · exact h.1 s hs
    · rw [List.mem_singleton] at hs
      rw [hs, nums_size]; exact h.2
theorem take_short (x : Wd.S3) (c : Int) (h : Short x) (h2 : (Wd.take x c).2.1.length ≤ 4096) : Short (Wd.take x c) := by
  have hf := fin_short x h
  refine ⟨?_, h2⟩
  unfold Wd.take; split
  · exact h.1
  · split
    · exact h.1
    · split
      · exact h.1
      · unfold Wd.plain; split
        · exact hf.1
        · split
          · exact h.1
          · split <;> exact h.1
theorem scan_short : ∀ (l : List UInt8) (x : Wd.S3), Short x → (Wd.scan x l).1 = 0 → Short (Wd.scan x l).2
  | [], x, h, _ => h
  | c :: t, x, h, he => by
    rw [Wd.scan] at he ⊢
    split
    · rename_i hc; rw [if_pos hc] at he; simp at he
    · rename_i hc
      rw [if_neg hc] at he
      split
      · rename_i h4; rw [if_pos h4] at he; simp at he
      · rename_i h4
        rw [if_neg h4] at he
        exact scan_short t _ (take_short x _ h (by omega)) he
theorem split_short (l : List UInt8) : ∀ s ∈ (Wd.split l).1, s.size ≤ 4096 := by
  unfold Wd.split
  simp only
  split
  · rename_i h
    split
    · simp
    · exact (fin_short _ (scan_short l _ ⟨by simp, by simp⟩ h)).1
  · simp

theorem split_f (s : ByteArray) (hs : s.size < 4294967281) : words_Split.f s = some (Wd.split s.data.toList) := by unfold words_Split.f; rw [if_pos hs]
theorem rows_parse (s : ByteArray) (hs : s.size < 4294967281) : Ev (fun k => rows_Parse.f k s) (parseR s.data.toList) := by
  unfold rows_Parse.f parseR
  refine ev_opt (split_f s hs) ?_
  have hl := split_len s.data.toList
  rw [← Sp.size_eq] at hl
  by_cases h : (Wd.split s.data.toList).2 = 0
  · rw [if_pos h]
    exact ev_pos h (rows_parse_l _ (split_short _) (by omega))
  · rw [if_neg h]
    exact ev_neg h (Ev.now _)

/-! ### lines -/
def lineW (p : ByteArray) (kd : Int) (dt : ByteArray) : List ByteArray :=
  if kd = 1 then [Sp.mk [100], p] else if kd = 3 then [Sp.mk [108], p, dt] else [Sp.mk [102], p, dt]
theorem letter_at (kd : Int) (h : kd = 1 ∨ kd = 2 ∨ kd = 3) : (⟨#[100, 102, 108]⟩ : ByteArray).extract ((wrap64 (kd - 1)) : Int).toNat (kd : Int).toNat = Sp.mk [if kd = 1 then 100 else if kd = 3 then 108 else 102] := by
  rw [← Sp.mk_of ((⟨#[100, 102, 108]⟩ : ByteArray).extract _ _), Lib.extract_data]
  have w0 : (wrap64 (1 - 1)).toNat = 0 := by have : wrap64 (1 - 1) = 0 := by unfold wrap64; omega
                                             rw [this]; rfl
  have w1 : (wrap64 (2 - 1)).toNat = 1 := by have : wrap64 (2 - 1) = 1 := by unfold wrap64; omega
                                             rw [this]; rfl
  have w2 : (wrap64 (3 - 1)).toNat = 2 := by have : wrap64 (3 - 1) = 2 := by unfold wrap64; omega
                                             rw [this]; rfl
  rcases h with rfl | rfl | rfl
  · rw [w0]; rfl
  · rw [w1]; rfl
  · rw [w2]; rfl
theorem right_kind {p : List UInt8} {kd : Int} {dt : List UInt8} (h : rightR p kd dt = true) : kd = 1 ∨ kd = 2 ∨ kd = 3 := by
  unfold rightR kindOk at h
  simp only [Bool.and_eq_true] at h
  have h2 := h.2
  split at h2
  · omega
  · split at h2
    · omega
    · exact .inr (.inl (by simpa using h2))
theorem right_words {p dt : ByteArray} {kd : Int} (h : rightR p.data.toList kd dt.data.toList = true) : ∀ s ∈ lineW p kd dt, okWord s := by
  unfold rightR fits at h
  simp only [Bool.and_eq_true, decide_eq_true_eq, Bool.not_eq_true'] at h
  rw [← Sp.size_eq, ← Sp.size_eq] at h
  have hp : okWord p := ⟨h.1.1.2.2, h.1.1.2.1⟩
  have hd : okWord dt := ⟨h.1.2.2, h.1.2.1⟩
  intro s hs
  unfold lineW at hs
  split at hs
  · simp at hs; rcases hs with rfl | rfl
    · exact ⟨by decide, by decide⟩
    · exact hp
  · split at hs
    · simp at hs; rcases hs with rfl | rfl | rfl
      · exact ⟨by decide, by decide⟩
      · exact hp
      · exact hd
    · simp at hs; rcases hs with rfl | rfl | rfl
      · exact ⟨by decide, by decide⟩
      · exact hp
      · exact hd
def lineOf (p : ByteArray) (kd : Int) (dt : ByteArray) : ByteArray := Sp.mk (joinq (lineW p kd dt))
theorem lineW_len (p : ByteArray) (kd : Int) (dt : ByteArray) : (lineW p kd dt).length ≤ 3 := by
  unfold lineW; split
  · simp
  · split <;> simp
theorem rows_line (p : ByteArray) (kd : Int) (dt : ByteArray) (hp : p.size < 2147483000) (hd : dt.size < 2147483000) :
    Ev (fun k => rows_Line.f k p kd dt) (if rightR p.data.toList kd dt.data.toList = true then (lineOf p kd dt, 0) else (nul, 2)) := by
  unfold rows_Line.f
  refine ev_bind (rows_right p kd dt hp hd) ?_
  cases hr : rightR p.data.toList kd dt.data.toList with
  | false =>
    rw [if_neg (by simp)]
    exact ev_neg (by simp) (Ev.now _)
  | true =>
    rw [if_pos rfl]
    have hk := right_kind hr
    have hw := right_words hr
    have hl := lineW_len p kd dt
    have hj := words_join (lineW p kd dt) (by omega) (fun s hs => (hw s hs).2)
    refine ev_pos rfl ?_
    rw [letter_at kd hk]
    unfold lineOf
    rcases hk with rfl | rfl | rfl
    · refine ev_pos (by unfold wrap64; omega) (ev_pos (by unfold wrap64; omega) (ev_pos (by decide) (ev_some (ev_pos rfl ?_))))
      exact ev_bind hj (Ev.now _)
    · refine ev_pos (by unfold wrap64; omega) (ev_pos (by unfold wrap64; omega) (ev_pos (by decide) (ev_some (ev_neg (by decide) (ev_pos (by simp) ?_)))))
      exact ev_bind hj (Ev.now _)
    · refine ev_pos (by unfold wrap64; omega) (ev_pos (by unfold wrap64; omega) (ev_pos (by decide) (ev_some (ev_neg (by decide) (ev_pos (by simp) ?_)))))
      exact ev_bind hj (Ev.now _)

theorem l11_lives : Ev (fun k => linhaylaw11_lives.f k) true := by
  unfold linhaylaw11_lives.f
  have h1 := rows_parse (⟨#[102, 32, 47, 97, 47, 98, 32, 39, 120, 32, 121, 39]⟩ : ByteArray) (by decide)
  have e1 : parseR ((⟨#[102, 32, 47, 97, 47, 98, 32, 39, 120, 32, 121, 39]⟩ : ByteArray).data.toList) = (Sp.mk [47, 97, 47, 98], 2, Sp.mk [120, 32, 121], 0) := by rfl
  rw [e1] at h1
  refine ev_bind h1 ?_
  have h2 := rows_line (Sp.mk [47, 97, 47, 98]) 2 (Sp.mk [120, 32, 121]) (by decide) (by decide)
  have e2 : (if rightR (Sp.mk [47, 97, 47, 98]).data.toList 2 (Sp.mk [120, 32, 121]).data.toList = true then (lineOf (Sp.mk [47, 97, 47, 98]) 2 (Sp.mk [120, 32, 121]), (0 : Int)) else (nul, 2)) = (Sp.mk [102, 32, 47, 97, 47, 98, 32, 39, 120, 32, 121, 39], 0) := by rfl
  rw [e2] at h2
  refine ev_bind h2 ?_
  simp only [toList_mk]
  refine ev_pos (by simp) (ev_pos (by simp) (ev_pos (by simp) ?_))
  exact Ev.now _

end Go.Proofs.YtocpdhbkfgolfaaDoor.Pu
