/- Words of tasks: shielded texts, and back; plain functions on bytes. -/
import Derived.Test.YtocpdhbkfgolfaaDoorPureIs
import Derived.Test.YtocpdhbkfgolfaaDoorExtParse
import Derived.Test.YtocpdhbkfgolfaaDoorX17
import Derived.Test.YtocpdhbkfgolfaaDoorX16
namespace Go.Proofs.YtocpdhbkfgolfaaDoor.Pu
open Go Go.RowKit Go.Proofs Go.Proofs.YtocpdhbkfgolfaaDoor Go.Proofs.YtocpdhbkfgolfaaDoorW.PrintWords Go.Proofs.YtocpdhbkfgolfaaDoor.Ext Go.Proofs.YtocpdhbkfgolfaaDoor.X
set_option linter.unusedVariables false
set_option linter.unusedSimpArgs false

theorem wr {x : Int} (h0 : -4611686018427387904 ≤ x) (h1 : x ≤ 4611686018427387904) : wrap64 x = x := by unfold wrap64; omega
def hexd (n : Nat) : UInt8 := if n < 10 then (48 + n).toUInt8 else (55 + n).toUInt8
def plainC (c : UInt8) : Bool := decide (32 < c.toNat) && decide (c.toNat < 127) && !(c.toNat == 37)
def shC (c : UInt8) : List UInt8 := if plainC c = true then [c] else [37, hexd (c.toNat / 16), hexd (c.toNat % 16)]
def sh (l : List UInt8) : List UInt8 := l.flatMap shC
abbrev D16 : ByteArray := ⟨#[48, 49, 50, 51, 52, 53, 54, 55, 56, 57, 65, 66, 67, 68, 69, 70]⟩
theorem D16_at : ∀ n : Fin 16, bt D16 (n.val : Int) = ((hexd n.val).toNat : Int) := by decide +kernel
theorem and15 : ∀ n : Fin 256, Go.bits .and .u8 (n.val : Int) 15 = ((n.val % 16 : Nat) : Int) := by decide +kernel
theorem hexf : ∀ n : Fin 16, linhayref19_hex.f (n.val : Int) = some (Sp.mk [hexd n.val]) := by decide +kernel
theorem sh_len (l : List UInt8) : (sh l).length ≤ 3 * l.length := by
  induction l with
  | nil => simp [sh]
  | cons c l ih =>
    have e : sh (c :: l) = shC c ++ sh l := rfl
    have : (shC c).length ≤ 3 := by unfold shC; split <;> simp
    rw [e, List.length_append, List.length_cons]
    omega
theorem sh_cons (c : UInt8) (l : List UInt8) : sh (c :: l) = shC c ++ sh l := rfl
theorem sh_append (a b : List UInt8) : sh (a ++ b) = sh a ++ sh b := by simp [sh]

theorem shield_l0 (s : ByteArray) (hs : s.size < 4294967281) : ∀ (d i : Nat) (out : List UInt8), i + d = s.size → out.length ≤ 3 * i →
    Ev (fun k => task_Shield.l0 k s (ni out) (s.size : Int) (i : Int)) (Sp.mk (out ++ sh (s.data.toList.drop i))) := by
  intro d
  induction d with
  | zero =>
    intro i out hi ho
    refine Ev.step (fun k => by rw [task_Shield.l0]) (ev_neg (by omega) ?_)
    rw [List.drop_eq_nil_of_le (by rw [← Sp.size_eq]; omega), strOfNums_ni]
    simp only [sh, List.flatMap_nil, List.append_nil]
    exact Ev.now _
  | succ d ih =>
    intro i out hi ho
    obtain ⟨c, hc, hdr⟩ := get_at s (i := i) (by omega)
    refine Ev.step (fun k => by rw [task_Shield.l0]) (ev_pos (by omega) (ev_pos (by omega) (ev_pos (by omega) ?_)))
    have hc256 : c.toNat < 256 := c.toNat_lt
    have e1 : ((c.toNat : Int) / 16) = ((c.toNat / 16 : Nat) : Int) := by omega
    have e2 := and15 ⟨c.toNat, hc256⟩
    have e3 := D16_at ⟨c.toNat / 16, by omega⟩
    have e4 := D16_at ⟨c.toNat % 16, by omega⟩
    simp only [] at e2 e3 e4
    rw [bt_nat hc, w1 (by omega), hdr, e1, e2, e3, e4, sh_cons]
    have hex : plainC c = false → Ev (fun k => if 0 ≤ ((c.toNat / 16 : Nat) : Int) then (if ((c.toNat / 16 : Nat) : Int) < 16 then (if 0 ≤ ((c.toNat % 16 : Nat) : Int) then (if ((c.toNat % 16 : Nat) : Int) < 16 then ((some (([37, ((hexd (c.toNat / 16)).toNat : Int), ((hexd (c.toNat % 16)).toNat : Int)] : List Int) : List Int)).bind fun y => (if (ni out).length + y.length < 140737488355328 then (task_Shield.l0 k s (ni out ++ y) (s.size : Int) ((i + 1 : Nat) : Int)) else (none))) else (none)) else (none)) else (none)) else (none))
        (Sp.mk (out ++ (shC c ++ sh (s.data.toList.drop (i + 1))))) := fun hp => by
      refine ev_pos (by omega) (ev_pos (by omega) (ev_pos (by omega) (ev_pos (by omega) (ev_some (ev_pos (by rw [ni_len]; simp; omega) ?_)))))
      have e : ni out ++ [37, ((hexd (c.toNat / 16)).toNat : Int), ((hexd (c.toNat % 16)).toNat : Int)] = ni (out ++ shC c) := by
        rw [shC, hp]; simp [ni]
      rw [e, ← List.append_assoc]
      refine ih (i + 1) (out ++ shC c) (by omega) ?_
      have : (shC c).length ≤ 3 := by unfold shC; split <;> simp
      rw [List.length_append]; omega
    by_cases h1 : 32 < c.toNat
    · refine ev_pos (by omega) ?_
      by_cases h2 : c.toNat < 127
      · refine ev_pos (by omega) ?_
        by_cases h3 : c.toNat = 37
        · exact ev_pos (by omega) (hex (by simp [plainC, h3]))
        · refine ev_neg (by omega) (ev_pos (by rw [ni_len]; omega) ?_)
          rw [ni_snoc]
          have e : shC c = [c] := by rw [shC, if_pos (by simp [plainC, h1, h2, h3])]
          rw [e, ← List.append_assoc]
          exact ih (i + 1) (out ++ [c]) (by omega) (by simp; omega)
      · exact ev_neg (by omega) (hex (by simp [plainC, h2]))
    · exact ev_neg (by omega) (hex (by simp [plainC, h1]))
theorem shield (s : ByteArray) (hs : s.size < 4294967281) : Ev (fun k => task_Shield.f k s) (Sp.mk (sh s.data.toList)) := by
  have h := shield_l0 s hs s.size 0 [] (by omega) (by simp)
  simpa [ni, task_Shield.f] using h

theorem r_shield_l0 (s : ByteArray) (hs : s.size < 4294967281) : ∀ (d i : Nat) (out : List UInt8), i + d = s.size → out.length ≤ 3 * i →
    Ev (fun k => linhayref19_Shield.l0 k s (Sp.mk out) (i : Int)) (Sp.mk (out ++ sh (s.data.toList.drop i))) := by
  intro d
  induction d with
  | zero =>
    intro i out hi ho
    refine Ev.step (fun k => by rw [linhayref19_Shield.l0]) (ev_neg (by omega) ?_)
    rw [List.drop_eq_nil_of_le (by rw [← Sp.size_eq]; omega)]
    simp only [sh, List.flatMap_nil, List.append_nil]
    exact Ev.now _
  | succ d ih =>
    intro i out hi ho
    obtain ⟨c, hc, hdr⟩ := get_at s (i := i) (by omega)
    refine Ev.step (fun k => by rw [linhayref19_Shield.l0]) (ev_pos (by omega) (ev_pos (by omega) ?_))
    have hc256 : c.toNat < 256 := c.toNat_lt
    rw [bt_nat hc, wr (x := (c.toNat : Int)) (by omega) (by omega), hdr, sh_cons]
    have hex : plainC c = false → Ev (fun k => linhayref19_Shield.j1 k s (Sp.mk out) (i : Int) (c.toNat : Int) true) (Sp.mk (out ++ (shC c ++ sh (s.data.toList.drop (i + 1))))) := fun hp => by
      refine Ev.step (fun k => by rw [linhayref19_Shield.j1]) (ev_pos rfl ?_)
      have e1 : wrap64 (Int.tdiv (c.toNat : Int) 16) = ((c.toNat / 16 : Nat) : Int) := by rw [Int.tdiv_eq_ediv_of_nonneg (by omega)]; unfold wrap64; omega
      have e2 : Int.tmod (c.toNat : Int) 16 = ((c.toNat % 16 : Nat) : Int) := by rw [Int.tmod_eq_emod_of_nonneg (by omega)]; omega
      have e3 := hexf ⟨c.toNat / 16, by omega⟩
      have e4 := hexf ⟨c.toNat % 16, by omega⟩
      simp only [] at e3 e4
      rw [e1, e2, e3, e4, w1 (by omega)]
      have es : (((⟨#[37]⟩ : ByteArray) ++ Sp.mk [hexd (c.toNat / 16)]) ++ Sp.mk [hexd (c.toNat % 16)]) = Sp.mk (shC c) := by
        rw [shC, hp, show (⟨#[37]⟩ : ByteArray) = Sp.mk [37] from rfl, app_mk, app_mk]; rfl
      have hl : (shC c).length ≤ 3 := by unfold shC; split <;> simp
      refine ev_some (ev_pos (by rw [Sp.mk_size]; simp) (ev_some (ev_pos (by rw [show (⟨#[37]⟩ : ByteArray) = Sp.mk [37] from rfl, app_mk, Sp.mk_size, Sp.mk_size]; simp) ?_)))
      rw [es, app_mk, Sp.mk_size, Sp.mk_size]
      refine ev_pos (by omega) ?_
      rw [← List.append_assoc]
      exact ih (i + 1) (out ++ shC c) (by omega) (by rw [List.length_append]; omega)
    by_cases h1 : 32 < c.toNat
    · refine ev_neg (by omega) ?_
      by_cases h2 : c.toNat < 127
      · refine ev_neg (by omega) ?_
        by_cases h3 : c.toNat = 37
        · have e : ((c.toNat : Int) == 37) = true := beq_iff_eq.2 (by omega)
          rw [e]
          exact hex (by simp [plainC, h3])
        · have e : ((c.toNat : Int) == 37) = false := beq_eq_false_iff_ne.2 (by omega)
          rw [e]
          refine Ev.step (fun k => by rw [linhayref19_Shield.j1]) (ev_neg (by simp) (ev_pos (by omega) ?_))
          rw [w1 (by omega)]
          refine ev_pos (by omega) (ev_pos (by omega) ?_)
          rw [Int.toNat_natCast, Int.toNat_natCast, ex1 hc, app_mk, Sp.mk_size, Sp.mk_size]
          refine ev_pos (by simp; omega) ?_
          have e : shC c = [c] := by rw [shC, if_pos (by simp [plainC, h1, h2, h3])]
          rw [e, ← List.append_assoc]
          exact ih (i + 1) (out ++ [c]) (by omega) (by simp; omega)
      · exact ev_pos (by omega) (hex (by simp [plainC, h2]))
    · exact ev_pos (by omega) (hex (by simp [plainC, h1]))
theorem r_shield (s : ByteArray) (hs : s.size < 4294967281) : Ev (fun k => linhayref19_Shield.f k s) (Sp.mk (sh s.data.toList)) := by
  have h := r_shield_l0 s hs s.size 0 [] (by omega) (by simp)
  simpa [Sp.mk, linhayref19_Shield.f] using h

/-! ### back -/
def hv (c : UInt8) : Nat := if 48 ≤ c.toNat ∧ c.toNat ≤ 57 then c.toNat - 48 else if 65 ≤ c.toNat ∧ c.toNat ≤ 70 then c.toNat - 55 else 16
def hvI (c : UInt8) : Int := if hv c < 16 then (hv c : Int) else -1
/-- Two digits' byte. -/
def by2 (x y : UInt8) : UInt8 := (16 * hv x + hv y).toUInt8
/-- The bytes of a word, each '%' with its two digits taken back. -/
def dec : List UInt8 → Option (List UInt8)
  | [] => some []
  | [c] => if c = 37 then none else some [c]
  | [c, x] => if c = 37 then none else (dec [x]).map (c :: ·)
  | c :: x :: y :: t => if c = 37 then (if hv x < 16 ∧ hv y < 16 then (dec t).map (by2 x y :: ·) else none) else (dec (x :: y :: t)).map (c :: ·)
/-- The same, where just what Shield makes is taken back. -/
def bare : List UInt8 → Option (List UInt8)
  | [] => some []
  | [c] => if plainC c = true then some [c] else none
  | [c, x] => if plainC c = true then (bare [x]).map (c :: ·) else none
  | c :: x :: y :: t => if plainC c = true then (bare (x :: y :: t)).map (c :: ·) else if c = 37 ∧ hv x < 16 ∧ hv y < 16 ∧ plainC (by2 x y) = false then (bare t).map (by2 x y :: ·) else none
theorem dec_no {c : UInt8} (h : c ≠ 37) (t : List UInt8) : dec (c :: t) = (dec t).map (c :: ·) := by
  match t with
  | [] => simp [dec, h]
  | [x] => simp [dec, h]
  | x :: y :: t => simp [dec, h]
theorem bare_no {c : UInt8} (h : plainC c = true) (t : List UInt8) : bare (c :: t) = (bare t).map (c :: ·) := by
  match t with
  | [] => simp [bare, h]
  | [x] => simp [bare, h]
  | x :: y :: t => simp [bare, h]
theorem hv_hexd : ∀ n : Fin 16, hv (hexd n.val) = n.val := by decide
theorem by2_hexd (c : UInt8) : by2 (hexd (c.toNat / 16)) (hexd (c.toNat % 16)) = c := by
  have hc256 : c.toNat < 256 := c.toNat_lt
  have e3 := hv_hexd ⟨c.toNat / 16, by omega⟩
  have e4 := hv_hexd ⟨c.toNat % 16, by omega⟩
  simp only [] at e3 e4
  unfold by2
  rw [e3, e4]
  apply UInt8.toNat_inj.1
  simp
  omega
theorem hexd_hv : ∀ c : Fin 256, hv (UInt8.ofNat c.val) < 16 → hexd (hv (UInt8.ofNat c.val)) = UInt8.ofNat c.val := by decide +kernel
theorem hexd_hv' (c : UInt8) (h : hv c < 16) : hexd (hv c) = c := by
  have := hexd_hv ⟨c.toNat, c.toNat_lt⟩
  simp only [UInt8.ofNat_toNat] at this
  exact this h
theorem plain_not (c : UInt8) (h : plainC c = true) : c ≠ 37 := by rintro rfl; simp [plainC] at h
theorem dec_sh : ∀ l : List UInt8, dec (sh l) = some l
  | [] => rfl
  | c :: l => by
    rw [sh_cons, shC]
    split
    · rename_i h
      rw [List.singleton_append, dec_no (plain_not c h), dec_sh l]; rfl
    · have hc256 : c.toNat < 256 := c.toNat_lt
      have e3 := hv_hexd ⟨c.toNat / 16, by omega⟩
      have e4 := hv_hexd ⟨c.toNat % 16, by omega⟩
      simp only [] at e3 e4
      show dec (37 :: hexd (c.toNat / 16) :: hexd (c.toNat % 16) :: sh l) = _
      rw [dec, if_pos rfl, if_pos ⟨by omega, by omega⟩, by2_hexd, dec_sh l]; rfl
theorem bare_sh : ∀ l : List UInt8, bare (sh l) = some l
  | [] => rfl
  | c :: l => by
    rw [sh_cons, shC]
    split
    · rename_i h
      rw [List.singleton_append, bare_no h, bare_sh l]; rfl
    · rename_i h
      have hc256 : c.toNat < 256 := c.toNat_lt
      have e3 := hv_hexd ⟨c.toNat / 16, by omega⟩
      have e4 := hv_hexd ⟨c.toNat % 16, by omega⟩
      simp only [] at e3 e4
      show bare (37 :: hexd (c.toNat / 16) :: hexd (c.toNat % 16) :: sh l) = _
      rw [bare, if_neg (by decide), if_pos ⟨rfl, by omega, by omega, by rw [by2_hexd]; simpa using h⟩, by2_hexd, bare_sh l]; rfl
theorem by2_toNat {x y : UInt8} (hx : hv x < 16) (hy : hv y < 16) : (by2 x y).toNat = 16 * hv x + hv y := by unfold by2; simp; omega
theorem sh_bare : ∀ (n : Nat) (l o : List UInt8), l.length ≤ n → bare l = some o → sh o = l := by
  intro n
  induction n with
  | zero => intro l o hl h; obtain rfl := List.eq_nil_of_length_eq_zero (Nat.le_zero.1 hl); simp [bare] at h; subst h; rfl
  | succ n ih =>
    intro l o hl h
    match l, hl, h with
    | [], _, h => simp [bare] at h; subst h; rfl
    | c :: t, hl, h =>
      by_cases hp : plainC c = true
      · rw [bare_no hp] at h
        obtain ⟨q, hq, rfl⟩ := Option.map_eq_some_iff.1 h
        rw [sh_cons, shC, if_pos hp, ih t q (by simpa using hl) hq]; rfl
      · match t, hl, h with
        | [], _, h => rw [bare, if_neg hp] at h; cases h
        | [x], _, h => rw [bare, if_neg hp] at h; cases h
        | x :: y :: t, hl, h =>
          rw [bare, if_neg hp] at h
          split at h
          · rename_i hh
            obtain ⟨hc, hx, hy, hb⟩ := hh
            obtain ⟨q, hq, hqo⟩ := Option.map_eq_some_iff.1 h
            subst hc
            subst hqo
            have e := by2_toNat hx hy
            rw [sh_cons, shC, if_neg (by rw [hb]; simp), ih t q (by simp at hl; omega) hq, e]
            have a1 : (16 * hv x + hv y) / 16 = hv x := by omega
            have a2 : (16 * hv x + hv y) % 16 = hv y := by omega
            rw [a1, a2, hexd_hv' x hx, hexd_hv' y hy]; rfl
          · cases h
def bareR (l : List UInt8) : ByteArray × Bool := match bare l with | some o => (Sp.mk o, true) | none => (⟨#[]⟩, false)
theorem dec_bare (l : List UInt8) : (match dec l with | some o => if sh o = l then (Sp.mk o, true) else ((⟨#[]⟩ : ByteArray), false) | none => ((⟨#[]⟩ : ByteArray), false)) = bareR l := by
  unfold bareR
  cases hb : bare l with
  | some o =>
    have h := sh_bare l.length l o (Nat.le_refl _) hb
    have hd : dec l = some o := by rw [← h, dec_sh]
    rw [hd]
    simp only []
    rw [if_pos h]
  | none =>
    cases hd : dec l with
    | none => rfl
    | some o =>
      simp only []
      rw [if_neg]
      intro e
      rw [← e, bare_sh] at hb
      cases hb

/-! ### the functions -/
theorem ev_to {α : Type} {f : Nat → Option α} {r r' : α} (h : Ev f r) (e : r = r') : Ev f r' := e ▸ h
theorem hvI_a {c : UInt8} (h1 : 48 ≤ c.toNat) (h2 : c.toNat ≤ 57) : hvI c = (c.toNat : Int) - 48 := by
  have : hv c = c.toNat - 48 := if_pos ⟨h1, h2⟩
  unfold hvI; rw [this, if_pos (by omega)]; omega
theorem hvI_b {c : UInt8} (h1 : 65 ≤ c.toNat) (h2 : c.toNat ≤ 70) : hvI c = (c.toNat : Int) - 55 := by
  have : hv c = c.toNat - 55 := by unfold hv; rw [if_neg (by omega), if_pos ⟨h1, h2⟩]
  unfold hvI; rw [this, if_pos (by omega)]; omega
theorem hvI_c {c : UInt8} (h1 : ¬ (48 ≤ c.toNat ∧ c.toNat ≤ 57)) (h2 : ¬ (65 ≤ c.toNat ∧ c.toNat ≤ 70)) : hvI c = -1 := by
  have : hv c = 16 := by unfold hv; rw [if_neg h1, if_neg h2]
  unfold hvI; rw [this, if_neg (by omega)]
theorem idx16 : ∀ c : Fin 256, Lib.indexByte D16.data.toList (UInt8.ofNat c.val) = hvI (UInt8.ofNat c.val) := by decide +kernel
theorem digit_f (c : UInt8) : strings_IndexByte.f D16 (c.toNat : Int) = some (hvI c) := by
  have h := idx16 ⟨c.toNat, c.toNat_lt⟩
  simp only [UInt8.ofNat_toNat] at h
  rw [strings_IndexByte.f, ← h]
  simp
theorem or16 : ∀ a b : Fin 16, (Go.bits .or .i64 (wrap64 ((a.val : Int) * 16)) (b.val : Int)) % 256 = ((16 * a.val + b.val : Nat) : Int) := by decide +kernel
theorem hvI_yes {c : UInt8} (h : hv c < 16) : hvI c = (hv c : Int) := if_pos h
theorem hvI_no {c : UInt8} (h : ¬ hv c < 16) : hvI c = -1 := if_neg h
abbrev BB := ByteArray × Bool
def noB : BB := ((⟨#[]⟩ : ByteArray), false)
def finP (s out : List UInt8) : Option (List UInt8) → BB
  | some o => if sh (out ++ o) = s then (Sp.mk (out ++ o), true) else noB
  | none => noB
def finR (out : List UInt8) : Option (List UInt8) → BB
  | some o => (Sp.mk (out ++ o), true)
  | none => noB
theorem finP_cons (s out : List UInt8) (c : UInt8) (o : Option (List UInt8)) : finP s out (o.map (c :: ·)) = finP s (out ++ [c]) o := by cases o <;> simp [finP]
theorem finR_cons (out : List UInt8) (c : UInt8) (o : Option (List UInt8)) : finR out (o.map (c :: ·)) = finR (out ++ [c]) o := by cases o <;> simp [finR]
theorem dec_short {l : List UInt8} (h : l.length ≤ 1) : dec (37 :: l) = none := by
  match l, h with
  | [], _ => simp [dec]
  | [x], _ => simp [dec]
theorem bare_short {l : List UInt8} (h : l.length ≤ 1) : bare (37 :: l) = none := by
  match l, h with
  | [], _ => simp [bare, plainC]
  | [x], _ => simp [bare, plainC]
theorem dec_two (x y : UInt8) (t : List UInt8) : dec (37 :: x :: y :: t) = if hv x < 16 ∧ hv y < 16 then (dec t).map (by2 x y :: ·) else none := by simp [dec]
theorem bare_two (x y : UInt8) (t : List UInt8) : bare (37 :: x :: y :: t) = if hv x < 16 ∧ hv y < 16 ∧ plainC (by2 x y) = false then (bare t).map (by2 x y :: ·) else none := by simp [bare, plainC]

theorem bare_l0 (s : ByteArray) (hs : s.size < 4294967281) : ∀ (n d i : Nat) (out : List UInt8), d ≤ n → i + d = s.size → out.length ≤ i →
    Ev (fun k => task_Bare.l0 k s (ni out) (i : Int)) (finP s.data.toList out (dec (s.data.toList.drop i))) := by
  intro n
  induction n with
  | zero =>
    intro d i out hd hi ho
    refine Ev.step (fun k => by rw [task_Bare.l0]) (ev_neg (by omega) ?_)
    rw [List.drop_eq_nil_of_le (by rw [← Sp.size_eq]; omega), strOfNums_ni]
    have hm := shield (Sp.mk out) (by rw [Sp.mk_size]; omega)
    rw [Sp.mk_data] at hm
    refine ev_bind hm ?_
    rw [toL, toL, Sp.mk_data]
    show Ev _ (if sh (out ++ []) = s.data.toList then (Sp.mk (out ++ []), true) else noB)
    rw [List.append_nil]
    by_cases h : sh out = s.data.toList
    · exact ev_to (ev_pos h (Ev.now _)) (if_pos h).symm
    · exact ev_to (ev_neg h (Ev.now _)) (if_neg h).symm
  | succ n ih =>
    intro d i out hd hi ho
    rcases Nat.eq_zero_or_pos d with h0 | h0
    · exact ih d i out (by omega) hi ho
    obtain ⟨c, hc, hdr⟩ := get_at s (i := i) (by omega)
    refine Ev.step (fun k => by rw [task_Bare.l0]) (ev_pos (by omega) (ev_pos (by omega) ?_))
    rw [bt_nat hc, hdr]
    by_cases h37 : c = 37
    · subst h37
      refine ev_pos rfl ?_
      rw [wr (x := (i : Int) + 2) (by omega) (by omega), wr (x := (i : Int) + 1) (by omega) (by omega)]
      by_cases h2 : i + 2 < s.size
      · obtain ⟨x, hx, hdx⟩ := get_at s (i := i + 1) (by omega)
        obtain ⟨y, hy, hdy⟩ := get_at s (i := i + 2) (by omega)
        rw [hdx, hdy, dec_two]
        refine ev_neg (by omega) (ev_pos (by omega) (ev_pos (by omega) ?_))
        rw [show (i : Int) + 1 = ((i + 1 : Nat) : Int) by omega, show (i : Int) + 2 = ((i + 2 : Nat) : Int) by omega, bt_nat hx, bt_nat hy, digit_f, digit_f]
        refine ev_some (ev_pos (by omega) (ev_pos (by omega) (ev_some ?_)))
        by_cases hxx : hv x < 16
        · rw [hvI_yes hxx]
          refine ev_neg (by omega) ?_
          by_cases hyy : hv y < 16
          · rw [hvI_yes hyy, if_pos ⟨hxx, hyy⟩, finP_cons]
            refine ev_neg (by omega) (ev_pos (by rw [ni_len]; omega) ?_)
            have e := or16 ⟨hv x, hxx⟩ ⟨hv y, hyy⟩
            simp only [] at e
            rw [e, ← by2_toNat hxx hyy, ni_snoc, w1 (by omega)]
            exact ih (d - 3) (i + 3) _ (by omega) (by omega) (by simp; omega)
          · rw [hvI_no hyy, if_neg (fun h => hyy h.2)]
            exact ev_pos (by omega) (Ev.now _)
        · rw [hvI_no hxx, if_neg (fun h => hxx h.1)]
          exact ev_pos (by omega) (Ev.now _)
      · rw [dec_short (by rw [List.length_drop, ← Sp.size_eq]; omega)]
        exact ev_pos (by omega) (Ev.now _)
    · refine ev_neg (fun e => h37 ((u8_lit 37 (by omega)).1 e)) (ev_pos (by rw [ni_len]; omega) ?_)
      rw [dec_no h37, finP_cons, ni_snoc, w1 (by omega)]
      exact ih (d - 1) (i + 1) _ (by omega) (by omega) (by simp; omega)
theorem bare_ev (s : ByteArray) (hs : s.size < 4294967281) : Ev (fun k => task_Bare.f k s) (bareR s.data.toList) := by
  have h := bare_l0 s hs s.size s.size 0 [] (Nat.le_refl _) (by omega) (by simp)
  rw [List.drop_zero] at h
  rw [← dec_bare]
  have e : finP s.data.toList [] (dec s.data.toList) = (match dec s.data.toList with | some o => if sh o = s.data.toList then (Sp.mk o, true) else ((⟨#[]⟩ : ByteArray), false) | none => ((⟨#[]⟩ : ByteArray), false)) := by
    cases dec s.data.toList <;> rfl
  rw [e] at h
  exact h

theorem r_digit (c : UInt8) : Ev (fun k => linhayref19_digit.f k (c.toNat : Int)) (hvI c) := by
  have hc : c.toNat < 256 := c.toNat_lt
  have e0 : wrap64 (c.toNat : Int) = (c.toNat : Int) := wr (by omega) (by omega)
  unfold linhayref19_digit.f
  have no : ¬ (48 ≤ c.toNat ∧ c.toNat ≤ 57) → Ev (fun k => linhayref19_digit.j0 k (c.toNat : Int) false) (hvI c) := fun h => by
    refine Ev.step (fun k => by rw [linhayref19_digit.j0]) (ev_neg (by simp) ?_)
    by_cases h1 : 65 ≤ c.toNat
    · refine ev_pos (by omega) ?_
      by_cases h2 : c.toNat ≤ 70
      · rw [hvI_b h1 h2, e0, wr (by omega) (by omega)]
        exact ev_pos (by omega) (Ev.now _)
      · rw [hvI_c h (fun x => h2 x.2)]
        exact ev_neg (by omega) (Ev.now _)
    · rw [hvI_c h (fun x => h1 x.1)]
      exact ev_neg (by omega) (Ev.now _)
  by_cases h1 : 48 ≤ c.toNat
  · refine ev_pos (by omega) ?_
    by_cases h2 : c.toNat ≤ 57
    · have e : decide ((c.toNat : Int) ≤ 57) = true := decide_eq_true (by omega)
      rw [e]
      refine Ev.step (fun k => by rw [linhayref19_digit.j0]) (ev_pos rfl ?_)
      rw [hvI_a h1 h2, e0, wr (by omega) (by omega)]
      exact Ev.now _
    · have e : decide ((c.toNat : Int) ≤ 57) = false := decide_eq_false (by omega)
      rw [e]
      exact no (fun x => h2 x.2)
  · exact ev_neg (by omega) (no (fun x => h1 x.1))
theorem hvI_lt (c : UInt8) : hvI c < 0 ↔ ¬ hv c < 16 := by
  unfold hvI
  split
  · omega
  · omega

theorem r_bare_l0 (s : ByteArray) (hs : s.size < 4294967281) : ∀ (n d i : Nat) (out : List UInt8), d ≤ n → i + d = s.size → out.length ≤ i →
    Ev (fun k => linhayref19_Bare.l0 k s (ni out) (i : Int)) (finR out (bare (s.data.toList.drop i))) := by
  intro n
  induction n with
  | zero =>
    intro d i out hd hi ho
    refine Ev.step (fun k => by rw [linhayref19_Bare.l0]) (ev_neg (by omega) ?_)
    rw [List.drop_eq_nil_of_le (by rw [← Sp.size_eq]; omega), strOfNums_ni]
    show Ev _ (Sp.mk (out ++ []), true)
    rw [List.append_nil]
    exact Ev.now _
  | succ n ih =>
    intro d i out hd hi ho
    rcases Nat.eq_zero_or_pos d with h0 | h0
    · exact ih d i out (by omega) hi ho
    obtain ⟨c, hc, hdr⟩ := get_at s (i := i) (by omega)
    have hc256 : c.toNat < 256 := c.toNat_lt
    refine Ev.step (fun k => by rw [linhayref19_Bare.l0]) (ev_pos (by omega) (ev_pos (by omega) ?_))
    rw [bt_nat hc, hdr, wr (x := (c.toNat : Int)) (by omega) (by omega)]
    have bad : plainC c = false → c ≠ 37 → Ev (fun k => linhayref19_Bare.j1 k s (ni out) (i : Int) (c.toNat : Int) true) (finR out (bare (c :: s.data.toList.drop (i + 1)))) := fun hp h37 => by
      refine Ev.step (fun k => by rw [linhayref19_Bare.j1]) (ev_pos rfl ?_)
      have e : bare (c :: s.data.toList.drop (i + 1)) = none := by
        match s.data.toList.drop (i + 1) with
        | [] => simp [bare, hp]
        | [x] => simp [bare, hp]
        | x :: y :: t => simp [bare, hp, h37]
      rw [e]
      exact Ev.now _
    by_cases h1 : 32 < c.toNat
    · refine ev_neg (by omega) ?_
      by_cases h2 : c.toNat < 127
      · have e : decide ((c.toNat : Int) > 126) = false := decide_eq_false (by omega)
        rw [e]
        refine Ev.step (fun k => by rw [linhayref19_Bare.j1]) (ev_neg (by simp) ?_)
        by_cases h37 : c = 37
        · subst h37
          refine ev_pos rfl ?_
          rw [wr (x := (i : Int) + 2) (by omega) (by omega), wr (x := (i : Int) + 1) (by omega) (by omega)]
          by_cases hh2 : i + 2 < s.size
          · obtain ⟨x, hx, hdx⟩ := get_at s (i := i + 1) (by omega)
            obtain ⟨y, hy, hdy⟩ := get_at s (i := i + 2) (by omega)
            rw [hdx, hdy, bare_two]
            refine ev_neg (by omega) (ev_pos (by omega) (ev_pos (by omega) ?_))
            rw [show (i : Int) + 1 = ((i + 1 : Nat) : Int) by omega, show (i : Int) + 2 = ((i + 2 : Nat) : Int) by omega, bt_nat hx, bt_nat hy]
            refine ev_bind (r_digit x) ?_
            have stop : ¬ (hv x < 16 ∧ hv y < 16) → Ev (fun k => linhayref19_Bare.j2 k s (ni out) (i : Int) true) (finR out (if hv x < 16 ∧ hv y < 16 ∧ plainC (by2 x y) = false then (bare (s.data.toList.drop (i + 2 + 1))).map (by2 x y :: ·) else none)) := fun h => by
              rw [if_neg (fun z => h ⟨z.1, z.2.1⟩)]
              refine Ev.step (fun k => by rw [linhayref19_Bare.j2]) ?_
              exact ev_pos rfl (Ev.now _)
            by_cases hxx : hv x < 16
            · refine ev_neg (by rw [hvI_lt]; omega) (ev_pos (by omega) (ev_pos (by omega) (ev_bind (r_digit y) ?_)))
              by_cases hyy : hv y < 16
              · have e : decide (hvI y < 0) = false := decide_eq_false (by rw [hvI_lt]; omega)
                rw [e]
                refine Ev.step (fun k => by rw [linhayref19_Bare.j2]) (ev_neg (by simp) ?_)
                rw [wr (x := (i : Int) + 2) (by omega) (by omega), wr (x := (i : Int) + 1) (by omega) (by omega)]
                refine ev_pos (by omega) (ev_pos (by omega) ?_)
                rw [show (i : Int) + 1 = ((i + 1 : Nat) : Int) by omega, show (i : Int) + 2 = ((i + 2 : Nat) : Int) by omega, bt_nat hx, bt_nat hy]
                refine ev_bind (r_digit x) (ev_pos (by omega) (ev_pos (by omega) (ev_bind (r_digit y) ?_)))
                rw [hvI_yes hxx, hvI_yes hyy, wr (x := 16 * (hv x : Int)) (by omega) (by omega), wr (x := 16 * (hv x : Int) + (hv y : Int)) (by omega) (by omega)]
                have eb := by2_toNat hxx hyy
                have go : plainC (by2 x y) = false → Ev (fun k => if (ni out).length < 140737488355328 then (linhayref19_Bare.l0 k s (ni out ++ [(16 * (hv x : Int) + (hv y : Int)) % 256]) (wrap64 (((i + 2 : Nat) : Int) + 1))) else (none)) (finR out (if hv x < 16 ∧ hv y < 16 ∧ plainC (by2 x y) = false then (bare (s.data.toList.drop (i + 2 + 1))).map (by2 x y :: ·) else none)) := fun hp => by
                  rw [if_pos ⟨hxx, hyy, hp⟩, finR_cons]
                  refine ev_pos (by rw [ni_len]; omega) ?_
                  rw [show (16 * (hv x : Int) + (hv y : Int)) % 256 = ((by2 x y).toNat : Int) by rw [eb]; omega, ni_snoc, w1 (by omega)]
                  exact ih (d - 3) (i + 3) _ (by omega) (by omega) (by simp; omega)
                have dead : plainC (by2 x y) = true → finR out (if hv x < 16 ∧ hv y < 16 ∧ plainC (by2 x y) = false then (bare (s.data.toList.drop (i + 2 + 1))).map (by2 x y :: ·) else none) = noB := fun hp => by
                  rw [if_neg (fun z => by rw [hp] at z; exact absurd z.2.2 (by simp))]; rfl
                by_cases g1 : 33 ≤ 16 * hv x + hv y
                · refine ev_pos (by omega) ?_
                  by_cases g2 : 16 * hv x + hv y ≤ 126
                  · refine ev_pos (by omega) ?_
                    by_cases g3 : 16 * hv x + hv y = 37
                    · exact ev_pos (by omega) (go (by simp [plainC, eb, g3]))
                    · refine ev_neg (by omega) ?_
                      rw [dead (by simp [plainC, eb, g3]; omega)]
                      exact Ev.now _
                  · exact ev_neg (by omega) (go (by simp [plainC, eb]; omega))
                · exact ev_neg (by omega) (go (by simp [plainC, eb]; omega))
              · have e : decide (hvI y < 0) = true := decide_eq_true (by rw [hvI_lt]; omega)
                rw [e]
                exact stop (fun h => hyy h.2)
            · exact ev_pos (by rw [hvI_lt]; omega) (stop (fun h => hxx h.1))
          · rw [bare_short (by rw [List.length_drop, ← Sp.size_eq]; omega)]
            refine ev_pos (by omega) ?_
            refine Ev.step (fun k => by rw [linhayref19_Bare.j2]) ?_
            exact ev_pos rfl (Ev.now _)
        · have h37' : ¬ c.toNat = 37 := fun e => h37 (UInt8.toNat_inj.1 (by rw [e]; rfl))
          refine ev_neg (by omega) (ev_pos (by rw [ni_len]; omega) ?_)
          rw [bare_no (by simp [plainC, h1, h2, h37']), finR_cons, show ((c.toNat : Int)) % 256 = (c.toNat : Int) by omega, ni_snoc, w1 (by omega)]
          exact ih (d - 1) (i + 1) _ (by omega) (by omega) (by simp; omega)
      · have e : decide ((c.toNat : Int) > 126) = true := decide_eq_true (by omega)
        rw [e]
        exact bad (by simp [plainC, h2]) (by rintro rfl; exact h2 (by decide))
    · exact ev_pos (by omega) (bad (by simp [plainC, h1]) (by rintro rfl; exact h1 (by decide)))
theorem r_bare (s : ByteArray) (hs : s.size < 4294967281) : Ev (fun k => linhayref19_Bare.f k s) (bareR s.data.toList) := by
  have h := r_bare_l0 s hs s.size s.size 0 [] (Nat.le_refl _) (by omega) (by simp)
  rw [List.drop_zero] at h
  have e : finR [] (bare s.data.toList) = bareR s.data.toList := by unfold bareR; cases bare s.data.toList <;> rfl
  rw [e] at h
  exact h
end Go.Proofs.YtocpdhbkfgolfaaDoor.Pu
