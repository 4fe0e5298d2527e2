/- Words and lines, as plain functions: the program's, the reference's quotes, there and back. -/
import Derived.Test.YtocpdhbkfgolfaaDoorPure0
import Derived.Test.YtocpdhbkfgolfaaDoorExtWords
import Derived.Test.YtocpdhbkfgolfaaDoorX6
import Derived.Test.YtocpdhbkfgolfaaDoorX9
import Derived.Test.YtocpdhbkfgolfaaDoorX9
namespace Go.Proofs.YtocpdhbkfgolfaaDoor.Pu
open Go Go.RowKit Go.Proofs Go.Proofs.YtocpdhbkfgolfaaDoor Go.Proofs.YtocpdhbkfgolfaaDoorW.PrintWords Go.Proofs.YtocpdhbkfgolfaaDoor.Ext Go.Proofs.YtocpdhbkfgolfaaDoor.X
set_option linter.unusedVariables false
set_option linter.unusedSimpArgs false

def ni (l : List UInt8) : List Int := l.map fun c => (c.toNat : Int)
theorem ni_len (l : List UInt8) : (ni l).length = l.length := by simp [ni]
theorem ni_snoc (l : List UInt8) (c : UInt8) : ni l ++ [(c.toNat : Int)] = ni (l ++ [c]) := by simp [ni]
theorem strOfNums_ni (l : List UInt8) : strOfNums (ni l) = Sp.mk l := by
  simp [strOfNums, ni, Sp.mk, List.map_map, Function.comp_def]
def res (r : Int × Wd.S3) : List ByteArray × Int := if r.1 = 0 then (if r.2.2.2 = 2 ∨ r.2.2.2 = 3 then ([], 3) else ((Wd.fin r.2).1, 0)) else ([], r.1)
theorem split_res (s : List UInt8) : Wd.split s = res (Wd.scan ([], [], 0) s) := rfl

theorem scan_bad (x : Wd.S3) (c : UInt8) (t : List UInt8) (h : c.toNat = 10 ∨ c.toNat = 0) : res (Wd.scan x (c :: t)) = ([], 3) := by rw [Wd.scan, if_pos h]; rfl
theorem scan_big (x y : Wd.S3) (c : UInt8) (t : List UInt8) (h : ¬ (c.toNat = 10 ∨ c.toNat = 0)) (ht : Wd.take x c.toNat = y) (hy : 4096 < y.2.1.length) : res (Wd.scan x (c :: t)) = ([], 21) := by rw [Wd.scan, if_neg h, ht, if_pos hy]; rfl
theorem scan_next (x y : Wd.S3) (c : UInt8) (t : List UInt8) (h : ¬ (c.toNat = 10 ∨ c.toNat = 0)) (ht : Wd.take x c.toNat = y) (hy : ¬ 4096 < y.2.1.length) : Wd.scan x (c :: t) = Wd.scan y t := by rw [Wd.scan, if_neg h, ht, if_neg hy]

theorem scan_len : ∀ (l : List UInt8) (x : Wd.S3), (Wd.scan x l).2.1.length ≤ x.1.length + l.length
  | [], x => by simp [Wd.scan]
  | c :: t, x => by
    have h1 := Wd.take_len x c.toNat
    have h2 := scan_len t (Wd.take x c.toNat)
    rw [Wd.scan]
    split
    · simp
    · split
      · simp
      · rw [List.length_cons]; omega
theorem split_len (l : List UInt8) : (Wd.split l).1.length ≤ l.length + 1 := by
  have h1 := scan_len l ([], [], 0)
  have h2 := Wd.fin_len (Wd.scan ([], [], 0) l).2
  unfold Wd.split
  simp only
  split
  · split
    · simp
    · simp only [List.length_nil] at h1; simp only; omega
  · simp

def odd (l : List UInt8) : Bool := l.isEmpty || Lib.containsAny l [32, 9, 39, 92]
def quote (l : List UInt8) : List UInt8 := if odd l = true then 39 :: (Rp.rep 39 [39, 92, 39, 39] l ++ [39]) else l
theorem quote_len (l : List UInt8) : (quote l).length ≤ 5 * l.length + 2 := by
  unfold quote
  split
  · have := Rp.rep_len 39 [39, 92, 39, 39] l
    have h2 := List.count_le_length (a := 39) (l := l)
    simp only [List.length_cons, List.length_append, List.length_nil] at *
    omega
  · omega
theorem replace_f (s : ByteArray) (hs : s.size < 4294967281) : strings_ReplaceAll.f s (⟨#[39]⟩ : ByteArray) (⟨#[39, 92, 39, 39]⟩ : ByteArray) = some (Sp.mk (Rp.rep 39 [39, 92, 39, 39] s.data.toList)) := by
  unfold strings_ReplaceAll.f
  simp only
  rw [if_pos ⟨hs, by decide, by decide⟩]
theorem any_f (s : ByteArray) (hs : s.size < 4294967281) : strings_ContainsAny.f s (⟨#[32, 9, 39, 92]⟩ : ByteArray) = some (Lib.containsAny s.data.toList [32, 9, 39, 92]) := by
  unfold strings_ContainsAny.f
  rw [if_pos ⟨hs, by decide, by decide, by decide⟩]
theorem quote_f (s : ByteArray) (hs : s.size < 4294967281) : words_Quote.f s = some (Sp.mk (quote s.data.toList)) := by
  have hrl := Rp.rep_len 39 [39, 92, 39, 39] s.data.toList
  have h2 := List.count_le_length (a := 39) (l := s.data.toList)
  rw [← Sp.size_eq] at hrl h2
  simp only [List.length_cons, List.length_nil] at hrl
  have e1 : ((⟨#[39]⟩ : ByteArray) ++ Sp.mk (Rp.rep 39 [39, 92, 39, 39] s.data.toList)) ++ (⟨#[39]⟩ : ByteArray) = Sp.mk (39 :: (Rp.rep 39 [39, 92, 39, 39] s.data.toList ++ [39])) := by
    rw [show (⟨#[39]⟩ : ByteArray) = Sp.mk [39] from rfl, app_mk, app_mk]; rfl
  have e2 : ((⟨#[39]⟩ : ByteArray) ++ Sp.mk (Rp.rep 39 [39, 92, 39, 39] s.data.toList)).size = 1 + (Rp.rep 39 [39, 92, 39, 39] s.data.toList).length := by
    rw [ByteArray.size_append, Sp.mk_size]; rfl
  unfold words_Quote.f quote odd
  rw [replace_f s hs, any_f s hs, toL]
  simp only [Option.bind_some]
  rw [e1, e2, Sp.mk_size]
  have f1 : 1 + (Rp.rep 39 [39, 92, 39, 39] s.data.toList).length ≤ 9223372036854775807 := by omega
  have f2 : 1 + (Rp.rep 39 [39, 92, 39, 39] s.data.toList).length + 1 ≤ 9223372036854775807 := by omega
  simp only [if_pos f1, if_pos f2]
  by_cases h0 : s.data.toList = []
  · rw [if_pos h0, if_pos (by simp [h0])]
  · rw [if_neg h0]
    have : s.data.toList.isEmpty = false := by simpa using h0
    rw [this, Bool.false_or]
    split
    · rfl
    · rw [Sp.mk_of]

abbrev rq (l : List UInt8) : List UInt8 := Rp.rep 39 [39, 92, 39, 39] l
def isOdd (c : UInt8) : Bool := c = 32 || c = 9 || c = 39 || c = 92
theorem any_odd (l : List UInt8) : Lib.containsAny l [32, 9, 39, 92] = l.any isOdd := by
  rw [Bool.eq_iff_iff, Sp.containsAny_iff, List.any_eq_true]
  constructor
  · rintro ⟨b, h1, h2⟩; exact ⟨b, h1, by simpa [isOdd, or_assoc] using h2⟩
  · rintro ⟨b, h1, h2⟩; exact ⟨b, h1, by simpa [isOdd, or_assoc] using h2⟩
theorem u8_lit {c : UInt8} (n : Nat) (h : n < 256) : (c.toNat : Int) = (n : Int) ↔ c = n.toUInt8 := by
  constructor
  · intro e
    have : c.toNat = n := by omega
    apply UInt8.toNat_inj.1
    rw [this]; simp; omega
  · rintro rfl; simp; omega

theorem r02_quote_l0 (s : ByteArray) (hs : s.size < 4294967296) : ∀ (d i : Nat), i + d = s.size → ∀ (o : Bool) (q : List UInt8), q.length ≤ 1 + 5 * i →
    Ev (fun k => linhayref02_Quote.l0 k s o (Sp.mk q) (i : Int)) (if (o || (s.data.toList.drop i).any isOdd) = true then Sp.mk (q ++ (rq (s.data.toList.drop i) ++ [39])) else s) := by
  intro d
  induction d with
  | zero =>
    intro i hi o q hq
    have e : s.data.toList.drop i = [] := by rw [show i = s.size by omega, Sp.size_eq]; simp
    rw [e]
    refine Ev.step (fun k => by rw [linhayref02_Quote.l0]) ?_
    refine ev_neg (by omega) ?_
    cases o
    · exact ev_neg (by simp) (Ev.now _)
    · refine ev_pos rfl (ev_pos (by rw [Sp.mk_size]; omega) ?_)
      have : Sp.mk q ++ (⟨#[39]⟩ : ByteArray) = Sp.mk (q ++ (rq [] ++ [39])) := by
        rw [show (⟨#[39]⟩ : ByteArray) = Sp.mk [39] from rfl, app_mk]; rfl
      rw [this]
      exact Ev.now _
  | succ d ih =>
    intro i hi o q hq
    obtain ⟨c, hc, hdr⟩ := get_at s (i := i) (by omega)
    rw [hdr]
    refine Ev.step (fun k => by rw [linhayref02_Quote.l0]) ?_
    refine ev_pos (by omega) (ev_pos (by omega) ?_)
    rw [bt_nat hc, w1 (by omega)]
    simp only [Int.toNat_natCast]
    rw [ex1 hc]
    have hAs : ((⟨#[39]⟩ : ByteArray) ++ strOfNums [92]) ++ (⟨#[39, 39]⟩ : ByteArray) = Sp.mk [39, 92, 39, 39] := by rfl
    have hA1 : (strOfNums [92]).size = 1 := by rfl
    have hA2 : ((⟨#[39]⟩ : ByteArray) ++ strOfNums [92]).size = 2 := by rfl
    have evA : c = 39 → Ev (fun k => (some (([92] : List Int) : List Int)).bind fun y132 => (if 1 + (strOfNums y132).size ≤ 9223372036854775807 then (if ((⟨#[39]⟩ : ByteArray) ++ (strOfNums y132)).size + 2 ≤ 9223372036854775807 then (if (Sp.mk q).size + (((⟨#[39]⟩ : ByteArray) ++ (strOfNums y132)) ++ (⟨#[39, 39]⟩ : ByteArray)).size ≤ 9223372036854775807 then (linhayref02_Quote.l0 k s true (Sp.mk q ++ (((⟨#[39]⟩ : ByteArray) ++ (strOfNums y132)) ++ (⟨#[39, 39]⟩ : ByteArray))) ((i + 1 : Nat) : Int)) else (none)) else (none)) else (none)))
        (if (o || (c :: s.data.toList.drop (i + 1)).any isOdd) = true then Sp.mk (q ++ (rq (c :: s.data.toList.drop (i + 1)) ++ [39])) else s) := fun h => by
      subst h
      refine ev_some ?_
      rw [hA1, hA2, hAs, app_mk, Sp.mk_size, Sp.mk_size]
      refine ev_pos (by omega) (ev_pos (by omega) (ev_pos (by simp; omega) ?_))
      have := ih (i + 1) (by omega) true (q ++ [39, 92, 39, 39]) (by simp; omega)
      rw [if_pos (by simp [isOdd])]
      simpa [Rp.rep] using this
    have evB : ∀ o' : Bool, c ≠ 39 → (o' = (o || isOdd c)) → Ev (fun k => if (i : Int) ≤ ((i + 1 : Nat) : Int) then (if ((i + 1 : Nat) : Int) ≤ (s.size : Int) then (if (Sp.mk q).size + (Sp.mk [c]).size ≤ 9223372036854775807 then (linhayref02_Quote.l0 k s o' (Sp.mk q ++ Sp.mk [c]) ((i + 1 : Nat) : Int)) else (none)) else (none)) else (none))
        (if (o || (c :: s.data.toList.drop (i + 1)).any isOdd) = true then Sp.mk (q ++ (rq (c :: s.data.toList.drop (i + 1)) ++ [39])) else s) := fun o' h ho => by
      subst ho
      rw [app_mk, Sp.mk_size, Sp.mk_size]
      refine ev_pos (by omega) (ev_pos (by omega) (ev_pos (by simp; omega) ?_))
      have := ih (i + 1) (by omega) (o || isOdd c) (q ++ [c]) (by simp; omega)
      rw [List.any_cons, ← Bool.or_assoc]
      simpa [Rp.rep, h] using this
    have l39 : (c.toNat : Int) = 39 ↔ c = 39 := u8_lit 39 (by omega)
    have l32 : (c.toNat : Int) = 32 ↔ c = 32 := u8_lit 32 (by omega)
    have l9 : (c.toNat : Int) = 9 ↔ c = 9 := u8_lit 9 (by omega)
    have l92 : (c.toNat : Int) = 92 ↔ c = 92 := u8_lit 92 (by omega)
    cases o with
    | true =>
      refine ev_pos rfl ?_
      by_cases h : c = 39
      · exact ev_pos (l39.2 h) (evA h)
      · exact ev_neg (fun e => h (l39.1 e)) (evB true h rfl)
    | false =>
      refine ev_neg (by simp) ?_
      by_cases h2 : c = 32
      · refine ev_pos (l32.2 h2) (ev_neg (fun e => by have := l39.1 e; rw [h2] at this; simp at this) (evB true (by rw [h2]; decide) (by rw [h2]; rfl)))
      refine ev_neg (fun e => h2 (l32.1 e)) ?_
      by_cases h9 : c = 9
      · refine ev_pos (l9.2 h9) (ev_neg (fun e => by have := l39.1 e; rw [h9] at this; simp at this) (evB true (by rw [h9]; decide) (by rw [h9]; rfl)))
      refine ev_neg (fun e => h9 (l9.1 e)) ?_
      by_cases h : c = 39
      · exact ev_pos (l39.2 h) (evA h)
      · refine ev_neg (fun e => h (l39.1 e)) ?_
        refine evB _ h ?_
        rw [Bool.eq_iff_iff]
        simp [isOdd, h2, h9, h, l92]

theorem r02_quote (s : ByteArray) (hs : s.size < 4294967281) : Ev (fun k => linhayref02_Quote.f k s) (Sp.mk (quote s.data.toList)) := by
  have h := r02_quote_l0 s (by omega) s.size 0 (by omega) (s.toList == ([] : List UInt8)) [39] (by simp)
  rw [List.drop_zero] at h
  unfold quote odd
  rw [any_odd]
  rw [toL] at h
  have e : (s.data.toList == ([] : List UInt8)) = s.data.toList.isEmpty := by cases s.data.toList <;> rfl
  rw [e] at h
  unfold linhayref02_Quote.f
  rw [toL, e]
  split at h
  · rename_i h1
    rw [if_pos h1]
    exact h
  · rename_i h1
    rw [if_neg h1, Sp.mk_of]
    exact h

/-! ### there and back -/
def bad (c : UInt8) : Bool := c = 10 || c = 0
theorem not_bad {c : UInt8} (h : bad c = false) : ¬ (c.toNat = 10 ∨ c.toNat = 0) := by
  simp [bad] at h
  rintro (e | e)
  · exact h.1 (UInt8.toNat_inj.1 (by simpa using e))
  · exact h.2 (UInt8.toNat_inj.1 (by simpa using e))
theorem not_odd {c : UInt8} (h : isOdd c = false) : c.toNat ≠ 32 ∧ c.toNat ≠ 9 ∧ c.toNat ≠ 39 ∧ c.toNat ≠ 92 := by
  simp [isOdd] at h
  refine ⟨fun e => h.1.1.1 ?_, fun e => h.1.1.2 ?_, fun e => h.1.2 ?_, fun e => h.2 ?_⟩ <;> exact UInt8.toNat_inj.1 (by simpa using e)

theorem scan_plain (out : List ByteArray) (rest : List UInt8) : ∀ (w : List UInt8) (now : List UInt8) (st : Int), w ≠ [] → (st = 0 ∨ st = 1) → w.any bad = false → w.any isOdd = false → now.length + w.length ≤ 4096 →
    Wd.scan (out, ni now, st) (w ++ rest) = Wd.scan (out, ni (now ++ w), 1) rest
  | [], _, _, h, _, _, _, _ => absurd rfl h
  | c :: t, now, st, _, hst, hb, ho, hl => by
    simp only [List.any_cons, Bool.or_eq_false_iff] at hb ho
    have h1 := not_odd ho.1
    have ht : Wd.take (out, ni now, st) c.toNat = (out, ni (now ++ [c]), 1) := by
      rw [← ni_snoc, Wd.take, if_neg (by show ¬ (st = 2 ∧ _); omega), if_neg (by show ¬ st = 2; omega), if_neg (by show ¬ st = 3; omega), Wd.plain, if_neg (by omega), if_neg (by omega), if_neg (by omega)]
    simp only [List.length_cons] at hl
    rw [List.cons_append, scan_next _ _ _ _ (not_bad hb.1) ht (by simp [ni_len]; omega)]
    cases t with
    | nil => rfl
    | cons d t2 =>
      have := scan_plain out rest (d :: t2) (now ++ [c]) 1 (by simp) (.inr rfl) hb.2 ho.2 (by simp only [List.length_append, List.length_cons, List.length_nil] at *; omega)
      rw [this]
      simp

theorem scan_quoted (out : List ByteArray) (rest : List UInt8) : ∀ (w : List UInt8) (now : List UInt8), w.any bad = false → now.length + w.length ≤ 4096 →
    Wd.scan (out, ni now, 2) (rq w ++ rest) = Wd.scan (out, ni (now ++ w), 2) rest
  | [], now, _, _ => by simp [Rp.rep]
  | c :: t, now, hb, hl => by
    simp only [List.any_cons, Bool.or_eq_false_iff] at hb
    simp only [List.length_cons] at hl
    have ih := scan_quoted out rest t (now ++ [c]) hb.2 (by simp only [List.length_append, List.length_cons, List.length_nil]; omega)
    rw [List.append_assoc] at ih
    by_cases h : c = 39
    · subst h
      have e : rq (39 :: t) ++ rest = 39 :: 92 :: 39 :: 39 :: (rq t ++ rest) := by simp [Rp.rep]
      have n39 : ¬ ((39 : UInt8).toNat = 10 ∨ (39 : UInt8).toNat = 0) := by decide
      have n92 : ¬ ((92 : UInt8).toNat = 10 ∨ (92 : UInt8).toNat = 0) := by decide
      rw [e, scan_next _ (out, ni now, 1) _ _ n39 rfl (by simp [ni_len]; omega), scan_next _ (out, ni now, 3) _ _ n92 rfl (by simp [ni_len]; omega),
        scan_next _ (out, ni (now ++ [39]), 1) _ _ n39 (by rw [← ni_snoc]; rfl) (by simp [ni_len]; omega), scan_next _ (out, ni (now ++ [39]), 2) _ _ n39 rfl (by simp [ni_len]; omega), ih]
      rfl
    · have e : rq (c :: t) ++ rest = c :: (rq t ++ rest) := by simp [Rp.rep, h]
      have hc : ¬ ((c.toNat : Int) = 39) := fun e => h ((u8_lit 39 (by omega)).1 e)
      have ht : Wd.take (out, ni now, 2) c.toNat = (out, ni (now ++ [c]), 2) := by
        rw [← ni_snoc, Wd.take, if_neg (by omega), if_pos rfl]
      rw [e, scan_next _ _ _ _ (not_bad hb.1) ht (by simp [ni_len]; omega), ih]
      rfl

theorem scan_quote (out : List ByteArray) (w rest : List UInt8) (hb : w.any bad = false) (hl : w.length ≤ 4096) : Wd.scan (out, [], 0) (quote w ++ rest) = Wd.scan (out, ni w, 1) rest := by
  unfold quote odd
  rw [any_odd]
  by_cases h0 : w = []
  · subst h0
    rw [if_pos (by rfl)]
    rfl
  have he : w.isEmpty = false := by simpa using h0
  rw [he, Bool.false_or]
  cases ho : w.any isOdd with
  | false =>
    rw [if_neg (by simp)]
    exact scan_plain out rest w [] 0 h0 (.inl rfl) hb ho (by simpa using hl)
  | true =>
    rw [if_pos rfl]
    have n39 : ¬ ((39 : UInt8).toNat = 10 ∨ (39 : UInt8).toNat = 0) := by decide
    rw [List.cons_append, scan_next _ (out, ni [], 2) _ _ n39 rfl (by simp [ni]), List.append_assoc]
    rw [show Rp.rep 39 [39, 92, 39, 39] w ++ ([39] ++ rest) = rq w ++ (39 :: rest) from rfl, scan_quoted out _ w [] hb (by simpa using hl)]
    rw [List.nil_append, scan_next _ (out, ni w, 1) _ _ n39 rfl (by simp [ni_len]; omega)]

def joinq (l : List ByteArray) : List UInt8 := Lib.join (l.map fun s => quote s.data.toList) [32]
theorem joinq_one (s : ByteArray) : joinq [s] = quote s.data.toList := by simp [joinq, Lib.join_one]
theorem joinq_cons (s t : ByteArray) (r : List ByteArray) : joinq (s :: t :: r) = quote s.data.toList ++ 32 :: joinq (t :: r) := by
  simp [joinq, Lib.join, List.intercalate]
theorem scan_join : ∀ (l out : List ByteArray), l ≠ [] → (∀ s ∈ l, s.data.toList.any bad = false ∧ s.size ≤ 4096) → res (Wd.scan (out, [], 0) (joinq l)) = (out ++ l, 0)
  | [], _, h, _ => absurd rfl h
  | [s], out, _, h => by
    have h1 := h s (by simp)
    rw [joinq_one, ← List.append_nil (quote _), scan_quote out _ [] h1.1 (by rw [← Sp.size_eq]; exact h1.2), Wd.scan]
    show (out ++ [strOfNums (ni s.data.toList)], (0 : Int)) = _
    rw [strOfNums_ni, Sp.mk_of]
  | s :: t :: r, out, _, h => by
    have h1 := h s (by simp)
    have n32 : ¬ ((32 : UInt8).toNat = 10 ∨ (32 : UInt8).toNat = 0) := by decide
    rw [joinq_cons, scan_quote out _ _ h1.1 (by rw [← Sp.size_eq]; exact h1.2)]
    have ht : Wd.take (out, ni s.data.toList, 1) ((32 : UInt8).toNat : Int) = (out ++ [s], [], 0) := by
      have : Wd.take (out, ni s.data.toList, 1) ((32 : UInt8).toNat : Int) = (out ++ [strOfNums (ni s.data.toList)], [], 0) := rfl
      rw [this, strOfNums_ni, Sp.mk_of]
    rw [scan_next _ _ _ _ n32 ht (by simp), scan_join (t :: r) (out ++ [s]) (by simp) (fun x hx => h x (List.mem_cons_of_mem _ hx))]
    simp
theorem split_join (l : List ByteArray) (h : ∀ s ∈ l, s.data.toList.any bad = false ∧ s.size ≤ 4096) : Wd.split (joinq l) = (l, 0) := by
  rw [split_res]
  cases l with
  | nil => rfl
  | cons s r => simpa using scan_join (s :: r) [] (by simp) h
theorem joinq_len (l : List ByteArray) (h : ∀ s ∈ l, s.size ≤ 4096) : (joinq l).length ≤ l.length * 30000 := by
  induction l with
  | nil => simp [joinq, Lib.join, List.intercalate]
  | cons s r ih =>
    have h1 := quote_len s.data.toList
    rw [← Sp.size_eq] at h1
    have h2 := h s (by simp)
    cases r with
    | nil => rw [joinq_one]; simp; omega
    | cons t r =>
      have := ih (fun x hx => h x (List.mem_cons_of_mem _ hx))
      rw [joinq_cons]
      simp only [List.length_append, List.length_cons] at *
      omega
def jt (r : List ByteArray) : List UInt8 := r.flatMap fun s => 32 :: quote s.data.toList
theorem joinq_jt : ∀ (s : ByteArray) (r : List ByteArray), joinq (s :: r) = quote s.data.toList ++ jt r
  | s, [] => by rw [joinq_one]; simp [jt]
  | s, t :: r => by rw [joinq_cons, joinq_jt t r]; simp [jt]

theorem r02_join_l0 (l : List ByteArray) (hl : l.length ≤ 100) (h : ∀ s ∈ l, s.size ≤ 4096) : ∀ (d i : Nat), i + d = l.length → 0 < i → ∀ acc : List UInt8, acc.length ≤ i * 30000 →
    Ev (fun k => linhayref02_Join.l0 k l (Sp.mk acc) (i : Int)) (Sp.mk (acc ++ jt (l.drop i))) := by
  intro d
  induction d with
  | zero =>
    intro i hi h0 acc ha
    refine Ev.step (fun k => by rw [linhayref02_Join.l0]) ?_
    refine ev_neg (by omega) ?_
    have e : l.drop i = [] := List.drop_eq_nil_of_le (by omega)
    rw [e]
    simpa [jt] using Ev.now _
  | succ d ih =>
    intro i hi h0 acc ha
    have hlt : i < l.length := by omega
    have hs := h l[i] (List.getElem_mem hlt)
    have hq := quote_len l[i].data.toList
    rw [← Sp.size_eq] at hq
    refine Ev.step (fun k => by rw [linhayref02_Join.l0]) ?_
    rw [rd_nat (List.getElem?_eq_getElem hlt), List.drop_eq_getElem_cons hlt]
    refine ev_pos (by omega) (ev_pos (by omega) (ev_pos (by rw [Sp.mk_size]; omega) (ev_pos (by omega) ?_)))
    refine ev_bind (r02_quote _ (by omega)) ?_
    rw [show (⟨#[32]⟩ : ByteArray) = Sp.mk [32] from rfl, app_mk, app_mk, Sp.mk_size, Sp.mk_size, w1 (by omega)]
    refine ev_pos (by simp only [List.length_append, List.length_cons, List.length_nil]; omega) ?_
    have := ih (i + 1) (by omega) (by omega) (acc ++ [32] ++ quote l[i].data.toList) (by simp only [List.length_append, List.length_cons, List.length_nil]; omega)
    have e : acc ++ jt (l[i] :: l.drop (i + 1)) = acc ++ [32] ++ quote l[i].data.toList ++ jt (l.drop (i + 1)) := by simp only [jt, List.flatMap_cons]; simp only [List.append_assoc, List.cons_append, List.nil_append]
    rw [e]
    exact this
theorem r02_join (l : List ByteArray) (hl : l.length ≤ 100) (h : ∀ s ∈ l, s.size ≤ 4096) : Ev (fun k => linhayref02_Join.f k l) (Sp.mk (joinq l)) := by
  unfold linhayref02_Join.f
  refine Ev.step (fun k => by rw [linhayref02_Join.l0]) ?_
  cases l with
  | nil =>
    refine ev_neg (by simp) ?_
    exact Ev.now _
  | cons s r =>
    have hs := h s (by simp)
    have hq := quote_len s.data.toList
    rw [← Sp.size_eq] at hq
    refine ev_pos (by simp only [List.length_cons]; omega) (ev_neg (by omega) (ev_pos (by omega) ?_))
    rw [show (0 : Int) = ((0 : Nat) : Int) from rfl, rd_nat (l := s :: r) (i := 0) rfl]
    refine ev_bind (r02_quote s (by omega)) ?_
    rw [show (⟨#[]⟩ : ByteArray) = Sp.mk [] from rfl, app_mk, Sp.mk_size, Sp.mk_size, w1 (by omega)]
    refine ev_pos (by simp; omega) ?_
    have := r02_join_l0 (s :: r) hl h r.length 1 (by simp; omega) (by omega) (quote s.data.toList) (by omega)
    rw [joinq_jt]
    simpa using this

def Qs (l : List ByteArray) : List ByteArray := l.map fun s => Sp.mk (quote s.data.toList)
theorem join_Qs (l : List ByteArray) : Lib.join ((Qs l).map (·.data.toList)) [32] = joinq l := by
  simp [Qs, joinq, List.map_map, Function.comp_def]
theorem words_join_l0 (l : List ByteArray) (hl : l.length ≤ 100) (h : ∀ s ∈ l, s.size ≤ 4096) : ∀ (d i : Nat), i + d = l.length →
    Ev (fun k => words_Join.l0 k (Qs (l.take i)) l (l.length : Int) (i : Int)) (Sp.mk (joinq l)) := by
  intro d
  induction d with
  | zero =>
    intro i hi
    refine Ev.step (fun k => by rw [words_Join.l0]) ?_
    refine ev_neg (by omega) ?_
    have e : l.take i = l := List.take_of_length_le (by omega)
    rw [e]
    have hj := joinq_len l h
    have hf : strings_Join.f (Qs l) (⟨#[32]⟩ : ByteArray) = some (Sp.mk (joinq l)) := by
      unfold strings_Join.f
      rw [show ((⟨#[32]⟩ : ByteArray).data.toList) = [32] from rfl, join_Qs, if_pos ⟨by simp [Qs]; omega, by omega⟩]
    exact ev_opt hf (Ev.now _)
  | succ d ih =>
    intro i hi
    have hlt : i < l.length := by omega
    have hs := h l[i] (List.getElem_mem hlt)
    refine Ev.step (fun k => by rw [words_Join.l0]) ?_
    rw [rd_nat (List.getElem?_eq_getElem hlt)]
    refine ev_pos (by omega) (ev_pos (by omega) (ev_pos (by omega) ?_))
    refine ev_opt (quote_f l[i] (by omega)) (ev_pos (by simp [Qs]; omega) ?_)
    have := ih (i + 1) (by omega)
    rw [w1 (by omega)]
    have e : Qs (l.take (i + 1)) = Qs (l.take i) ++ [Sp.mk (quote l[i].data.toList)] := by
      rw [List.take_succ_eq_append_getElem hlt]; simp only [Qs, List.map_append, List.map_cons, List.map_nil]
    rw [e] at this
    exact this
theorem words_join (l : List ByteArray) (hl : l.length ≤ 100) (h : ∀ s ∈ l, s.size ≤ 4096) : Ev (fun k => words_Join.f k l) (Sp.mk (joinq l)) :=
  words_join_l0 l hl h l.length 0 (by omega)

def okWord (s : ByteArray) : Prop := s.data.toList.any bad = false ∧ s.size ≤ 4096
end Go.Proofs.YtocpdhbkfgolfaaDoor.Pu
