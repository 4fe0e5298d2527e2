/- linhaylaw09.PosixNone, walked: it returns true. -/
import Derived.Test.YtjfigngmpagloaaQV0
import Derived.Test.YtjfigngmpagloaaQV1
import Derived.Deep.RegionLaw
import Derived.Deep.QuietTactic
import Derived.BigQuiet
import Derived.Maps.AppendAt

namespace Go.Proofs.Ytjfigngmpagloaa.Tw
open Go Go.RowKit Go.Shelf Go.Proofs Go.Proofs.Ytjfigngmpagloaa Go.Proofs.YtjfigngmpagloaaW.PrintWords Go.Proofs.Ytjfigngmpagloaa.Ext Go.Proofs.Ytjfigngmpagloaa.X Go.Proofs.Ytjfigngmpagloaa.Pu
set_option linter.unusedVariables false
set_option linter.unusedSimpArgs false
def isIn (n : Int) (r : RN) : Bool := r.f1 == n && !(r.f0 == 1)
def stepE (n : Int) (l : List En) (r : RN) : List En := if isIn n r = true then insE l ⟨r.f2, r.f0⟩ else l
def entsOf (L : List RN) (n : Int) : List En := L.foldl (stepE n) []
def ndOf (L : List RN) (r : RN) : Nd := ⟨r.f3, r.f1, r.f4, entsOf L r.f0⟩
def trOf (L : List RN) (last : Int) : Tr := ⟨fun n => (L.find? (fun r => r.f0 == n)).map (ndOf L), L.length, last⟩
theorem isIn_iff {n : Int} {r : RN} : isIn n r = true ↔ r.f1 = n ∧ r.f0 ≠ 1 := by simp [isIn]
theorem entsOf_snoc (L : List RN) (x : RN) (n : Int) : entsOf (L ++ [x]) n = if isIn n x = true then insE (entsOf L n) ⟨x.f2, x.f0⟩ else entsOf L n := by
  unfold entsOf; rw [List.foldl_append]; rfl
theorem fold_mem (n : Int) (e : En) : ∀ (L : List RN) (acc : List En), e ∈ L.foldl (stepE n) acc ↔ e ∈ acc ∨ ∃ r ∈ L, isIn n r = true ∧ e = ⟨r.f2, r.f0⟩
  | [], acc => by simp
  | a :: L, acc => by
    rw [List.foldl_cons, fold_mem n e L]
    unfold stepE
    split
    · rename_i h
      rw [insE_mem]
      constructor
      · rintro ((h1 | h1) | ⟨r, h1, h2⟩)
        · exact .inr ⟨a, List.mem_cons_self, h, h1⟩
        · exact .inl h1
        · exact .inr ⟨r, List.mem_cons_of_mem _ h1, h2⟩
      · rintro (h1 | ⟨r, h1, h2, h3⟩)
        · exact .inl (.inr h1)
        · rcases List.mem_cons.1 h1 with rfl | h1
          · exact .inl (.inl h3)
          · exact .inr ⟨r, h1, h2, h3⟩
    · rename_i h
      constructor
      · rintro (h1 | ⟨r, h1, h2⟩)
        · exact .inl h1
        · exact .inr ⟨r, List.mem_cons_of_mem _ h1, h2⟩
      · rintro (h1 | ⟨r, h1, h2, h3⟩)
        · exact .inl h1
        · rcases List.mem_cons.1 h1 with rfl | h1
          · exact absurd h2 h
          · exact .inr ⟨r, h1, h2, h3⟩
theorem mem_ents {L : List RN} {n : Int} {e : En} : e ∈ entsOf L n ↔ ∃ r ∈ L, isIn n r = true ∧ e = ⟨r.f2, r.f0⟩ := by
  unfold entsOf; rw [fold_mem]; simp
theorem fold_len (n : Int) : ∀ (L : List RN) (acc : List En), (L.foldl (stepE n) acc).length ≤ acc.length + L.length
  | [], acc => by simp
  | a :: L, acc => by
    rw [List.foldl_cons]
    have h := fold_len n L (stepE n acc a)
    have h2 : (stepE n acc a).length ≤ acc.length + 1 := by
      unfold stepE
      split
      · rw [insE_len]; exact Nat.le_refl _
      · omega
    simp only [List.length_cons]
    omega
theorem ents_len (L : List RN) (n : Int) : (entsOf L n).length ≤ L.length := by
  have := fold_len n L []
  simpa [entsOf] using this
theorem fold_rt (n : Int) : ∀ (L : List RN) (acc : List En), Rt acc → (∀ e ∈ acc, ∀ r ∈ L, isIn n r = true → e.f0 ≠ r.f2) → L.Pairwise (fun a b => a.f1 = b.f1 → a.f0 ≠ 1 → b.f0 ≠ 1 → a.f2 ≠ b.f2) → Rt (L.foldl (stepE n) acc)
  | [], acc, h, _, _ => h
  | a :: L, acc, h, hn, hp => by
    rw [List.foldl_cons]
    obtain ⟨h1, h2⟩ := List.pairwise_cons.1 hp
    refine fold_rt n L _ ?_ ?_ h2
    · unfold stepE
      split
      · rename_i hi
        exact insE_rt _ _ h (fun e he => hn e he a List.mem_cons_self hi)
      · exact h
    · intro e he r hr hi
      unfold stepE at he
      split at he
      · rename_i hj
        rcases (insE_mem _ _ _).1 he with rfl | he
        · obtain ⟨i1, i2⟩ := isIn_iff.1 hi
          obtain ⟨j1, j2⟩ := isIn_iff.1 hj
          exact h1 r hr (j1.trans i1.symm) j2 i2
        · exact hn e he r (List.mem_cons_of_mem _ hr) hi
      · exact hn e he r (List.mem_cons_of_mem _ hr) hi
structure GoodL (L : List RN) (last : Int) : Prop where
  len : L.length ≤ 4096
  num : ∀ r ∈ L, 1 ≤ r.f0 ∧ r.f0 ≤ last
  uniq : L.Pairwise (fun a b => a.f0 ≠ b.f0)
  names : L.Pairwise (fun a b => a.f1 = b.f1 → a.f0 ≠ 1 → b.f0 ≠ 1 → a.f2 ≠ b.f2)
  data : ∀ r ∈ L, r.f4.size ≤ 65536
  up : ∀ r ∈ L, (atR L r.f1).f3 = 1
  root : ∃ r ∈ L, r.f0 = 1 ∧ r.f1 = 1 ∧ r.f3 = 1
theorem GoodL.rt {L : List RN} {last : Int} (h : GoodL L last) (n : Int) : Rt (entsOf L n) := fold_rt n L [] List.Pairwise.nil (by simp) h.names
theorem find_num {L : List RN} {r : RN} (hu : L.Pairwise (fun a b => a.f0 ≠ b.f0)) (hr : r ∈ L) : L.find? (fun q => q.f0 == r.f0) = some r := by
  induction L with
  | nil => cases hr
  | cons a L ih =>
    obtain ⟨h1, h2⟩ := List.pairwise_cons.1 hu
    rw [List.find?_cons]
    rcases List.mem_cons.1 hr with rfl | hr
    · simp
    · have := h1 r hr
      rw [show (a.f0 == r.f0) = false by simpa using this]
      exact ih h2 hr
theorem at_kind {L : List RN} {n : Int} (h : (atR L n).f3 ≠ 0) : ∃ r ∈ L, r.f0 = n ∧ atR L n = r := by
  unfold atR at h ⊢
  cases hf : L.find? (fun r => r.f0 == n) with
  | none => rw [hf] at h; exact absurd rfl h
  | some r =>
    refine ⟨r, List.mem_of_find?_eq_some hf, ?_, rfl⟩
    have := List.find?_some hf
    simpa using this
theorem GoodL.noEnts {L : List RN} {last : Int} (h : GoodL L last) {n : Int} (hn : L.find? (fun r => r.f0 == n) = none) : entsOf L n = [] := by
  cases he : entsOf L n with
  | nil => rfl
  | cons e l =>
    obtain ⟨r, hr, hi, _⟩ := mem_ents.1 (show e ∈ entsOf L n by rw [he]; exact List.mem_cons_self)
    obtain ⟨i1, i2⟩ := isIn_iff.1 hi
    have hk := h.up r hr
    rw [i1] at hk
    unfold atR at hk
    rw [hn] at hk
    cases hk
theorem node_of {L : List RN} {last : Int} (h : GoodL L last) (n : Int) : (trOf L last).node n = ⟨(atR L n).f3, (atR L n).f1, (atR L n).f4, entsOf L n⟩ := by
  unfold Tr.node trOf atR
  cases hf : L.find? (fun r => r.f0 == n) with
  | none => simp only [hf, Option.map_none, Option.getD_none, h.noEnts hf]; rfl
  | some r =>
    have := List.find?_some hf
    have : r.f0 = n := by simpa using this
    simp only [hf, Option.map_some, Option.getD_some, ndOf, this]
theorem find_ents {L : List RN} {last : Int} (h : GoodL L last) (n : Int) (s : ByteArray) : findE (entsOf L n) s = (inR L n s, decide (0 < inR L n s)) := by
  have hq : ∀ r : RN, inQ n s r = true ↔ isIn n r = true ∧ r.f2 = s := by
    intro r
    rw [isIn_iff]
    simp only [inQ, Bool.and_eq_true, beq_iff_eq, Bool.not_eq_true', beq_eq_false_iff_ne, toL_inj]
    constructor
    · rintro ⟨a, b, c⟩; exact ⟨⟨a, c⟩, b⟩
    · rintro ⟨⟨a, c⟩, b⟩; exact ⟨a, b, c⟩
  unfold findE inR
  cases hf : L.find? (inQ n s) with
  | none =>
    have : (entsOf L n).find? (fun e => e.f0.toList == s.toList) = none := by
      rw [List.find?_eq_none]
      intro e he
      obtain ⟨r, hr, hi, rfl⟩ := mem_ents.1 he
      have := List.find?_eq_none.1 hf r hr
      rw [hq] at this
      simp only [beq_iff_eq, toL_inj]
      exact fun e => this ⟨hi, e⟩
    rw [this]; rfl
  | some r =>
    have hr := List.mem_of_find?_eq_some hf
    have hrq := (hq r).1 (List.find?_some hf)
    have hm : (⟨r.f2, r.f0⟩ : En) ∈ entsOf L n := mem_ents.2 ⟨r, hr, hrq.1, rfl⟩
    cases hg : (entsOf L n).find? (fun e => e.f0.toList == s.toList) with
    | none =>
      have := List.find?_eq_none.1 hg _ hm
      simp [hrq.2] at this
    | some e =>
      have he := List.mem_of_find?_eq_some hg
      have hes := List.find?_some hg
      have hes : e.f0 = s := by simpa [toL_inj] using hes
      have hpos := (h.num r hr).1
      have : e = ⟨r.f2, r.f0⟩ := by
        apply Classical.byContradiction
        intro hne
        have hrt := h.rt n
        have key : bl e.f0 r.f2 = true ∨ bl r.f2 e.f0 = true := by
          obtain ⟨i, hi, rfl⟩ := List.getElem_of_mem he
          obtain ⟨j, hj, hj2⟩ := List.getElem_of_mem hm
          rcases Nat.lt_trichotomy i j with hlt | rfl | hgt
          · have := List.pairwise_iff_getElem.1 hrt i j hi hj hlt
            rw [hj2] at this; exact .inl this
          · exact absurd hj2 hne
          · have := List.pairwise_iff_getElem.1 hrt j i hj hi hgt
            rw [hj2] at this; exact .inr this
        rw [hes, hrq.2, bl_irr] at key
        rcases key with h | h <;> cases h
      subst this
      simp only []
      rw [decide_eq_true (by omega)]
end Go.Proofs.Ytjfigngmpagloaa.Tw

namespace Go.Proofs.Ytjfigngmpagloaa.Tw
open Go Go.RowKit Go.Shelf Go.Proofs Go.Proofs.Ytjfigngmpagloaa Go.Proofs.YtjfigngmpagloaaW.PrintWords Go.Proofs.Ytjfigngmpagloaa.Ext Go.Proofs.Ytjfigngmpagloaa.X Go.Proofs.Ytjfigngmpagloaa.Pu
set_option linter.unusedVariables false
set_option linter.unusedSimpArgs false
set_option maxRecDepth 1000000 in
theorem r07_may (kind : Int) (data : ByteArray) : linhayref07_may.f 5 kind data = some (mayE kind data) := by
  have hz : (data.toList = ([] : List UInt8)) ↔ data.size = 0 := by
    rw [toL]
    constructor
    · intro h
      have := congrArg List.length h
      exact this
    · intro h
      exact List.eq_nil_of_length_eq_zero h
  have hb : ∀ q : Bool, (data.toList == ([] : List UInt8)) = q → decide (data.size = 0) = q := by
    intro q h
    rw [← h]
    by_cases e : data.size = 0
    · rw [hz.2 e, decide_eq_true e]; rfl
    · rw [decide_eq_false e]
      symm
      rw [beq_eq_false_iff_ne]
      exact fun h => e (hz.1 h)
  have hb := hb _ rfl
  unfold mayE linhayref07_may.f
  by_cases a1 : kind < 1
  · rw [if_pos a1, if_pos (.inl a1)]; rfl
  · rw [if_neg a1]
    by_cases a2 : kind > 3
    · rw [decide_eq_true a2, if_pos (.inr a2)]; rfl
    · have J1 : linhayref07_may.j1 4 data false = (if (data.size : Int) > 65536 then some 4 else some 0) := rfl
      rw [decide_eq_false a2, if_neg (show ¬ (kind < 1 ∨ kind > 3) by omega),
        show linhayref07_may.j0 5 kind data false = (if kind = 1 then (if data.toList = ([] : List UInt8) then (if kind = 3 then linhayref07_may.j1 4 data (data.toList == ([] : List UInt8)) else linhayref07_may.j1 4 data false) else linhayref07_may.j1 4 data true) else (if kind = 3 then linhayref07_may.j1 4 data (data.toList == ([] : List UInt8)) else linhayref07_may.j1 4 data false)) from rfl]
      by_cases a3 : kind = 1
      · rw [if_pos a3]
        by_cases e : data.size = 0
        · rw [if_pos (hz.2 e), if_neg (show ¬ (kind = 3) by omega), if_neg (show ¬ ((kind = 1 ∧ data.size ≠ 0) ∨ (kind = 3 ∧ data.size = 0)) by omega), J1, if_neg (by omega), if_neg (by omega)]
        · rw [if_neg (fun h => e (hz.1 h)), if_pos (.inl ⟨a3, e⟩)]; rfl
      · rw [if_neg a3]
        by_cases a4 : kind = 3
        · rw [if_pos a4]
          by_cases e : data.size = 0
          · rw [decide_eq_true e] at hb
            rw [← hb, if_pos (.inr ⟨a4, e⟩)]; rfl
          · rw [decide_eq_false e] at hb
            rw [← hb, if_neg (show ¬ ((kind = 1 ∧ data.size ≠ 0) ∨ (kind = 3 ∧ data.size = 0)) by omega), J1]
            by_cases f : data.size > 65536
            · rw [if_pos f, if_pos (by omega)]
            · rw [if_neg f, if_neg (by omega)]
        · rw [if_neg a4, if_neg (show ¬ ((kind = 1 ∧ data.size ≠ 0) ∨ (kind = 3 ∧ data.size = 0)) by omega), J1]
          by_cases f : data.size > 65536
          · rw [if_pos f, if_pos (by omega)]
          · rw [if_neg f, if_neg (by omega)]
def putRE (L : List RN) (d : Int) (s : ByteArray) (kind : Int) (data : ByteArray) : Int :=
  if dirE (atR L d).f3 ≠ 0 then dirE (atR L d).f3 else if Sp.check s.data.toList ≠ 0 then Sp.check s.data.toList else
    if 0 < inR L d s then 6 else if mayE kind data ≠ 0 then mayE kind data else if 4096 ≤ L.length then 12 else 0
def RAt (w : World) (v : Value) (L : List RN) (last : Int) : Prop := ∃ A c, v = .agg #[.slice A L.length c, .int .i64 last] ∧ L.length ≤ c ∧ Kd.C k97 w A L.length L
theorem RAt.below {w w' : World} {v : Value} {L : List RN} {last : Int} (h : RAt w v L last) (hb : Below w.heap.size w w') : RAt w' v L last := by
  obtain ⟨A, c, e, h1, h2⟩ := h
  exact ⟨A, c, e, h1, Kd.C_below h2 hb⟩
structure PB (w : World) (b : Nat) (A : Option Addr) (n c : Nat) (last : Int) : Prop where
  x : w.heap[b]? = some (.cells #[.slice A n c, .int .i64 last] 28 (0, 0))
  r : w.heap[b + 1]? = some (.cells #[.slice none 0 0, .int .i64 0] 28 (0, 0))
theorem PB.below {w w' : World} {b n c : Nat} {A : Option Addr} {last : Int} (h : PB w b A n c last) (hb : Below w.heap.size w w') : PB w' b A n c last :=
  ⟨(hb.block _ (blk_lt h.x)).trans h.x, (hb.block _ (blk_lt h.r)).trans h.r⟩
theorem PB.all {w : World} {b n c : Nat} {A : Option Addr} {last : Int} (h : PB w b A n c last) :
    w.cell? ⟨b, 0, none⟩ = some (.slice A n c) ∧ w.cell? ⟨b, 1, none⟩ = some (.int .i64 last) ∧ w.cell? ⟨b + 1, 0, none⟩ = some (.slice none 0 0) ∧ w.cell? ⟨b + 1, 1, none⟩ = some (.int .i64 0) ∧ w.frozen? ⟨b + 1, 0, none⟩ = false ∧ w.frozen? ⟨b + 1, 1, none⟩ = false :=
  ⟨by rw [blk_cell h.x]; rfl, by rw [blk_cell h.x]; rfl, by rw [blk_cell h.r]; rfl, by rw [blk_cell h.r]; rfl, blk_frozen h.r 0, blk_frozen h.r 1⟩
theorem PB.mk0 (w : World) (A : Option Addr) (n c : Nat) (last : Int) : PB ((w.alloc (.cells #[.slice A n c, .int .i64 last] 28)).alloc (.cells #[.slice none 0 0, .int .i64 0] 28)) w.heap.size A n c last := by
  refine ⟨?_, ?_⟩
  · exact (((Below.refl _ (w.alloc (.cells #[.slice A n c, .int .i64 last] 28))).alloc (Nat.le_refl _) (.cells #[.slice none 0 0, .int .i64 0] 28)).block w.heap.size (by simp)).trans (heap_alloc_new w _)
  · have := heap_alloc_new (w.alloc (.cells #[.slice A n c, .int .i64 last] 28)) (.cells #[.slice none 0 0, .int .i64 0] 28)
    simpa using this
theorem below_two (w : World) (o1 o2 : Obj) : Below w.heap.size w ((w.alloc o1).alloc o2) := ((Below.refl _ w).alloc (Nat.le_refl _) _).alloc (by simp) _
theorem put_cells {w w2 : World} {n c : Nat} {A : Option Addr} {last : Int} {v0 v1 : Value} (h : PB w2 w.heap.size A n c last) (hb : Below w.heap.size w w2) :
    ((w2.setCell ⟨w.heap.size + 1, 0, none⟩ v0).setCell ⟨w.heap.size + 1, 1, none⟩ v1).cell? ⟨w.heap.size + 1, 0, none⟩ = some v0 ∧ ((w2.setCell ⟨w.heap.size + 1, 0, none⟩ v0).setCell ⟨w.heap.size + 1, 1, none⟩ v1).cell? ⟨w.heap.size + 1, 1, none⟩ = some v1 ∧
      Below w.heap.size w ((w2.setCell ⟨w.heap.size + 1, 0, none⟩ v0).setCell ⟨w.heap.size + 1, 1, none⟩ v1) := by
  have e1 := setCell_eq_setRow w2 (w.heap.size + 1) 0 _ _ _ v0 h.r
  have k1 : (w2.setCell ⟨w.heap.size + 1, 0, none⟩ v0).heap[w.heap.size + 1]? = some (.cells #[v0, .int .i64 0] 28 (0, 0)) := by rw [e1, setRow_heap w2 _ _ _ _ _ h.r]; rfl
  have e2 := setCell_eq_setRow _ (w.heap.size + 1) 1 _ _ _ v1 k1
  have k2 : ((w2.setCell ⟨w.heap.size + 1, 0, none⟩ v0).setCell ⟨w.heap.size + 1, 1, none⟩ v1).heap[w.heap.size + 1]? = some (.cells #[v0, v1] 28 (0, 0)) := by rw [e2, setRow_heap _ _ _ _ _ _ k1]; rfl
  exact ⟨by rw [blk_cell k2]; rfl, by rw [blk_cell k2]; rfl, (hb.setCell (by simp) _).setCell (by simp) _⟩
set_option maxHeartbeats 1000000 in
set_option maxRecDepth 1000000 in
theorem rput_err (L : List RN) (last : Int) (v : Value) (d : Int) (s : ByteArray) (kind : Int) (data : ByteArray) (w : World) (h : RAt w v L last) (hl : L.length < 4294967296) (he : putRE L d s kind data ≠ 0) :
    Calls Try.prog 47 #[v, .int .i64 d, .string s, .int .i64 kind, .string data] w fun e w' => e = .returned (.tuple #[v, .int .i64 0, .int .i64 (putRE L d s kind data)]) ∧ Below w.heap.size w w' := by
  obtain ⟨A, c, rfl, hle, hC⟩ := h
  obtain ⟨k1, hk1⟩ := (r07_dir L d last hl).rounds
  obtain ⟨k2, hk2⟩ := (r03_check s).rounds
  obtain ⟨k3, hk3⟩ := (r07_in L d last s hl).rounds
  have HD := Lib.hid (fun W h h2 => linhayref07_dir.calls k1 A c L last d _ W h h2 hk1)
  have HC := Lib.hid (fun W => linhayref03_Check.calls k2 s _ W hk2)
  have HI := Lib.hid (fun W h h2 => linhayref07_In.calls k3 A c L last d s _ W h h2 hk3)
  have HM := Lib.hid (fun W => linhayref07_may.calls 5 kind data (mayE kind data) W (r07_may kind data))
  have HL := Lib.hid hC
  have HLE := Lib.hid hle
  clear hk1 hk2 hk3 hle hl hC
  unfold putRE at he ⊢
  generalize dirE (atR L d).f3 = q1 at *
  generalize Sp.check s.data.toList = q2 at *
  generalize inR L d s = q3 at *
  generalize mayE kind data = q4 at *
  generalize hn : L.length = n at *
  have P1 := Lib.hid (PB.mk0 w A n c last)
  have hb1 := below_two w (.cells #[.slice A n c, .int .i64 last] 28) (.cells #[.slice none 0 0, .int .i64 0] 28)
  have HL1 := Lib.hid (Kd.C_below HL.out hb1)
  obtain ⟨x0_1, x1_1, r0_1, r1_1, f0_1, f1_1⟩ := P1.out.all
  have HB1 := Lib.hid hb1
  clear hb1
  by_cases h1 : q1 = 0
  · subst h1
    rw [if_neg (by simp)] at he ⊢
    by_cases h2 : q2 = 0
    · subst h2
      rw [if_neg (by simp)] at he ⊢
      by_cases h3 : 0 < q3
      · rw [if_pos h3]
        clear he
        go_enter Try.func47, Try.ntmps47
        go_wp2_with (first | (go_at_call 93; refine (HD.out _ HL1.out HLE.out).mono ?_; rintro e w2 ⟨rfl, hb2⟩; have P2 := Aside0.mk (P1.out.below hb2); have HL2 := Aside0.mk (Kd.C_below HL1.out hb2); obtain ⟨x0_2, x1_2, r0_2, r1_2, f0_2, f1_2⟩ := P2.out.all) | (go_at_call 64; refine (HC.out _).mono ?_; rintro e w3 ⟨rfl, hd3⟩; have hb3 := hd3.below; have P3 := Aside0.mk (P2.out.below hb3); have HL3 := Aside0.mk (Kd.C_below HL2.out hb3); obtain ⟨x0_3, x1_3, r0_3, r1_3, f0_3, f1_3⟩ := P3.out.all) | (go_at_call 70; refine (HI.out _ HL3.out HLE.out).mono ?_; rintro e w4 ⟨rfl, hb4⟩; have P4 := Aside0.mk (P3.out.below hb4); have HL4 := Aside0.mk (Kd.C_below HL3.out hb4); obtain ⟨x0_4, x1_4, r0_4, r1_4, f0_4, f1_4⟩ := P4.out.all) | (go_at_call 94; refine (HM.out _).mono ?_; rintro e w5 ⟨rfl, hd5⟩; have hb5 := hd5.below; have P5 := Aside0.mk (P4.out.below hb5); have HL5 := Aside0.mk (Kd.C_below HL4.out hb5); obtain ⟨x0_5, x1_5, r0_5, r1_5, f0_5, f1_5⟩ := P5.out.all))
        have hB := ((HB1.out.trans (hb2.mono (HB1.out.size))).trans (hb3.mono (Nat.le_trans (HB1.out.size) hb2.size))).trans (hb4.mono (Nat.le_trans (Nat.le_trans (HB1.out.size) hb2.size) hb3.size))
        obtain ⟨c0, c1, hB3⟩ := put_cells (v0 := .slice A n c) (v1 := .int .i64 last) P4.out hB
        generalize (w4.setCell ⟨w.heap.size + 1, 0, none⟩ (.slice A n c)).setCell ⟨w.heap.size + 1, 1, none⟩ (.int .i64 last) = w9 at c0 c1 hB3 ⊢
        have hu := Try.underlying28
        refine bodyPost_ret (v := .tuple #[.agg #[.slice A n c, .int .i64 last], .int .i64 0, .int .i64 6]) (by simp [results, Try.results47, go_sem, c0, c1, hu]) rfl ⟨rfl, hB3⟩
      · rw [if_neg h3] at he ⊢
        by_cases h4 : q4 = 0
        · subst h4
          rw [if_neg (by simp)] at he ⊢
          by_cases h5 : 4096 ≤ n
          · rw [if_pos h5]
            have h5' : (4096 : Int) ≤ (n : Int) := by omega
            clear he
            go_enter Try.func47, Try.ntmps47
            go_wp2_with (first | (go_at_call 93; refine (HD.out _ HL1.out HLE.out).mono ?_; rintro e w2 ⟨rfl, hb2⟩; have P2 := Aside0.mk (P1.out.below hb2); have HL2 := Aside0.mk (Kd.C_below HL1.out hb2); obtain ⟨x0_2, x1_2, r0_2, r1_2, f0_2, f1_2⟩ := P2.out.all) | (go_at_call 64; refine (HC.out _).mono ?_; rintro e w3 ⟨rfl, hd3⟩; have hb3 := hd3.below; have P3 := Aside0.mk (P2.out.below hb3); have HL3 := Aside0.mk (Kd.C_below HL2.out hb3); obtain ⟨x0_3, x1_3, r0_3, r1_3, f0_3, f1_3⟩ := P3.out.all) | (go_at_call 70; refine (HI.out _ HL3.out HLE.out).mono ?_; rintro e w4 ⟨rfl, hb4⟩; have P4 := Aside0.mk (P3.out.below hb4); have HL4 := Aside0.mk (Kd.C_below HL3.out hb4); obtain ⟨x0_4, x1_4, r0_4, r1_4, f0_4, f1_4⟩ := P4.out.all) | (go_at_call 94; refine (HM.out _).mono ?_; rintro e w5 ⟨rfl, hd5⟩; have hb5 := hd5.below; have P5 := Aside0.mk (P4.out.below hb5); have HL5 := Aside0.mk (Kd.C_below HL4.out hb5); obtain ⟨x0_5, x1_5, r0_5, r1_5, f0_5, f1_5⟩ := P5.out.all))
            have hB := (((HB1.out.trans (hb2.mono (HB1.out.size))).trans (hb3.mono (Nat.le_trans (HB1.out.size) hb2.size))).trans (hb4.mono (Nat.le_trans (Nat.le_trans (HB1.out.size) hb2.size) hb3.size))).trans (hb5.mono (Nat.le_trans (Nat.le_trans (Nat.le_trans (HB1.out.size) hb2.size) hb3.size) hb4.size))
            obtain ⟨c0, c1, hB3⟩ := put_cells (v0 := .slice A n c) (v1 := .int .i64 last) P5.out hB
            generalize (w5.setCell ⟨w.heap.size + 1, 0, none⟩ (.slice A n c)).setCell ⟨w.heap.size + 1, 1, none⟩ (.int .i64 last) = w9 at c0 c1 hB3 ⊢
            have hu := Try.underlying28
            refine bodyPost_ret (v := .tuple #[.agg #[.slice A n c, .int .i64 last], .int .i64 0, .int .i64 12]) (by simp [results, Try.results47, go_sem, c0, c1, hu]) rfl ⟨rfl, hB3⟩
          · rw [if_neg h5] at he
            exact absurd rfl he
        · rw [if_pos h4]
          clear he
          go_enter Try.func47, Try.ntmps47
          go_wp2_with (first | (go_at_call 93; refine (HD.out _ HL1.out HLE.out).mono ?_; rintro e w2 ⟨rfl, hb2⟩; have P2 := Aside0.mk (P1.out.below hb2); have HL2 := Aside0.mk (Kd.C_below HL1.out hb2); obtain ⟨x0_2, x1_2, r0_2, r1_2, f0_2, f1_2⟩ := P2.out.all) | (go_at_call 64; refine (HC.out _).mono ?_; rintro e w3 ⟨rfl, hd3⟩; have hb3 := hd3.below; have P3 := Aside0.mk (P2.out.below hb3); have HL3 := Aside0.mk (Kd.C_below HL2.out hb3); obtain ⟨x0_3, x1_3, r0_3, r1_3, f0_3, f1_3⟩ := P3.out.all) | (go_at_call 70; refine (HI.out _ HL3.out HLE.out).mono ?_; rintro e w4 ⟨rfl, hb4⟩; have P4 := Aside0.mk (P3.out.below hb4); have HL4 := Aside0.mk (Kd.C_below HL3.out hb4); obtain ⟨x0_4, x1_4, r0_4, r1_4, f0_4, f1_4⟩ := P4.out.all) | (go_at_call 94; refine (HM.out _).mono ?_; rintro e w5 ⟨rfl, hd5⟩; have hb5 := hd5.below; have P5 := Aside0.mk (P4.out.below hb5); have HL5 := Aside0.mk (Kd.C_below HL4.out hb5); obtain ⟨x0_5, x1_5, r0_5, r1_5, f0_5, f1_5⟩ := P5.out.all))
          have hB := (((HB1.out.trans (hb2.mono (HB1.out.size))).trans (hb3.mono (Nat.le_trans (HB1.out.size) hb2.size))).trans (hb4.mono (Nat.le_trans (Nat.le_trans (HB1.out.size) hb2.size) hb3.size))).trans (hb5.mono (Nat.le_trans (Nat.le_trans (Nat.le_trans (HB1.out.size) hb2.size) hb3.size) hb4.size))
          obtain ⟨c0, c1, hB3⟩ := put_cells (v0 := .slice A n c) (v1 := .int .i64 last) P5.out hB
          generalize (w5.setCell ⟨w.heap.size + 1, 0, none⟩ (.slice A n c)).setCell ⟨w.heap.size + 1, 1, none⟩ (.int .i64 last) = w9 at c0 c1 hB3 ⊢
          have hu := Try.underlying28
          refine bodyPost_ret (v := .tuple #[.agg #[.slice A n c, .int .i64 last], .int .i64 0, .int .i64 q4]) (by simp [results, Try.results47, go_sem, c0, c1, hu]) rfl ⟨rfl, hB3⟩
    · rw [if_pos h2]
      clear he
      go_enter Try.func47, Try.ntmps47
      go_wp2_with (first | (go_at_call 93; refine (HD.out _ HL1.out HLE.out).mono ?_; rintro e w2 ⟨rfl, hb2⟩; have P2 := Aside0.mk (P1.out.below hb2); have HL2 := Aside0.mk (Kd.C_below HL1.out hb2); obtain ⟨x0_2, x1_2, r0_2, r1_2, f0_2, f1_2⟩ := P2.out.all) | (go_at_call 64; refine (HC.out _).mono ?_; rintro e w3 ⟨rfl, hd3⟩; have hb3 := hd3.below; have P3 := Aside0.mk (P2.out.below hb3); have HL3 := Aside0.mk (Kd.C_below HL2.out hb3); obtain ⟨x0_3, x1_3, r0_3, r1_3, f0_3, f1_3⟩ := P3.out.all) | (go_at_call 70; refine (HI.out _ HL3.out HLE.out).mono ?_; rintro e w4 ⟨rfl, hb4⟩; have P4 := Aside0.mk (P3.out.below hb4); have HL4 := Aside0.mk (Kd.C_below HL3.out hb4); obtain ⟨x0_4, x1_4, r0_4, r1_4, f0_4, f1_4⟩ := P4.out.all) | (go_at_call 94; refine (HM.out _).mono ?_; rintro e w5 ⟨rfl, hd5⟩; have hb5 := hd5.below; have P5 := Aside0.mk (P4.out.below hb5); have HL5 := Aside0.mk (Kd.C_below HL4.out hb5); obtain ⟨x0_5, x1_5, r0_5, r1_5, f0_5, f1_5⟩ := P5.out.all))
      have hB := (HB1.out.trans (hb2.mono (HB1.out.size))).trans (hb3.mono (Nat.le_trans (HB1.out.size) hb2.size))
      obtain ⟨c0, c1, hB3⟩ := put_cells (v0 := .slice A n c) (v1 := .int .i64 last) P3.out hB
      generalize (w3.setCell ⟨w.heap.size + 1, 0, none⟩ (.slice A n c)).setCell ⟨w.heap.size + 1, 1, none⟩ (.int .i64 last) = w9 at c0 c1 hB3 ⊢
      have hu := Try.underlying28
      refine bodyPost_ret (v := .tuple #[.agg #[.slice A n c, .int .i64 last], .int .i64 0, .int .i64 q2]) (by simp [results, Try.results47, go_sem, c0, c1, hu]) rfl ⟨rfl, hB3⟩
  · rw [if_pos h1]
    clear he
    go_enter Try.func47, Try.ntmps47
    go_wp2_with (first | (go_at_call 93; refine (HD.out _ HL1.out HLE.out).mono ?_; rintro e w2 ⟨rfl, hb2⟩; have P2 := Aside0.mk (P1.out.below hb2); have HL2 := Aside0.mk (Kd.C_below HL1.out hb2); obtain ⟨x0_2, x1_2, r0_2, r1_2, f0_2, f1_2⟩ := P2.out.all) | (go_at_call 64; refine (HC.out _).mono ?_; rintro e w3 ⟨rfl, hd3⟩; have hb3 := hd3.below; have P3 := Aside0.mk (P2.out.below hb3); have HL3 := Aside0.mk (Kd.C_below HL2.out hb3); obtain ⟨x0_3, x1_3, r0_3, r1_3, f0_3, f1_3⟩ := P3.out.all) | (go_at_call 70; refine (HI.out _ HL3.out HLE.out).mono ?_; rintro e w4 ⟨rfl, hb4⟩; have P4 := Aside0.mk (P3.out.below hb4); have HL4 := Aside0.mk (Kd.C_below HL3.out hb4); obtain ⟨x0_4, x1_4, r0_4, r1_4, f0_4, f1_4⟩ := P4.out.all) | (go_at_call 94; refine (HM.out _).mono ?_; rintro e w5 ⟨rfl, hd5⟩; have hb5 := hd5.below; have P5 := Aside0.mk (P4.out.below hb5); have HL5 := Aside0.mk (Kd.C_below HL4.out hb5); obtain ⟨x0_5, x1_5, r0_5, r1_5, f0_5, f1_5⟩ := P5.out.all))
    have hB := HB1.out.trans (hb2.mono (HB1.out.size))
    obtain ⟨c0, c1, hB3⟩ := put_cells (v0 := .slice A n c) (v1 := .int .i64 last) P2.out hB
    generalize (w2.setCell ⟨w.heap.size + 1, 0, none⟩ (.slice A n c)).setCell ⟨w.heap.size + 1, 1, none⟩ (.int .i64 last) = w9 at c0 c1 hB3 ⊢
    have hu := Try.underlying28
    refine bodyPost_ret (v := .tuple #[.agg #[.slice A n c, .int .i64 last], .int .i64 0, .int .i64 q1]) (by simp [results, Try.results47, go_sem, c0, c1, hu]) rfl ⟨rfl, hB3⟩
end Go.Proofs.Ytjfigngmpagloaa.Tw

namespace Go.Proofs.Ytjfigngmpagloaa.Tw
open Go Go.RowKit Go.Shelf Go.Proofs Go.Proofs.Ytjfigngmpagloaa Go.Proofs.YtjfigngmpagloaaW.PrintWords Go.Proofs.Ytjfigngmpagloaa.Ext Go.Proofs.Ytjfigngmpagloaa.X Go.Proofs.Ytjfigngmpagloaa.Pu
set_option linter.unusedVariables false
set_option linter.unusedSimpArgs false
theorem putRE_zero {L : List RN} {d : Int} {s : ByteArray} {kind : Int} {data : ByteArray} (h : putRE L d s kind data = 0) :
    dirE (atR L d).f3 = 0 ∧ Sp.check s.data.toList = 0 ∧ ¬ (0 < inR L d s) ∧ mayE kind data = 0 ∧ L.length < 4096 := by
  unfold putRE at h
  split at h
  · rename_i g; exact absurd h g
  · rename_i g1
    split at h
    · rename_i g; exact absurd h g
    · rename_i g2
      split at h
      · cases h
      · rename_i g3
        split at h
        · rename_i g; exact absurd h g
        · rename_i g4
          split at h
          · cases h
          · rename_i g5
            exact ⟨Decidable.byContradiction fun e => g1 e, Decidable.byContradiction fun e => g2 e, g3, Decidable.byContradiction fun e => g4 e, by omega⟩
theorem rfar2 {w : World} {base b : Nat} {v u u' : Value} {l : List RN} (h : Kd.R k97 97 w base (fun _ => True) v l) (hb : b < base) :
    Kd.R k97 97 ((w.setCell ⟨b, 0, none⟩ u).setCell ⟨b, 1, none⟩ u') base (fun _ => True) v l := by
  have h1 := Kd.R_mono (Kd.R_bound h) (ok' := fun k => k ≠ b) (fun k hk => by have := hk.2.1; omega)
  exact Kd.R_mono (Kd.R_far (p := ⟨b, 1, none⟩) (Kd.R_far (p := ⟨b, 0, none⟩) h1 (fun k hk => hk) u) (fun k hk => hk) u') (fun _ _ => trivial)
theorem rat_fin {w : World} {n c7 : Nat} {A7 : Option Addr} {L : List RN} {x : RN} {last : Int} (hn : L.length = n) (h : ∃ A c, Value.slice A7 ([] ++ L ++ [x]).length c7 = .slice A ([] ++ L ++ [x]).length c ∧ ([] ++ L ++ [x]).length ≤ c ∧ Kd.C k97 w A ([] ++ L ++ [x]).length ([] ++ L ++ [x])) :
    RAt w.drew (.agg #[.slice A7 (n + 1) c7, .int .i64 last]) (L ++ [x]) last := by
  obtain ⟨A, c, e, h1, h2⟩ := h
  cases e
  exact ⟨A7, c7, by simp [hn], h1, Kd.C_drew h2⟩
theorem alloc_below (w : World) (o : Obj) (w' : World) (h : Below (w.heap.size + 1) (w.drew.alloc o) w') : Below w.heap.size w w' :=
  (((Below.refl w.heap.size w).drew).alloc (Nat.le_refl _) o).trans (h.mono (Nat.le_succ _))
theorem oneR {w w' : World} {b : Nat} {x : RN} (h : w'.heap[b]? = w.heap[b]?) (hv : w.heap[b]? = some (.cells #[.int .i64 x.f0, .int .i64 x.f1, .string x.f2, .int .i64 x.f3, .string x.f4] 97 (0, 0))) : Kd.C k97 w' (some ⟨b, 0, none⟩) 1 [x] := by
  have hv := h.trans hv
  refine ⟨rfl, by omega, fun _ => ⟨_, rfl, fun j p hj => ?_⟩⟩
  obtain ⟨hl, rfl⟩ := List.getElem?_eq_some_iff.1 hj
  have : j = 0 := by simp at hl; exact hl
  subst this
  refine ⟨[.int .i64 x.f0, .int .i64 x.f1, .string x.f2, .int .i64 x.f3, .string x.f4], rfl, k97_mk w' x, fun i u hu => ?_⟩
  rw [show (⟨b, 0, none⟩ : Addr).add (0 * k97.sz + i) = ⟨b, i, none⟩ by rw [Addr.add_lit]; congr 1; omega]
  rw [cell_of_row w' b _ _ _ (0, 0) hv]
  simpa using hu
set_option maxHeartbeats 4000000 in
set_option maxRecDepth 1000000 in
theorem rput_ok (L : List RN) (last : Int) (v : Value) (d : Int) (s : ByteArray) (kind : Int) (data : ByteArray) (w : World) (h : RAt w v L last) (hla : 0 ≤ last ∧ last < 1000000) (he : putRE L d s kind data = 0) :
    Calls Try.prog 47 #[v, .int .i64 d, .string s, .int .i64 kind, .string data] w fun e w' => ∃ v', e = .returned (.tuple #[v', .int .i64 (last + 1), .int .i64 0]) ∧ RAt w' v' (L ++ [⟨last + 1, d, s, kind, data⟩]) (last + 1) ∧ Below w.heap.size w w' := by
  obtain ⟨A, c, rfl, hle, hC⟩ := h
  obtain ⟨z1, z2, z3, z4, z5⟩ := putRE_zero he
  have hl : L.length < 4294967296 := by omega
  obtain ⟨k1, hk1⟩ := (r07_dir L d last hl).rounds
  obtain ⟨k2, hk2⟩ := (r03_check s).rounds
  obtain ⟨k3, hk3⟩ := (r07_in L d last s hl).rounds
  have HD := Lib.hid (fun W h h2 => linhayref07_dir.calls k1 A c L last d _ W h h2 hk1)
  have HC := Lib.hid (fun W => linhayref03_Check.calls k2 s _ W hk2)
  have HI := Lib.hid (fun W h h2 => linhayref07_In.calls k3 A c L last d s _ W h h2 hk3)
  have HM := Lib.hid (fun W => linhayref07_may.calls 5 kind data (mayE kind data) W (r07_may kind data))
  have HL := Lib.hid hC
  have HLE := Lib.hid hle
  have HZ5 := Lib.hid z5
  have hw1 : IntKind.i64.wrap (last + 1) = last + 1 := by obtain ⟨a, b⟩ := hla; rw [IntKind.wrap_i64]; omega
  rw [z1] at HD
  rw [z2] at HC
  rw [z4] at HM
  have h5' : ¬ ((4096 : Int) ≤ (L.length : Int)) := by omega
  have h5'' : (L.length : Int) < 4096 := by omega
  clear hk1 hk2 hk3 hle hl hC z1 z2 z4 z5 he hla
  generalize inR L d s = q3 at *
  generalize hn : L.length = n at *
  have P1 := Lib.hid (PB.mk0 w A n c last)
  have hb1 := below_two w (.cells #[.slice A n c, .int .i64 last] 28) (.cells #[.slice none 0 0, .int .i64 0] 28)
  have HL1 := Lib.hid (Kd.C_below HL.out hb1)
  obtain ⟨x0_1, x1_1, r0_1, r1_1, f0_1, f1_1⟩ := P1.out.all
  have HB1 := Lib.hid hb1
  clear hb1
  go_enter Try.func47, Try.ntmps47
  go_wp2_with (first | (go_at_call 93; refine (HD.out _ HL1.out HLE.out).mono ?_; rintro e w2 ⟨rfl, hb2⟩; have P2 := Aside0.mk (P1.out.below hb2); have HL2 := Aside0.mk (Kd.C_below HL1.out hb2); obtain ⟨x0_2, x1_2, r0_2, r1_2, f0_2, f1_2⟩ := P2.out.all) | (go_at_call 64; refine (HC.out _).mono ?_; rintro e w3 ⟨rfl, hd3⟩; have hb3 := hd3.below; have P3 := Aside0.mk (P2.out.below hb3); have HL3 := Aside0.mk (Kd.C_below HL2.out hb3); obtain ⟨x0_3, x1_3, r0_3, r1_3, f0_3, f1_3⟩ := P3.out.all) | (go_at_call 70; refine (HI.out _ HL3.out HLE.out).mono ?_; rintro e w4 ⟨rfl, hb4⟩; have P4 := Aside0.mk (P3.out.below hb4); have HL4 := Aside0.mk (Kd.C_below HL3.out hb4); obtain ⟨x0_4, x1_4, r0_4, r1_4, f0_4, f1_4⟩ := P4.out.all) | (go_at_call 94; refine (HM.out _).mono ?_; rintro e w5 ⟨rfl, hd5⟩; have hb5 := hd5.below; have P5 := Aside0.mk (P4.out.below hb5); have HL5 := Aside0.mk (Kd.C_below HL4.out hb5); obtain ⟨x0_5, x1_5, r0_5, r1_5, f0_5, f1_5⟩ := P5.out.all))
  have HB5 := Aside0.mk ((((HB1.out.trans (hb2.mono (HB1.out.size))).trans (hb3.mono (Nat.le_trans (HB1.out.size) hb2.size))).trans (hb4.mono (Nat.le_trans (Nat.le_trans (HB1.out.size) hb2.size) hb3.size))).trans (hb5.mono (Nat.le_trans (Nat.le_trans (Nat.le_trans (HB1.out.size) hb2.size) hb3.size) hb4.size)))
  have PD := Aside0.mk (P5.out.below (below_drew (Below.refl _ w5)))
  have HLD := Aside0.mk (Kd.C_drew HL5.out)
  clear hb2 hb3 hb4 hb5 x0_1 x1_1 r0_1 r1_1 f0_1 f1_1 x0_2 x1_2 r0_2 r1_2 f0_2 f1_2 x0_3 x1_3 r0_3 r1_3 f0_3 f1_3 x0_4 x1_4 r0_4 r1_4 f0_4 f1_4 x0_5 x1_5 r0_5 r1_5 f0_5 f1_5 HL1 HL2 HL3 HL4 P1 P2 P3 P4 HD HC HI HM HB1
  have hlt5 := Aside0.mk (blk_lt P5.out.r)
  obtain ⟨x0, x1, -, -, -, -⟩ := PD.out.all
  obtain ⟨xA0, xA1, -, -, -, -⟩ := (P5.out.below (below_drew (((Below.refl _ w5).alloc (Nat.le_refl _) (.cells #[.int .i64 (last + 1), .int .i64 d, .string s, .int .i64 kind, .string data] 97))))).all
  go_region_law (first | (refine Kd.R_append_rows_step k97 (w0 := w5) w5.heap.size (by simp [Region.wanted]) (.const (.slice none 0 0)) (.tmp 49) 26 97 _ 56 rfl Try.underlying26 info97 rfl (by decide) (by omega) _ [] L A n c (fun _ => True) (fun _ => False) (by rfl) (by rfl) (Kd.R_nil _ _ _ _ _) HLD.out (fun _ _ h => by obtain rfl := k97_open h; exact k97_mkM _ _ _ _) (fun _ h => h.elim) (fun _ _ => trivial) (below_drew (Below.refl _ _)) (by simp) (by have := HZ5.out; simp; omega) ?_; intro v6 w6 ho6 hb6 hg6 hat6; have P6 := Aside0.mk (P5.out.below hb6); have x6 := P6.out.all.1; have y6 := P6.out.all.2.1) | (refine Kd.R_append_rows_step k97 (w0 := (w5.alloc (.cells #[.int .i64 (last + 1), .int .i64 d, .string s, .int .i64 kind, .string data] 97)).drew) (w5.heap.size + 1) (by simp [Region.wanted]) (.const (.slice none 0 0)) (.tmp 49) 26 97 _ 56 rfl Try.underlying26 info97 rfl (by decide) (by omega) _ [] L A n c (fun _ => True) (fun _ => False) (by rfl) (by rfl) (Kd.R_nil _ _ _ _ _) (Kd.C_drew (Kd.C_alloc HL5.out _)) (fun _ _ h => by obtain rfl := k97_open h; exact k97_mkM _ _ _ _) (fun _ h => h.elim) (fun _ _ => trivial) (Below.refl _ _) (by simp) (by have := HZ5.out; simp; omega) ?_; intro v6 w6 ho6 hb6' hg6 hat6; have hb6 := alloc_below w5 (.cells #[.int .i64 (last + 1), .int .i64 d, .string s, .int .i64 kind, .string data] 97) w6 hb6'; have HV6 := Aside0.mk (oneR (x := ⟨last + 1, d, s, kind, data⟩) (hb6'.block w5.heap.size (by simp)) (heap_alloc_new w5 _)); have P6 := Aside0.mk (P5.out.below hb6); have x6 := P6.out.all.1; have y6 := P6.out.all.2.1) | (refine Kd.R_append_step k97 (w0 := w5) w5.heap.size (by simp [Region.wanted]) (.tmp 50) (.tmp 59) 26 97 _ 56 rfl Try.underlying26 info97 rfl (by decide) (by omega) v6 ([] ++ L) ⟨last + 1, d, s, kind, data⟩ _ (fun _ => True) (fun _ => False) (by rfl) (by rfl) (k97_mkM _ _ _ _) (fun _ h => h.elim) (fun _ _ => trivial) ho6 hb6 hb6.size (by have := HZ5.out; simp; omega) ?_; intro v7 w7 ho7 hbb7 hg7 hat7; obtain ⟨A7, c7, rfl, hle7, hC7⟩ := Kd.R_reads ho7; have P7 := Aside0.mk (P5.out.below hbb7); obtain ⟨x7, y7, r7, s7, f7, g7⟩ := P7.out.all; have HL7 := Aside0.mk (And.intro hle7 hC7); have HB7 := Aside0.mk hbb7) | (refine Kd.R_append_rows_step k97 (w0 := w6) (w5.heap.size + 1) (by simp [Region.wanted]) (.tmp 50) (.tmp 59) 26 97 _ 56 rfl Try.underlying26 info97 rfl (by decide) (by omega) v6 ([] ++ L) [⟨last + 1, d, s, kind, data⟩] _ 1 1 (fun _ => True) (fun _ => False) (by rfl) (by rfl) ho6 HV6.out (fun _ _ h => by obtain rfl := k97_open h; exact k97_mkM _ _ _ _) (fun _ h => h.elim) (fun _ _ => trivial) (Below.refl _ _) (Nat.le_trans (by simp) hb6'.size) (by have := HZ5.out; simp; omega) ?_; intro v7 w7 ho7 hb7 hg7 hat7; have hbb7 := hb6.trans (hb7.mono (Nat.le_succ _)); obtain ⟨A7, c7, rfl, hle7, hC7⟩ := Kd.R_reads ho7; have P7 := Aside0.mk (P5.out.below hbb7); obtain ⟨x7, y7, r7, s7, f7, g7⟩ := P7.out.all; have HL7 := Aside0.mk (And.intro hle7 hC7); have HB7 := Aside0.mk hbb7))
  all_goals clear x0 x1 xA0 xA1 HLD PD HL5 P5
  all_goals go_wp2
  all_goals go_region
  all_goals go_wp2
  all_goals have hB := HB5.out.trans (HB7.out.mono HB5.out.size)
  all_goals obtain ⟨c0, c1, hB3⟩ := put_cells (v0 := .slice A7 (n + 1) c7) (v1 := .int .i64 (last + 1)) P7.out hB
  all_goals have hR9 := Kd.R_reads (rfar2 (u := .slice A7 (n + 1) c7) (u' := .int .i64 (last + 1)) ho7 (show w.heap.size + 1 < _ by have := hlt5.out; omega))
  all_goals generalize (w7.setCell ⟨w.heap.size + 1, 0, none⟩ (.slice A7 (n + 1) c7)).setCell ⟨w.heap.size + 1, 1, none⟩ (.int .i64 (last + 1)) = w9 at c0 c1 hB3 hR9 ⊢
  all_goals have hu := Try.underlying28
  all_goals refine bodyPost_ret (v := .tuple #[.agg #[.slice A7 (n + 1) c7, .int .i64 (last + 1)], .int .i64 (last + 1), .int .i64 0]) (by simp [results, Try.results47, go_sem, c0, c1, hu, Act.put]) (by simp [Act.put]) ⟨_, rfl, ?_, ?_⟩
  all_goals first | exact rat_fin hn (hR9) | exact (below_drew hB3) | exact hB3
end Go.Proofs.Ytjfigngmpagloaa.Tw

namespace Go.Proofs.Ytjfigngmpagloaa.Tw
open Go Go.RowKit Go.Shelf Go.Proofs Go.Proofs.Ytjfigngmpagloaa Go.Proofs.YtjfigngmpagloaaW.PrintWords Go.Proofs.Ytjfigngmpagloaa.Ext Go.Proofs.Ytjfigngmpagloaa.X Go.Proofs.Ytjfigngmpagloaa.Pu
set_option linter.unusedVariables false
set_option linter.unusedSimpArgs false
theorem putE_eq {L : List RN} {last : Int} (h : GoodL L last) (d : Int) (s : ByteArray) (kind : Int) (data : ByteArray) : putE (trOf L last) d s kind data = putRE L d s kind data := by
  unfold putE putRE
  rw [node_of h d]
  simp only [find_ents h d s, decide_eq_true_eq]
  rfl
theorem find_snoc (L : List RN) (x : RN) (n : Int) : (L ++ [x]).find? (fun r => r.f0 == n) = match L.find? (fun r => r.f0 == n) with | some r => some r | none => if x.f0 = n then some x else none := by
  rw [List.find?_append]
  cases L.find? (fun r => r.f0 == n) with
  | some r => rfl
  | none =>
    by_cases e : x.f0 = n
    · simp [List.find?_cons, e]
    · simp [List.find?_cons, e]
theorem at_snoc {L : List RN} {x : RN} {n : Int} (h : (atR L n).f3 ≠ 0) : atR (L ++ [x]) n = atR L n := by
  unfold atR at h ⊢
  rw [find_snoc]
  cases hf : L.find? (fun r => r.f0 == n) with
  | some r => rfl
  | none => rw [hf] at h; exact absurd rfl h
theorem fresh {L : List RN} {last : Int} (h : GoodL L last) {n : Int} (hn : last < n) : L.find? (fun r => r.f0 == n) = none := by
  rw [List.find?_eq_none]
  intro r hr e
  have := (h.num r hr).2
  have e : r.f0 = n := by simpa using e
  omega
theorem mayE_zero {kind : Int} {data : ByteArray} (h : mayE kind data = 0) : (kind = 1 ∨ kind = 2 ∨ kind = 3) ∧ data.size ≤ 65536 := by
  unfold mayE at h
  split at h
  · cases h
  · split at h
    · cases h
    · split at h
      · cases h
      · rename_i h1 _ h3
        exact ⟨by omega, by omega⟩
theorem inR_none {L : List RN} {last d : Int} {s : ByteArray} (h : GoodL L last) (hn : ¬ 0 < inR L d s) : ∀ r ∈ L, r.f1 = d → r.f0 ≠ 1 → r.f2 ≠ s := by
  intro r hr h1 h2 h3
  apply hn
  unfold inR
  cases hf : L.find? (inQ d s) with
  | none =>
    have := List.find?_eq_none.1 hf r hr
    simp [inQ, h1, h2, h3] at this
  | some q =>
    have := (h.num q (List.mem_of_find?_eq_some hf)).1
    show 0 < q.f0
    omega
theorem GoodL.last1 {L : List RN} {last : Int} (h : GoodL L last) : 1 ≤ last := by
  obtain ⟨r, hr, h1, _⟩ := h.root
  have := (h.num r hr).2
  omega
theorem GoodL.put {L : List RN} {last : Int} (h : GoodL L last) {d : Int} {s : ByteArray} {kind : Int} {data : ByteArray} (he : putRE L d s kind data = 0) : GoodL (L ++ [⟨last + 1, d, s, kind, data⟩]) (last + 1) := by
  obtain ⟨z1, z2, z3, z4, z5⟩ := putRE_zero he
  have hk := dirE_zero z1
  have hla := h.last1
  refine ⟨by simp; omega, ?_, ?_, ?_, ?_, ?_, ?_⟩
  · intro r hr
    rcases List.mem_append.1 hr with hr | hr
    · have := h.num r hr; omega
    · have : r = _ := List.mem_singleton.1 hr
      subst this
      exact ⟨by show 1 ≤ last + 1; omega, Int.le_refl _⟩
  · rw [List.pairwise_append]
    refine ⟨h.uniq, List.pairwise_singleton _ _, ?_⟩
    intro a ha b hb
    have : b = _ := List.mem_singleton.1 hb
    subst this
    have := (h.num a ha).2
    show a.f0 ≠ last + 1
    omega
  · rw [List.pairwise_append]
    refine ⟨h.names, List.pairwise_singleton _ _, ?_⟩
    intro a ha b hb
    have : b = _ := List.mem_singleton.1 hb
    subst this
    intro h1 h2 _
    exact inR_none h z3 a ha h1 h2
  · intro r hr
    rcases List.mem_append.1 hr with hr | hr
    · exact h.data r hr
    · have : r = _ := List.mem_singleton.1 hr
      subst this
      exact (mayE_zero z4).2
  · intro r hr
    rcases List.mem_append.1 hr with hr | hr
    · rw [at_snoc (by rw [h.up r hr]; decide)]; exact h.up r hr
    · have : r = _ := List.mem_singleton.1 hr
      subst this
      show (atR _ d).f3 = 1
      rw [at_snoc (by rw [hk]; decide)]; exact hk
  · obtain ⟨r, hr, q⟩ := h.root
    exact ⟨r, List.mem_append_left _ hr, q⟩
theorem putT_eq {L : List RN} {last : Int} (h : GoodL L last) {d : Int} {s : ByteArray} {kind : Int} {data : ByteArray} (he : putRE L d s kind data = 0) :
    putT (trOf L last) d s kind data = trOf (L ++ [⟨last + 1, d, s, kind, data⟩]) (last + 1) := by
  obtain ⟨z1, z2, z3, z4, z5⟩ := putRE_zero he
  have hk := dirE_zero z1
  have hla := h.last1
  have hk0 : (atR L d).f3 ≠ 0 := by rw [hk]; decide
  obtain ⟨q, hq, hqd, hqe⟩ := at_kind hk0
  have hqn := (h.num q hq).2
  have hdl : d ≠ last + 1 := by omega
  have hnode := node_of h d
  have hf0 := fresh h (show last < last + 1 by omega)
  have hents : ∀ n, entsOf (L ++ [⟨last + 1, d, s, kind, data⟩]) n = if n = d then insE (entsOf L d) ⟨s, last + 1⟩ else entsOf L n := by
    intro n
    rw [entsOf_snoc]
    by_cases e : n = d
    · subst e
      rw [if_pos (show isIn n ⟨last + 1, n, s, kind, data⟩ = true from isIn_iff.2 ⟨rfl, by show last + 1 ≠ 1; omega⟩), if_pos rfl]
    · rw [if_neg (fun hi => e (isIn_iff.1 hi).1.symm), if_neg e]
  unfold putT Tr.enter
  have hn2 : ((trOf L last).bump.set ((trOf L last).last + 1) ⟨kind, d, data, []⟩).node d = (trOf L last).node d := node_set_ne hdl
  rw [hn2, hnode]
  unfold Tr.set Tr.bump trOf
  simp only [Tr.mk.injEq]
  refine ⟨?_, ?_, by trivial⟩
  · funext n
    rw [find_snoc]
    by_cases e : n = d
    · subst e
      rw [if_pos rfl]
      have hfd : L.find? (fun r => r.f0 == n) = some q := by
        have := find_num h.uniq hq
        rw [hqd] at this
        exact this
      rw [hfd, hqe]
      simp only [Option.map_some, ndOf, hqd, hents, if_true]
    · rw [if_neg e]
      by_cases e2 : n = last + 1
      · subst e2
        rw [if_pos rfl, hf0]
        simp only [if_true, Option.map_some, ndOf, hents, if_neg e]
        rw [h.noEnts hf0]
      · rw [if_neg e2]
        cases hf : L.find? (fun r => r.f0 == n) with
        | none =>
          simp only [Option.map_none]
          rw [if_neg (fun e3 => e2 e3.symm)]
          rfl
        | some r =>
          have hrn : r.f0 = n := by simpa using List.find?_some hf
          simp only [Option.map_some, ndOf, hents, hrn, if_neg e]
  · simp only [hf0, Option.map_none, Option.isSome_none]
    have hfd : L.find? (fun r => r.f0 == d) = some q := by
      have := find_num h.uniq hq
      rw [hqd] at this
      exact this
    simp [hdl, hfd]
theorem good0 : GoodL [⟨1, 1, ⟨#[]⟩, 1, ⟨#[]⟩⟩] 1 := by
  refine ⟨by simp, by simp, List.pairwise_singleton _ _, List.pairwise_singleton _ _, (fun r hr => by rw [List.mem_singleton.1 hr]; exact Nat.zero_le _), (fun r hr => by rw [List.mem_singleton.1 hr]; rfl), ⟨_, List.mem_singleton.2 rfl, rfl, rfl, rfl⟩⟩
theorem T0_eq : T0 = trOf [⟨1, 1, ⟨#[]⟩, 1, ⟨#[]⟩⟩] 1 := by
  unfold T0 trOf
  simp only [Tr.mk.injEq]
  refine ⟨?_, by trivial, by trivial⟩
  funext n
  by_cases e : n = 1
  · subst e; rfl
  · rw [if_neg e, List.find?_cons, show ((1 : Int) == n) = false by simpa using (fun h => e h.symm)]; rfl
end Go.Proofs.Ytjfigngmpagloaa.Tw

namespace Go.Proofs.Ytjfigngmpagloaa.Tw
open Go Go.RowKit Go.Shelf Go.Proofs Go.Proofs.Ytjfigngmpagloaa Go.Proofs.YtjfigngmpagloaaW.PrintWords Go.Proofs.Ytjfigngmpagloaa.Ext Go.Proofs.Ytjfigngmpagloaa.X Go.Proofs.Ytjfigngmpagloaa.Pu
set_option linter.unusedVariables false
set_option linter.unusedSimpArgs false
theorem TreeB.two {w : World} {p B : Nat} {T : Tr} (h : TreeB w p B T) : w.heap[p]? = some (.cells #[.map (some B), .int .i64 T.last] 142 (0, 0)) ∧ ∃ es clock, w.heap[B]? = some (.map es clock) := by
  obtain ⟨sv, D, h⟩ := h
  exact ⟨h.ptr, h.mapB⟩
theorem RAt.frm {w w' : World} {p B : Nat} {T : Tr} {v : Value} {L : List RN} {last : Int} (h : RAt w v L last) (hT : TreeB w p B T) (hf : Frm w w' p B) : RAt w' v L last := by
  obtain ⟨hp, es, clock, hB⟩ := hT.two
  obtain ⟨A, c, e1, e2, hC⟩ := h
  refine ⟨A, c, e1, e2, hC.1, hC.2.1, fun hn => ?_⟩
  obtain ⟨ad, eA, hc⟩ := hC.2.2 hn
  have key : ∀ (q : List Value) (x : RN) (j : Nat), k97.K w x q → (∀ i u, q[i]? = some u → w.cell? (ad.add (j * k97.sz + i)) = some u) → ad.block < w.heap.size ∧ ad.block ≠ p ∧ ad.block ≠ B := by
    intro q x j hK hq
    obtain rfl := k97_open hK
    have h0 := hq 2 _ rfl
    have hbl : (ad.add (j * k97.sz + 2)).block = ad.block := by unfold Addr.add; split <;> rfl
    generalize ad.add (j * k97.sz + 2) = a0 at h0 hbl
    refine ⟨?_, ?_, ?_⟩
    · rw [← hbl]; exact block_lt_of_cell h0
    · intro e
      rw [e] at hbl
      obtain ⟨b, o, sp⟩ := a0
      subst hbl
      simp [World.cell?, hp] at h0
      cases sp with
      | none =>
        simp at h0
        match o, h0 with
        | 0, h0 => simp at h0
        | 1, h0 => simp at h0
        | n + 2, h0 => simp at h0
      | some q => simp at h0
    · intro e
      rw [e] at hbl
      obtain ⟨b, o, sp⟩ := a0
      subst hbl
      simp [World.cell?, hB] at h0
  refine ⟨ad, eA, fun j q hj => ?_⟩
  obtain ⟨cs, hl, hK, hq⟩ := hc j q hj
  obtain ⟨k1, k2, k3⟩ := key cs q j hK hq
  refine ⟨cs, hl, ?_, fun i u hu => ?_⟩
  · obtain rfl := k97_open hK
    exact k97_mk _ _
  · have := hq i u hu
    have hbl : (ad.add (j * k97.sz + i)).block = ad.block := by unfold Addr.add; split <;> rfl
    rw [← this]
    generalize ad.add (j * k97.sz + i) = a at hbl
    unfold World.cell?
    rw [hbl, hf.block _ k1 k2 k3]
theorem cells_frm {w w' : World} {p B k : Nat} {T : Tr} {cs : Array Value} {t : TypeId} {fr : Nat × Nat} (h : w.heap[k]? = some (.cells cs t fr)) (ht : t ≠ 142) (hT : TreeB w p B T) (hf : Frm w w' p B) : w'.heap[k]? = some (.cells cs t fr) := by
  obtain ⟨hp, es, clock, hB⟩ := hT.two
  refine (hf.block k (Array.getElem?_eq_some_iff.1 h).1 ?_ ?_).trans h
  · rintro rfl
    rw [hp] at h
    injection h with h
    injection h with _ h
    exact ht h.symm
  · rintro rfl
    rw [hB] at h
    cases h
end Go.Proofs.Ytjfigngmpagloaa.Tw

namespace Go.Proofs.Ytjfigngmpagloaa.Tw
open Go Go.RowKit Go.Shelf Go.Proofs Go.Proofs.Ytjfigngmpagloaa Go.Proofs.YtjfigngmpagloaaW.PrintWords Go.Proofs.Ytjfigngmpagloaa.Ext Go.Proofs.Ytjfigngmpagloaa.X Go.Proofs.Ytjfigngmpagloaa.Pu
set_option linter.unusedVariables false
set_option linter.unusedSimpArgs false
def putL (L : List RN) (last d : Int) (s : ByteArray) (kind : Int) (data : ByteArray) : List RN := if putRE L d s kind data = 0 then L ++ [⟨last + 1, d, s, kind, data⟩] else L
def putN (L : List RN) (last d : Int) (s : ByteArray) (kind : Int) (data : ByteArray) : Int := if putRE L d s kind data = 0 then last + 1 else last
def putA (L : List RN) (last d : Int) (s : ByteArray) (kind : Int) (data : ByteArray) : Int := if putRE L d s kind data = 0 then last + 1 else 0
theorem tput_calls (p B : Nat) (L : List RN) (last d : Int) (s : ByteArray) (kind : Int) (data : ByteArray) (w : World) (h : TreeB w p B (trOf L last)) (hG : GoodL L last) (hn : wf d) (hs : s.size < 4294967281) (hla : last < 1000000) :
    Calls Try.prog 46 #[pT p, .int .i64 d, .string s, .int .i64 kind, .string data] w fun e w' => e = .returned (.tuple #[.int .i64 (putA L last d s kind data), .int .i64 (putRE L d s kind data)]) ∧ TreeB w' p B (trOf (putL L last d s kind data) (putN L last d s kind data)) ∧ Frm w w' p B := by
  have hl : ((trOf L last).node d).ents.length < 4294967296 := by
    rw [node_of hG]
    have := ents_len L d
    have := hG.len
    show (entsOf L d).length < _
    omega
  have hR : Rt ((trOf L last).node d).ents := by rw [node_of hG]; exact hG.rt d
  have hq := putE_eq hG d s kind data
  by_cases he : putRE L d s kind data = 0
  · refine (put_ok p B (trOf L last) d s kind data w h hn hl hR hs ⟨by have := hG.last1; show 0 ≤ last; omega, hla⟩ (by
      show ((L.find? _).map _) = none
      rw [show (trOf L last).last = last from rfl, fresh hG (show last < last + 1 by omega)]; rfl) (hq.trans he)).mono ?_
    rintro e w' ⟨rfl, hT, hf⟩
    rw [putT_eq hG he] at hT
    unfold putA putL putN
    rw [if_pos he, if_pos he, if_pos he, he]
    exact ⟨rfl, hT, hf⟩
  · refine (put_err p B (trOf L last) d s kind data w h hn hl hR hs (by rw [hq]; exact he)).mono ?_
    rintro e w' ⟨rfl, hb⟩
    unfold putA putL putN
    rw [if_neg he, if_neg he, if_neg he, hq]
    exact ⟨rfl, h.below hb, Frm.ofBelow hb⟩
theorem rput_calls (L : List RN) (last d : Int) (v : Value) (s : ByteArray) (kind : Int) (data : ByteArray) (w : World) (h : RAt w v L last) (hG : GoodL L last) (hla : last < 1000000) :
    Calls Try.prog 47 #[v, .int .i64 d, .string s, .int .i64 kind, .string data] w fun e w' => ∃ v', e = .returned (.tuple #[v', .int .i64 (putA L last d s kind data), .int .i64 (putRE L d s kind data)]) ∧ RAt w' v' (putL L last d s kind data) (putN L last d s kind data) ∧ Below w.heap.size w w' := by
  by_cases he : putRE L d s kind data = 0
  · refine (rput_ok L last v d s kind data w h ⟨by have := hG.last1; omega, hla⟩ he).mono ?_
    rintro e w' ⟨v', rfl, hT, hf⟩
    unfold putA putL putN
    rw [if_pos he, if_pos he, if_pos he, he]
    exact ⟨v', rfl, hT, hf⟩
  · refine (rput_err L last v d s kind data w h (by have := hG.len; omega) he).mono ?_
    rintro e w' ⟨rfl, hb⟩
    unfold putA putL putN
    rw [if_neg he, if_neg he, if_neg he]
    exact ⟨v, rfl, h.below hb, hb⟩
theorem good_put {L : List RN} {last d : Int} {s : ByteArray} {kind : Int} {data : ByteArray} (hG : GoodL L last) : GoodL (putL L last d s kind data) (putN L last d s kind data) := by
  unfold putL putN
  by_cases he : putRE L d s kind data = 0
  · rw [if_pos he, if_pos he]; exact hG.put he
  · rw [if_neg he, if_neg he]; exact hG
abbrev MN := S89
def dirAt (nums : List Int) (x : MN) : Int := if 0 ≤ x.f0 ∧ x.f0 < (nums.length : Int) then nums.getD x.f0.toNat 0 else 1
structure MSt where
  L : List RN
  last : Int
  nums : List Int
def madeStep (st : MSt) (x : MN) : MSt :=
  ⟨putL st.L st.last (dirAt st.nums x) x.f1 x.f2 x.f3, putN st.L st.last (dirAt st.nums x) x.f1 x.f2 x.f3, st.nums ++ [putA st.L st.last (dirAt st.nums x) x.f1 x.f2 x.f3]⟩
def made0 : MSt := ⟨[⟨1, 1, ⟨#[]⟩, 1, ⟨#[]⟩⟩], 1, []⟩
def madeF (l : List MN) : MSt := l.foldl madeStep made0
structure MInv (st : MSt) (i : Nat) : Prop where
  good : GoodL st.L st.last
  len : st.nums.length = i
  last : st.last ≤ (i : Int) + 1
  nums : ∀ n ∈ st.nums, 0 ≤ n ∧ n ≤ st.last
theorem minv0 : MInv made0 0 := ⟨good0, rfl, by decide, by simp [made0]⟩
theorem dirAt_in {st : MSt} {i : Nat} (h : MInv st i) (x : MN) : 0 ≤ dirAt st.nums x ∧ dirAt st.nums x ≤ st.last := by
  unfold dirAt
  have h1 := h.good.last1
  split
  · rename_i hx
    have hlt : x.f0.toNat < st.nums.length := by omega
    rw [List.getD_eq_getElem?_getD, List.getElem?_eq_getElem hlt]
    exact h.nums _ (List.getElem_mem hlt)
  · omega
theorem minv_step {st : MSt} {i : Nat} (h : MInv st i) (x : MN) : MInv (madeStep st x) (i + 1) := by
  have h1 := h.good.last1
  have h2 := h.last
  have hle : st.last ≤ (madeStep st x).last ∧ (madeStep st x).last ≤ st.last + 1 := by
    show st.last ≤ putN _ _ _ _ _ _ ∧ putN _ _ _ _ _ _ ≤ st.last + 1
    unfold putN
    split <;> omega
  refine ⟨good_put h.good, by show (st.nums ++ [_]).length = i + 1; rw [List.length_append, h.len]; rfl, by omega, ?_⟩
  intro n hn
  rcases List.mem_append.1 hn with hn | hn
  · have := h.nums n hn; omega
  · have hn := List.mem_singleton.1 hn
    subst hn
    have : (madeStep st x).last = putN st.L st.last (dirAt st.nums x) x.f1 x.f2 x.f3 := rfl
    rw [this] at hle ⊢
    revert hle
    unfold putN putA
    split <;> omega
end Go.Proofs.Ytjfigngmpagloaa.Tw

namespace Go.Proofs.Ytjfigngmpagloaa.Tw
open Go Go.RowKit Go.Shelf Go.Proofs Go.Proofs.Ytjfigngmpagloaa Go.Proofs.YtjfigngmpagloaaW.PrintWords Go.Proofs.Ytjfigngmpagloaa.Ext Go.Proofs.Ytjfigngmpagloaa.X Go.Proofs.Ytjfigngmpagloaa.Pu
set_option linter.unusedVariables false
set_option linter.unusedSimpArgs false
structure GoodM (L : List RN) : Prop where
  nm : ∀ r ∈ L, r.f0 ≠ 1 → Sp.check r.f2.data.toList = 0
  link : ∀ r ∈ L, r.f3 = 3 → 0 < r.f4.size
  kind : ∀ r ∈ L, 1 ≤ r.f3 ∧ r.f3 ≤ 3
  dirs : ∀ r ∈ L, r.f3 = 1 → r.f4.size = 0
  rank : ∃ d : Int → Nat, (∀ n, d n ≤ L.length) ∧ ∀ r ∈ L, r.f0 ≠ 1 → d r.f1 < d r.f0
theorem mayE_more {kind : Int} {data : ByteArray} (h : mayE kind data = 0) : (1 ≤ kind ∧ kind ≤ 3) ∧ (kind = 3 → 0 < data.size) ∧ (kind = 1 → data.size = 0) := by
  unfold mayE at h
  split at h
  · cases h
  · split at h
    · cases h
    · rename_i h1 h2
      exact ⟨by omega, by omega, by omega⟩
theorem GoodM.put {L : List RN} {last : Int} (hG : GoodL L last) (h : GoodM L) {d : Int} {s : ByteArray} {kind : Int} {data : ByteArray} (he : putRE L d s kind data = 0) : GoodM (L ++ [⟨last + 1, d, s, kind, data⟩]) := by
  obtain ⟨z1, z2, z3, z4, z5⟩ := putRE_zero he
  have hk := dirE_zero z1
  have hm := mayE_more z4
  have old : ∀ n, (atR L n).f3 = 1 → n ≤ last := by
    intro n hn
    obtain ⟨q, hq, hqn, _⟩ := at_kind (L := L) (n := n) (by rw [hn]; decide)
    have := (hG.num q hq).2
    omega
  refine ⟨?_, ?_, ?_, ?_, ?_⟩
  · intro r hr h1
    rcases List.mem_append.1 hr with hr | hr
    · exact h.nm r hr h1
    · have : r = _ := List.mem_singleton.1 hr
      subst this
      exact z2
  · intro r hr h1
    rcases List.mem_append.1 hr with hr | hr
    · exact h.link r hr h1
    · have : r = _ := List.mem_singleton.1 hr
      subst this
      exact hm.2.1 h1
  · intro r hr
    rcases List.mem_append.1 hr with hr | hr
    · exact h.kind r hr
    · have : r = _ := List.mem_singleton.1 hr
      subst this
      exact hm.1
  · intro r hr h1
    rcases List.mem_append.1 hr with hr | hr
    · exact h.dirs r hr h1
    · have : r = _ := List.mem_singleton.1 hr
      subst this
      exact hm.2.2 h1
  · obtain ⟨rk, hb, hd⟩ := h.rank
    refine ⟨fun n => if n = last + 1 then rk d + 1 else rk n, fun n => ?_, ?_⟩
    · have h1 := hb n
      have h2 := hb d
      simp only [List.length_append, List.length_singleton]
      split <;> omega
    · intro r hr h1
      rcases List.mem_append.1 hr with hr | hr
      · have h2 := (hG.num r hr).2
        have h3 := old r.f1 (hG.up r hr)
        simp only []
        rw [if_neg (by omega), if_neg (by omega)]
        exact hd r hr h1
      · have : r = _ := List.mem_singleton.1 hr
        subst this
        have h3 := old d hk
        simp only []
        rw [if_neg (by omega), if_pos trivial]
        omega
theorem goodM0 : GoodM [⟨1, 1, ⟨#[]⟩, 1, ⟨#[]⟩⟩] := by
  refine ⟨fun r hr h => ?_, fun r hr h => ?_, fun r hr => ?_, fun r hr h => ?_, ⟨fun _ => 0, fun _ => Nat.zero_le _, fun r hr h => ?_⟩⟩ <;> rw [List.mem_singleton.1 hr] at *
  · exact absurd rfl h
  · cases h
  · decide
  · rfl
  · exact absurd rfl h
theorem goodM_put {L : List RN} {last d : Int} {s : ByteArray} {kind : Int} {data : ByteArray} (hG : GoodL L last) (h : GoodM L) : GoodM (putL L last d s kind data) := by
  unfold putL
  by_cases he : putRE L d s kind data = 0
  · rw [if_pos he]; exact h.put hG he
  · rw [if_neg he]; exact h
theorem fold_good : ∀ (l : List MN) (st : MSt) (i : Nat), MInv st i → GoodM st.L → MInv (l.foldl madeStep st) (i + l.length) ∧ GoodM (l.foldl madeStep st).L
  | [], st, i, h, m => ⟨h, m⟩
  | x :: l, st, i, h, m => by
    have := fold_good l (madeStep st x) (i + 1) (minv_step h x) (goodM_put h.good m)
    rw [List.foldl_cons, List.length_cons, show i + (l.length + 1) = i + 1 + l.length by omega]
    exact this
theorem made_good (l : List MN) : GoodL (madeF l).L (madeF l).last ∧ GoodM (madeF l).L ∧ (madeF l).last ≤ (l.length : Int) + 1 ∧ (madeF l).L.length ≤ l.length + 1 := by
  have h := fold_good l made0 0 minv0 goodM0
  rw [Nat.zero_add] at h
  refine ⟨h.1.good, h.2, h.1.last, ?_⟩
  have key : ∀ (l : List MN) (st : MSt), (l.foldl madeStep st).L.length ≤ st.L.length + l.length := by
    intro l
    induction l with
    | nil => intro st; simp
    | cons x l ih =>
      intro st
      have h1 := ih (madeStep st x)
      have h2 : (madeStep st x).L.length ≤ st.L.length + 1 := by
        show (putL _ _ _ _ _ _).length ≤ _
        unfold putL
        split <;> simp
      simp only [List.foldl_cons, List.length_cons]
      omega
  have := key l made0
  have h0 : made0.L.length = 1 := rfl
  unfold madeF
  omega
theorem inR_le {L : List RN} {last : Int} (h : GoodL L last) (d : Int) (s : ByteArray) : 0 ≤ inR L d s ∧ inR L d s ≤ last := by
  unfold inR
  cases hf : L.find? (inQ d s) with
  | none => have := h.last1; exact ⟨Int.le_refl _, by show (0 : Int) ≤ last; omega⟩
  | some r =>
    have := h.num r (List.mem_of_find?_eq_some hf)
    show 0 ≤ r.f0 ∧ r.f0 ≤ last
    omega
theorem downT_of {L : List RN} {last : Int} (h : GoodL L last) (a : Int) (s : ByteArray) :
    downT (trOf L last) a s = if Sp.check s.data.toList = 0 then (if inR L a s = 0 then (0, 5) else (inR L a s, 0)) else (0, Sp.check s.data.toList) := by
  have h1 := inR_le h a s
  unfold downT
  rw [node_of h a]
  simp only [find_ents h a s, decide_eq_true_eq]
  by_cases h0 : inR L a s = 0
  · rw [if_neg (show ¬ 0 < inR L a s by omega), if_pos h0]
  · rw [if_pos (show 0 < inR L a s by omega), if_neg h0]
end Go.Proofs.Ytjfigngmpagloaa.Tw

namespace Go.Proofs.Ytjfigngmpagloaa.Tw
open Go Go.RowKit Go.Shelf Go.Proofs Go.Proofs.Ytjfigngmpagloaa Go.Proofs.YtjfigngmpagloaaW.PrintWords Go.Proofs.Ytjfigngmpagloaa.Ext Go.Proofs.Ytjfigngmpagloaa.X Go.Proofs.Ytjfigngmpagloaa.Pu
set_option linter.unusedVariables false
set_option linter.unusedSimpArgs false

theorem beginE_ok {s : ByteArray} (h : beginE s = 0) : s.size ≤ 1024 ∧ s.toList ≠ [] := by
  unfold beginE at h
  split at h
  · cases h
  · split at h
    · cases h
    · exact ⟨by omega, by assumption⟩
def findF (T : Tr) (last : Bool) (k : Nat) (s : ByteArray) : Option (Int × Int) :=
  if beginE s = 0 then (walkF T last k 1 0 (partsB s)).bind fun r => if r.2 = 0 then some (r.1, 0) else some (0, r.2) else some (0, beginE s)
theorem Wk.made {w : World} {p : Nat} {l : List ByteArray} {A : Option Addr} {c : Nat} (hr : Kd.C Kd.string w A l.length l) (hc : l.length ≤ c) :
    Wk (w.alloc (.cells #[pT p, .int .i64 1, .int .i64 0, .slice A l.length c] 113)) w.heap.size p 1 0 l A c :=
  ⟨World.alloc_heap_new w _, Kd.C_below hr ((Below.refl _ w).alloc (Nat.le_refl _) _), hc⟩
set_option maxHeartbeats 4000000 in
set_option maxRecDepth 1000000 in
theorem seekFind_calls (p : Nat) (T : Tr) (s : ByteArray) (last : Bool) (k : Nat) (R : Int × Int) (w : World) (hT : TreeAt w p T) (hO : TrOK T) (hR : findF T last k s = some R) :
    Calls Try.prog 24 #[pT p, .string s, .bool last] w fun e w' => e = .returned (.tuple #[.int .i64 R.1, .int .i64 R.2]) ∧ Below w.heap.size w w' := by
  have HBG := Lib.hid (fun W => begin_calls p s W)
  unfold findF at hR
  by_cases h0 : beginE s = 0
  · rw [if_pos h0] at hR
    rw [h0] at HBG
    obtain ⟨hz, -⟩ := beginE_ok h0
    obtain ⟨r, hr, hR⟩ := Option.bind_eq_some_iff.1 hR
    have HP := Lib.hid (fun W => path_Parts.calls s (partsB s) W (by rw [path_Parts.f, if_pos (by omega)]; rfl))
    have hpl := partsB_len' s
    have HW := Lib.hid (fun W g A c h1 h2 h3 => walk_calls w.heap.size w g p T hT hO last k 1 (partsB s) A c r W h1 h2 h3 wf1 (by omega) (fun x hx => Nat.le_trans (partsB_sz s x hx) (by omega)) hr)
    have HR := Lib.hid hR
    clear hT hR hr h0
    generalize partsB s = l at HP HW hpl
    obtain ⟨rn, re⟩ := r
    simp only [] at HR
    go_enter Try.func24, Try.ntmps24
    go_upto_region 5 with (first | (go_at_call 57; refine (HBG.out _).mono ?_; rintro e w2 ⟨rfl, rfl⟩) | (go_at_call 58; refine (HP.out _).mono ?_; rintro e w3 ⟨v, rfl, ho, hb3⟩; obtain ⟨A3, c3, rfl, hl3, hC3⟩ := Kd.R_reads ho; have HC3 := Lib.hid hC3; have HB3 := Lib.hid hb3; have HL3 := Lib.hid hl3; clear ho hC3 hb3 hl3))
    have hk := Wk.made (p := p) HC3.out HL3.out
    have hB : Below w.heap.size w (w3.alloc (.cells #[pT p, .int .i64 1, .int .i64 0, .slice A3 l.length c3] 113)) := HB3.out.alloc HB3.out.size _
    have hg : w.heap.size ≤ w3.heap.size := HB3.out.size
    generalize w3.alloc (.cells #[pT p, .int .i64 1, .int .i64 0, .slice A3 l.length c3] 113) = w4 at hk hB ⊢
    generalize w3.heap.size = g at hk hg ⊢
    have HWK := Lib.hid (HW.out w4 g A3 c3 hk hB hg)
    clear hk hB HW HC3 HB3 HL3
    by_cases he : re = 0
    · subst he
      rw [if_pos rfl] at HR
      go_upto_region 8 with (go_at_call 59; refine HWK.out.mono ?_; rintro e w5 ⟨rfl, hw5⟩)
      obtain ⟨hq, hb5⟩ := hw5
      obtain ⟨h5, l5, A5, c5, hk5⟩ := hq rfl
      obtain ⟨c0, c1, c2, c3⟩ := hk5.cells
      have HB5 := Lib.hid hb5
      have hR := Option.some.inj HR.out
      subst hR
      clear hk5 hq hb5
      go_wp2
      go_ret2
      exact ⟨rfl, HB5.out⟩
    · rw [if_neg he] at HR
      have b3 : (re != 0) = true := bne_iff_ne.2 he
      have hR := Option.some.inj HR.out
      subst hR
      clear he
      go_wp2_with (go_at_call 59; refine HWK.out.mono ?_; rintro e w5 ⟨rfl, hw5⟩)
      go_ret2
      exact ⟨rfl, hw5.2⟩
  · rw [if_neg h0] at hR
    have hR := Option.some.inj hR
    subst hR
    have b3 : (beginE s != 0) = true := bne_iff_ne.2 h0
    generalize beginE s = e0 at HBG b3
    clear h0 hT
    go_enter Try.func24, Try.ntmps24
    go_wp2_with (first | (go_at_call 57; refine (HBG.out _).mono ?_; rintro e w2 ⟨rfl, rfl⟩))
    go_ret2
    exact ⟨rfl, Below.refl _ _⟩
theorem seekFind_nil (s : ByteArray) (last : Bool) (w : World) :
    Calls Try.prog 24 #[.pointer none, .string s, .bool last] w fun e w' => e = .returned (.tuple #[.int .i64 0, .int .i64 1]) ∧ Below w.heap.size w w' := by
  go_enter Try.func24, Try.ntmps24
  go_wp2_with (first | (go_at_call 57; refine (begin_nil _ _).mono ?_; rintro e w2 ⟨rfl, rfl⟩))
  go_ret2
  exact ⟨rfl, Below.refl _ _⟩
end Go.Proofs.Ytjfigngmpagloaa.Tw

namespace Go.Proofs.Ytjfigngmpagloaa.Tw
open Go Go.RowKit Go.Shelf Go.Proofs Go.Proofs.Ytjfigngmpagloaa Go.Proofs.YtjfigngmpagloaaW.PrintWords Go.Proofs.Ytjfigngmpagloaa.Ext Go.Proofs.Ytjfigngmpagloaa.X Go.Proofs.Ytjfigngmpagloaa.Pu
set_option linter.unusedVariables false
set_option linter.unusedSimpArgs false

set_option maxHeartbeats 4000000 in
set_option maxRecDepth 1000000 in
theorem cloneS_calls (A : Option Addr) (c : Nat) (l : List ByteArray) (w : World) (hr : Kd.C Kd.string w A l.length l) (hc : l.length ≤ c) (hl : l.length < 4294967296) :
    Calls Try.prog 62 #[.slice A l.length c] w fun e w' => ∃ v, e = .returned v ∧ Kd.R Kd.string 9 w' w.heap.size (fun _ => True) v l ∧ Below w.heap.size w w' := by
  have hq := fun W => Lib.run_eql_slice_nil (P := Try.prog) W 42 9 A l.length c 0 0 Try.underlying42
  have HR := Lib.hid hr
  have HRE := Lib.hid (R_empty Kd.string 9 w w.heap.size (Nat.le_refl _))
  have HB := Lib.hid ((Below.refl w.heap.size w).alloc (Nat.le_refl _) (.cells #[] 9))
  cases A with
  | none =>
    have h0 : l = [] := by
      cases l with
      | nil => rfl
      | cons a b => obtain ⟨ad, e, _⟩ := hr.2.2 (by simp); cases e
    subst h0
    clear hr HR hq
    have hq := fun W => Lib.run_eql_slice_nil (P := Try.prog) W 42 9 none 0 c 0 0 Try.underlying42
    simp only [Option.isNone_none] at hq
    go_enter Try.func62, Try.ntmps62
    go_wp2
    go_ret
    exact ⟨_, rfl, Kd.R_nil _ _ _ _ _, Below.refl _ _⟩
  | some ad =>
    clear hr
    simp only [Option.isNone_some] at hq
    go_enter Try.func62, Try.ntmps62
    go_wp2_with ((with_reducible refine gate_builtin (b := .append) (xs := #[.tmp 5, .tmp 6]) rfl ?_); at_builtin; refine Kd.R_append_rows Kd.string (w0 := w) w.heap.size rfl (.tmp 5) (.tmp 6) 42 9 (.string ⟨#[]⟩) 16 rfl Try.underlying42 infoS rfl (by decide) (by omega) _ [] l _ _ _ (fun _ => True) (fun _ => False) rfl rfl HRE.out (Kd.C_below HR.out HB.out) (fun _ _ h => h) (fun _ h => h.elim) (fun _ _ => trivial) HB.out (by simp) (by simp; omega) ?_; intro v1 w1 ho hb hg hat)
    go_ret
    exact ⟨_, rfl, ho, hb⟩

abbrev R3 := Int × ByteArray × Int
def noS (e : Int) : R3 := (0, ⟨#[]⟩, e)
def spotF (T : Tr) (k : Nat) (s : ByteArray) : Option R3 :=
  if beginE s = 0 then
    match (partsB s).getLast? with
    | none => some (noS 6)
    | some z => if z.toList = [46, 46] then some (noS 6) else (walkF T true k 1 0 (partsB s).dropLast).bind fun r =>
        if r.2 = 0 then (if (T.node r.1).kind = 1 then (if Sp.check z.data.toList = 0 then some (r.1, z, 0) else some (noS (Sp.check z.data.toList))) else some (noS 7)) else some (noS r.2)
  else some (noS (beginE s))
theorem walkF_wf {T : Tr} (hO : TrOK T) (last : Bool) : ∀ (k : Nat) (a h : Int) (l : List ByteArray) (R : Int × Int), wf a → walkF T last k a h l = some R → wf R.1 := by
  intro k
  induction k with
  | zero => intro a h l R _ hR; simp [walkF] at hR
  | succ k ih =>
    intro a h l R ha hR
    cases l with
    | nil => simp only [walkF, Option.some.injEq] at hR; subst hR; exact ha
    | cons s l =>
      simp only [walkF] at hR
      split at hR
      · cases hR; exact ha
      · split at hR
        · exact ih _ _ _ _ (hO.wf_up a) hR
        · split at hR
          · cases hR; exact ha
          · split at hR
            · exact ih _ _ _ _ (hO.wf_down a s) hR
            · split at hR
              · cases hR; exact ha
              · refine ih _ _ _ _ ?_ hR
                split
                · exact wf1
                · exact ha
set_option maxHeartbeats 8000000 in
set_option maxRecDepth 1000000 in
theorem spot_calls (p : Nat) (T : Tr) (s : ByteArray) (k : Nat) (R : R3) (w : World) (hT : TreeAt w p T) (hO : TrOK T) (hR : spotF T k s = some R) :
    Calls Try.prog 26 #[pT p, .string s] w fun e w' => e = .returned (.tuple #[.int .i64 R.1, .string R.2.1, .int .i64 R.2.2]) ∧ Below w.heap.size w w' := by
  have HBG := Lib.hid (fun W => begin_calls p s W)
  unfold spotF at hR
  by_cases h0 : beginE s = 0
  · rw [if_pos h0] at hR
    rw [h0] at HBG
    obtain ⟨hz, -⟩ := beginE_ok h0
    have HP := Lib.hid (fun W => path_Parts.calls s (partsB s) W (by rw [path_Parts.f, if_pos (by omega)]; rfl))
    have hpl := partsB_len' s
    have hps := partsB_sz s
    generalize partsB s = l at hR HP hpl hps
    clear h0
    rcases List.eq_nil_or_concat l with rfl | ⟨ini, z, rfl⟩
    · have hR := Option.some.inj hR
      subst hR
      go_enter Try.func26, Try.ntmps26
      go_wp2_with (first | (go_at_call 57; refine (HBG.out _).mono ?_; rintro e w2 ⟨rfl, rfl⟩) | (go_at_call 58; refine (HP.out _).mono ?_; rintro e w3 ⟨v, rfl, ho, hb3⟩; obtain ⟨A3, c3, rfl, hl3, hC3⟩ := Kd.R_reads ho; clear ho hC3))
      go_ret3
      exact ⟨rfl, hb3⟩
    · rw [List.concat_eq_append] at *
      rw [List.getLast?_concat, List.dropLast_concat] at hR
      simp only [] at hR
      have hlen : (ini ++ [z]).length = ini.length + 1 := by simp
      by_cases hdd : z.toList = [46, 46]
      · rw [if_pos hdd] at hR
        have hR := Option.some.inj hR
        subst hR
        have b2 : (z.toList == [46, 46]) = true := by rw [hdd]; rfl
        go_enter Try.func26, Try.ntmps26
        go_upto_region 6 with (first | (go_at_call 57; refine (HBG.out _).mono ?_; rintro e w2 ⟨rfl, rfl⟩) | (go_at_call 58; refine (HP.out _).mono ?_; rintro e w3 ⟨v, rfl, ho, hb3⟩; obtain ⟨A3, c3, rfl, hl3, hC3⟩ := Kd.R_reads ho; have HC3 := Lib.hid hC3; clear ho hC3))
        obtain ⟨ad, eA, x0⟩ := Kd.at_string HC3.out (ini.length : Int) (by omega) (by simp; omega)
        have e0 : rdOf ByteArray.empty (ini ++ [z]) (ini.length : Int) = z := by simp [rdOf]
        rw [e0, Int.toNat_natCast] at x0
        subst eA
        have d0 : decide ((ini.length : Int) < 0) = false := decide_eq_false (by omega)
        have i0 : (0 : Int) ≤ (ini.length : Int) := by omega
        have i1 : (ini.length : Int) < (ini.length : Int) + 1 := by omega
        have i2 : (ini.length : Int) ≤ (ini.length : Int) + 1 := by omega
        clear e0
        go_wp2
        go_ret3
        exact ⟨rfl, hb3⟩
      · rw [if_neg hdd] at hR
        have b2 : (z.toList == [46, 46]) = false := by simpa using hdd
        clear hdd
        obtain ⟨r, hr, hR⟩ := Option.bind_eq_some_iff.1 hR
        have hwr := walkF_wf hO true k 1 0 ini r wf1 hr
        have HW := Lib.hid (fun w4 (hT4 : TreeAt w4 p T) W g A c h1 h2 h3 => walk_calls w4.heap.size w4 g p T hT4 hO true k 1 ini A c r W h1 h2 h3 wf1 (by simp at hpl; omega) (fun x hx => Nat.le_trans (hps x (List.mem_append_left _ hx)) (by omega)) hr)
        have HT := Lib.hid hT
        have HR := Lib.hid hR
        have hzz : z.size < 4294967281 := by have := hps z (by simp); omega
        have HCK := Lib.hid (fun W => name_Check.calls z (Sp.check z.data.toList) W (by rw [name_Check.f, if_pos hzz]))
        have HKD := Lib.hid (fun W (h : TreeAt W p T) => kind_calls p T r.1 W h hwr)
        have hini : ini.length < 4294967296 := by simp at hpl; omega
        clear hT hR hr hps hwr
        obtain ⟨rn, re⟩ := r
        simp only [] at HR HKD
        go_enter Try.func26, Try.ntmps26
        go_upto_region 6 with (first | (go_at_call 57; refine (HBG.out _).mono ?_; rintro e w2 ⟨rfl, rfl⟩) | (go_at_call 58; refine (HP.out _).mono ?_; rintro e w3 ⟨v, rfl, ho, hb3⟩; obtain ⟨A3, c3, rfl, hl3, hC3⟩ := Kd.R_reads ho; have HC3 := Lib.hid hC3; clear ho hC3))
        obtain ⟨ad, eA, x0⟩ := Kd.at_string HC3.out (ini.length : Int) (by omega) (by simp; omega)
        have e0 : rdOf ByteArray.empty (ini ++ [z]) (ini.length : Int) = z := by simp [rdOf]
        rw [e0, Int.toNat_natCast] at x0
        subst eA
        have d0 : decide ((ini.length : Int) < 0) = false := decide_eq_false (by omega)
        have i0 : (0 : Int) ≤ (ini.length : Int) := by omega
        have i1 : (ini.length : Int) < (ini.length : Int) + 1 := by omega
        have i2 : (ini.length : Int) ≤ (ini.length : Int) + 1 := by omega
        clear e0
        have X0 := Lib.hid x0
        have HB3 := Lib.hid hb3
        have hct := Kd.C_take (m := ini.length) HC3.out (by simp)
        rw [List.take_left] at hct
        have HCT := Lib.hid hct
        clear hct hb3
        go_upto_region 9 with (go_at_call 62; refine (cloneS_calls _ _ ini _ HCT.out (by simp at hl3; omega) hini).mono ?_; rintro e w4 ⟨v4, rfl, ho4, hb4⟩; obtain ⟨A4, c4, rfl, hl4, hC4⟩ := Kd.R_reads ho4; have HC4 := Lib.hid hC4; have HB4 := Lib.hid (HB3.out.trans (hb4.mono HB3.out.size)); have x4 := pw_cell_below hb4 X0.out; clear ho4 hC4 hb4)
        have hk := Wk.made (p := p) HC4.out hl4
        have hB : Below w4.heap.size w4 (w4.alloc (.cells #[pT p, .int .i64 1, .int .i64 0, .slice A4 ini.length c4] 113)) := (Below.refl _ w4).alloc (Nat.le_refl _) _
        have hg : w4.heap.size ≤ w4.heap.size := Nat.le_refl _
        generalize w4.alloc (.cells #[pT p, .int .i64 1, .int .i64 0, .slice A4 ini.length c4] 113) = w5 at hk hB ⊢
        have HWK := Lib.hid (HW.out w4 (HT.out.below HB4.out) w5 w4.heap.size A4 c4 hk hB hg)
        have X4 := Lib.hid x4
        clear hk hB hg HW HC4 x0 x4 hl4 HCT
        generalize hgg : w4.heap.size = g at HWK ⊢
        have HG := Lib.hid hgg
        clear hgg
        by_cases he : re = 0
        · subst he
          rw [if_pos rfl] at HR
          by_cases hkd : (T.node rn).kind = 1
          · rw [if_pos hkd] at HR
            rw [hkd] at HKD
            clear hkd
            generalize Sp.check z.data.toList = ck at HR HCK
            by_cases hc0 : ck = 0
            · subst hc0
              rw [if_pos rfl] at HR
              have hR := Option.some.inj HR.out
              subst hR
              go_upto_region 17 with (first | (go_at_call 59; refine HWK.out.mono ?_; rintro e w6 ⟨rfl, hw6⟩; obtain ⟨hq, hb6⟩ := hw6; obtain ⟨h6, l6, A6, c6, hk6⟩ := hq rfl; have y6 := pw_cell_below hb6 X4.out; obtain ⟨c0, c1, c2, c3⟩ := hk6.cells; have HK6 := Lib.hid hk6; have HB6 := Lib.hid (HB4.out.trans (hb6.mono HB4.out.size)); clear hk6 hq) | (go_at_call 41; refine (HKD.out _ (HT.out.below HB6.out)).mono ?_; rintro e w7 ⟨rfl, hb7⟩; have y7 := pw_cell_below hb7 y6; have c17 := pw_cell_below hb7 c1; have HB7 := Lib.hid (HB6.out.trans (hb7.mono HB6.out.size))) | (go_at_call 63; refine (HCK.out _).mono ?_; rintro e w8 ⟨rfl, hb8⟩; have y8 := pw_cell_below hb8 y7; have c18 := pw_cell_below hb8 c17; have HB8 := Lib.hid (HB7.out.trans (hb8.mono HB7.out.size))))
              clear hb6 hb7 hb8 y6 y7 c0 c1 c2 c3 c17
              go_quiet (fail)
              go_wp2
              go_ret3
              exact ⟨rfl, pw_below_drewN HB8.out nq⟩
            · rw [if_neg hc0] at HR
              have b6 : (ck != 0) = true := bne_iff_ne.2 hc0
              have hR := Option.some.inj HR.out
              subst hR
              clear hc0
              go_wp2_with (first | (go_at_call 59; refine HWK.out.mono ?_; rintro e w6 ⟨rfl, hw6⟩; obtain ⟨hq, hb6⟩ := hw6; obtain ⟨h6, l6, A6, c6, hk6⟩ := hq rfl; have y6 := pw_cell_below hb6 X4.out; obtain ⟨c0, c1, c2, c3⟩ := hk6.cells; have HK6 := Lib.hid hk6; have HB6 := Lib.hid (HB4.out.trans (hb6.mono HB4.out.size)); clear hk6 hq) | (go_at_call 41; refine (HKD.out _ (HT.out.below HB6.out)).mono ?_; rintro e w7 ⟨rfl, hb7⟩; have y7 := pw_cell_below hb7 y6; have c17 := pw_cell_below hb7 c1; have HB7 := Lib.hid (HB6.out.trans (hb7.mono HB6.out.size))) | (go_at_call 63; refine (HCK.out _).mono ?_; rintro e w8 ⟨rfl, hb8⟩; have y8 := pw_cell_below hb8 y7; have c18 := pw_cell_below hb8 c17; have HB8 := Lib.hid (HB7.out.trans (hb8.mono HB7.out.size))))
              go_ret3
              exact ⟨rfl, HB8.out⟩
          · rw [if_neg hkd] at HR
            have b5 : ((T.node rn).kind != 1) = true := bne_iff_ne.2 hkd
            generalize (T.node rn).kind = kd at HKD b5
            have hR := Option.some.inj HR.out
            subst hR
            clear hkd
            go_wp2_with (first | (go_at_call 59; refine HWK.out.mono ?_; rintro e w6 ⟨rfl, hw6⟩; obtain ⟨hq, hb6⟩ := hw6; obtain ⟨h6, l6, A6, c6, hk6⟩ := hq rfl; have y6 := pw_cell_below hb6 X4.out; obtain ⟨c0, c1, c2, c3⟩ := hk6.cells; have HK6 := Lib.hid hk6; have HB6 := Lib.hid (HB4.out.trans (hb6.mono HB4.out.size)); clear hk6 hq) | (go_at_call 41; refine (HKD.out _ (HT.out.below HB6.out)).mono ?_; rintro e w7 ⟨rfl, hb7⟩; have y7 := pw_cell_below hb7 y6; have c17 := pw_cell_below hb7 c1; have HB7 := Lib.hid (HB6.out.trans (hb7.mono HB6.out.size))))
            go_ret3
            exact ⟨rfl, HB7.out⟩
        · rw [if_neg he] at HR
          have b4 : (re != 0) = true := bne_iff_ne.2 he
          have hR := Option.some.inj HR.out
          subst hR
          clear he
          go_wp2_with (go_at_call 59; refine HWK.out.mono ?_; rintro e w6 ⟨rfl, hw6⟩)
          go_ret3
          exact ⟨rfl, HB4.out.trans (hw6.2.mono HB4.out.size)⟩
  · rw [if_neg h0] at hR
    have hR := Option.some.inj hR
    subst hR
    have b3 : (beginE s != 0) = true := bne_iff_ne.2 h0
    generalize beginE s = e0 at HBG b3
    clear h0 hT
    go_enter Try.func26, Try.ntmps26
    go_wp2_with (first | (go_at_call 57; refine (HBG.out _).mono ?_; rintro e w2 ⟨rfl, rfl⟩))
    go_ret3
    exact ⟨rfl, Below.refl _ _⟩
theorem spot_nil (s : ByteArray) (w : World) :
    Calls Try.prog 26 #[.pointer none, .string s] w fun e w' => e = .returned (.tuple #[.int .i64 0, .string ⟨#[]⟩, .int .i64 1]) ∧ Below w.heap.size w w' := by
  go_enter Try.func26, Try.ntmps26
  go_wp2_with (first | (go_at_call 57; refine (begin_nil _ _).mono ?_; rintro e w2 ⟨rfl, rfl⟩))
  go_ret3
  exact ⟨rfl, Below.refl _ _⟩
end Go.Proofs.Ytjfigngmpagloaa.Tw

namespace Go.Proofs.Ytjfigngmpagloaa.Ext
end Go.Proofs.Ytjfigngmpagloaa.Ext
namespace Go.Proofs.Ytjfigngmpagloaa.X
open Go.RowKit Go.Proofs.YtjfigngmpagloaaW.PrintWords Go.Proofs.YtjfigngmpagloaaW.PrintLast Go.Proofs.YtjfigngmpagloaaW.PrintMore Go.Proofs.Ytjfigngmpagloaa.Ext
attribute [local go_sem] max2_int min2_int max_two min_two max_three min_three max_four min_four   -- for this text's walks alone
set_option linter.unusedVariables false
set_option linter.unusedSimpArgs false

end Go.Proofs.Ytjfigngmpagloaa.X

namespace Go.Proofs.Ytjfigngmpagloaa.Ext
end Go.Proofs.Ytjfigngmpagloaa.Ext
namespace Go.Proofs.Ytjfigngmpagloaa.X
open Go.RowKit Go.Proofs.YtjfigngmpagloaaW.PrintWords Go.Proofs.YtjfigngmpagloaaW.PrintLast Go.Proofs.YtjfigngmpagloaaW.PrintMore Go.Proofs.Ytjfigngmpagloaa.Ext
attribute [local go_sem] max2_int min2_int max_two min_two max_three min_three max_four min_four   -- for this text's walks alone
set_option linter.unusedVariables false
set_option linter.unusedSimpArgs false

end Go.Proofs.Ytjfigngmpagloaa.X

namespace Go.Proofs.Ytjfigngmpagloaa.Tw
open Go Go.RowKit Go.Shelf Go.Proofs Go.Proofs.Ytjfigngmpagloaa Go.Proofs.YtjfigngmpagloaaW.PrintWords Go.Proofs.Ytjfigngmpagloaa.Ext Go.Proofs.Ytjfigngmpagloaa.X Go.Proofs.Ytjfigngmpagloaa.Pu
set_option linter.unusedVariables false
set_option linter.unusedSimpArgs false
theorem walk_nil (T : Tr) (lst : Bool) (k : Nat) (a h : Int) : walkF T lst (k + 1) a h [] = some (a, 0) := rfl
theorem walk_cons (T : Tr) (lst : Bool) (k : Nat) (a h : Int) (s : ByteArray) (l : List ByteArray) : walkF T lst (k + 1) a h (s :: l) =
    if (T.node a).kind ≠ 1 then some (a, 7)
    else if s.toList = [46, 46] then walkF T lst k (T.node a).up h l
    else if (downT T a s).2 ≠ 0 then some (a, (downT T a s).2)
    else if (T.node (downT T a s).1).kind ≠ 3 ∨ (l = [] ∧ lst = false) then walkF T lst k (downT T a s).1 h l
    else if 40 ≤ h then some (a, 10)
    else walkF T lst k (if slashB (T.node (downT T a s).1).data = true then 1 else a) (h + 1) (partsB (T.node (downT T a s).1).data ++ l) := rfl
end Go.Proofs.Ytjfigngmpagloaa.Tw

namespace Go.Proofs.Ytjfigngmpagloaa.Tw
open Go Go.RowKit Go.Shelf Go.Proofs Go.Proofs.Ytjfigngmpagloaa Go.Proofs.YtjfigngmpagloaaW.PrintWords Go.Proofs.Ytjfigngmpagloaa.Ext Go.Proofs.Ytjfigngmpagloaa.X Go.Proofs.Ytjfigngmpagloaa.Pu
set_option linter.unusedVariables false
set_option linter.unusedSimpArgs false
end Go.Proofs.Ytjfigngmpagloaa.Tw

namespace Go.Proofs.Ytjfigngmpagloaa.Tw
open Go Go.RowKit Go.Shelf Go.Proofs Go.Proofs.Ytjfigngmpagloaa Go.Proofs.YtjfigngmpagloaaW.PrintWords Go.Proofs.Ytjfigngmpagloaa.Ext Go.Proofs.Ytjfigngmpagloaa.X Go.Proofs.Ytjfigngmpagloaa.Pu Go.Sort
set_option linter.unusedVariables false
set_option linter.unusedSimpArgs false
end Go.Proofs.Ytjfigngmpagloaa.Tw

namespace Go.Proofs.Ytjfigngmpagloaa.Tw
open Go Go.RowKit Go.Shelf Go.Proofs Go.Proofs.Ytjfigngmpagloaa Go.Proofs.YtjfigngmpagloaaW.PrintWords Go.Proofs.Ytjfigngmpagloaa.Ext Go.Proofs.Ytjfigngmpagloaa.X Go.Proofs.Ytjfigngmpagloaa.Pu
set_option linter.unusedVariables false
set_option linter.unusedSimpArgs false
end Go.Proofs.Ytjfigngmpagloaa.Tw

namespace Go.Proofs.Ytjfigngmpagloaa.Ext
end Go.Proofs.Ytjfigngmpagloaa.Ext
namespace Go.Proofs.Ytjfigngmpagloaa.X
open Go.RowKit Go.Proofs.YtjfigngmpagloaaW.PrintWords Go.Proofs.YtjfigngmpagloaaW.PrintLast Go.Proofs.YtjfigngmpagloaaW.PrintMore Go.Proofs.Ytjfigngmpagloaa.Ext
attribute [local go_sem] max2_int min2_int max_two min_two max_three min_three max_four min_four   -- for this text's walks alone
set_option linter.unusedVariables false
set_option linter.unusedSimpArgs false

end Go.Proofs.Ytjfigngmpagloaa.X

namespace Go.Proofs.Ytjfigngmpagloaa.Tw
open Go Go.RowKit Go.Shelf Go.Proofs Go.Proofs.Ytjfigngmpagloaa Go.Proofs.YtjfigngmpagloaaW.PrintWords Go.Proofs.Ytjfigngmpagloaa.Ext Go.Proofs.Ytjfigngmpagloaa.X Go.Proofs.Ytjfigngmpagloaa.Pu
set_option linter.unusedVariables false
set_option linter.unusedSimpArgs false
end Go.Proofs.Ytjfigngmpagloaa.Tw

namespace Go.Proofs.Ytjfigngmpagloaa.Tw
open Go Go.RowKit Go.Shelf Go.Proofs Go.Proofs.Ytjfigngmpagloaa Go.Proofs.YtjfigngmpagloaaW.PrintWords Go.Proofs.Ytjfigngmpagloaa.Ext Go.Proofs.Ytjfigngmpagloaa.X Go.Proofs.Ytjfigngmpagloaa.Pu
set_option linter.unusedVariables false
set_option linter.unusedSimpArgs false
structure But (w w' : World) (k : Nat) : Prop where
  g : w.grownBy w' (some k)
  no : ∀ a s, a.block = k → w.cell? a ≠ some (.string s)
theorem But.cell {w w' : World} {k : Nat} (h : But w w' k) {a : Addr} {v : Value} (hne : a.block ≠ k) (hc : w.cell? a = some v) : w'.cell? a = some v := by
  have hlt := block_lt_of_cell hc
  rw [← hc]
  unfold World.cell?
  rw [h.g.block _ hlt (fun e => hne (Option.some.inj e))]
theorem add_block (ad : Addr) (n : Nat) : (ad.add n).block = ad.block := by unfold Addr.add; split <;> rfl
theorem EntsAt.but {w w' : World} {k : Nat} {s : Value} {l : List En} (h : EntsAt w s l) (hb : But w w' k) : EntsAt w' s l := by
  obtain ⟨A, c, e1, e2, hC⟩ := h
  refine ⟨A, c, e1, e2, hC.1, hC.2.1, fun hn => ?_⟩
  obtain ⟨ad, eA, hc⟩ := hC.2.2 hn
  refine ⟨ad, eA, fun j q hj => ?_⟩
  obtain ⟨cs, hl, hK, hq⟩ := hc j q hj
  obtain rfl := k108_open hK
  have hne : ad.block ≠ k := fun e => hb.no _ _ ((add_block ad _).trans e) (hq 0 _ rfl)
  exact ⟨_, hl, k108_mk _ _, fun i u hu => hb.cell (by rw [add_block]; exact hne) (hq i u hu)⟩
theorem RAt.but {w w' : World} {k : Nat} {v : Value} {L : List RN} {last : Int} (h : RAt w v L last) (hb : But w w' k) : RAt w' v L last := by
  obtain ⟨A, c, e1, e2, hC⟩ := h
  refine ⟨A, c, e1, e2, hC.1, hC.2.1, fun hn => ?_⟩
  obtain ⟨ad, eA, hc⟩ := hC.2.2 hn
  refine ⟨ad, eA, fun j q hj => ?_⟩
  obtain ⟨cs, hl, hK, hq⟩ := hc j q hj
  obtain rfl := k97_open hK
  have hne : ad.block ≠ k := fun e => hb.no _ _ ((add_block ad _).trans e) (hq 2 _ rfl)
  exact ⟨_, hl, k97_mk _ _, fun i u hu => hb.cell (by rw [add_block]; exact hne) (hq i u hu)⟩
theorem TreeB.but {w w' : World} {p B k : Nat} {T : Tr} (h : TreeB w p B T) (hb : But w w' k) (hp : p ≠ k) (hB : B ≠ k) : TreeB w' p B T := by
  obtain ⟨sv, D, h⟩ := h
  exact ⟨sv, D, (hb.g.block _ (blk_lt h.ptr) (fun e => hp (Option.some.inj e))).trans h.ptr, h.map.kept hb.g (fun e => hB (Option.some.inj e)), h.cnt, h.has, h.at_, fun n x hn hx => EntsAt.but (h.ents n x hn hx) hb⟩
theorem but_two {w : World} {k : Nat} {v0 v1 u0 u1 : Value} {t : TypeId} (h : w.heap[k]? = some (.cells #[v0, v1] t (0, 0))) (h0 : ∀ s, v0 ≠ .string s) (h1 : ∀ s, v1 ≠ .string s) :
    But w ((w.setCell ⟨k, 0, none⟩ u0).setCell ⟨k, 1, none⟩ u1) k := by
  refine ⟨⟨rfl, rfl, rfl, by simp, fun j _ hj => ?_⟩, ?_⟩
  · have hne : j ≠ k := fun e => hj (by rw [e])
    exact (Below.heap_setCell _ ⟨k, 1, none⟩ u1 j hne).trans (Below.heap_setCell w ⟨k, 0, none⟩ u0 j hne)
  · rintro ⟨b, o, sp⟩ s rfl
    simp only [World.cell?, h]
    split
    · simp
    · match o with
      | 0 => simpa using fun e => h0 s e
      | 1 => simpa using fun e => h1 s e
      | n + 2 => simp
end Go.Proofs.Ytjfigngmpagloaa.Tw

namespace Go.Proofs.Ytjfigngmpagloaa.Tw
open Go Go.RowKit Go.Shelf Go.Proofs Go.Proofs.Ytjfigngmpagloaa Go.Proofs.YtjfigngmpagloaaW.PrintWords Go.Proofs.Ytjfigngmpagloaa.Ext Go.Proofs.Ytjfigngmpagloaa.X Go.Proofs.Ytjfigngmpagloaa.Pu
set_option linter.unusedVariables false
set_option linter.unusedSimpArgs false
def IsI (u : Value) : Prop := ∃ m : Int, u = .int .i64 m
def OwnN (w : World) (base : Nat) (v : Value) (l : List Int) : Prop :=
  (v = .slice none 0 0 ∧ l = []) ∨
  ∃ g cap cur, v = .slice (some ⟨g, 0, none⟩) l.length cap ∧ base ≤ g ∧ w.heap[g]? = some (.cells cur 3 (0, 0)) ∧ l.length ≤ cap ∧ cap ≤ maxLen ∧ cur.size = cap ∧ cur.toList.take l.length = l.map (Value.int .i64) ∧ ∀ u ∈ cur.toList, IsI u
theorem infoI : (Try.prog.info? 3).map (fun i => (i.zero, i.size, i.bytes)) = some (some (.int .i64 0), 1, 8) := by kernel_rfl
theorem OwnN.made (W : World) (base : Nat) (hb : base ≤ W.heap.size) : OwnN (W.alloc (.cells #[] 3)) base (.slice (some ⟨W.heap.size, 0, none⟩) 0 0) [] :=
  .inr ⟨W.heap.size, 0, #[], rfl, hb, heap_alloc_new W _, Nat.le_refl _, by simp [maxLen], rfl, rfl, by simp⟩
theorem OwnN.toR {w : World} {base : Nat} {v : Value} {l : List Int} (h : OwnN w base v l) : Kd.R (Kd.int .i64) 3 w base (fun _ => True) v l := by
  refine Kd.R_of_own ?_ (fun _ _ => trivial)
  refine ⟨by simp [encs], ?_⟩
  rcases h with ⟨rfl, rfl⟩ | ⟨g, cap, cur, rfl, hb, hh, hle, hm, hc, ht, _⟩
  · exact .inl ⟨rfl, rfl⟩
  · refine .inr ⟨g, cap, cur, rfl, hb, hh, hle, hm, by omega, ?_⟩
    rw [Nat.mul_one, ht]; rfl
theorem OwnN.step {w w' : World} {base : Nat} {v : Value} {l : List Int} (h : OwnN w base v l) (hs : ∀ k cur, k < w.heap.size → w.heap[k]? = some (.cells cur 3 (0, 0)) → w'.heap[k]? = w.heap[k]?) : OwnN w' base v l := by
  rcases h with h | ⟨g, cap, cur, e, hb, hh, r⟩
  · exact .inl h
  · exact .inr ⟨g, cap, cur, e, hb, (hs g cur (blk_lt hh) hh).trans hh, r⟩
theorem OwnN.below {w w' : World} {base : Nat} {v : Value} {l : List Int} (h : OwnN w base v l) (hb : Below w.heap.size w w') : OwnN w' base v l := h.step (fun k _ hk _ => hb.block k hk)
theorem OwnN.frm {w w' : World} {p B base : Nat} {T : Tr} {v : Value} {l : List Int} (h : OwnN w base v l) (hT : TreeB w p B T) (hf : Frm w w' p B) : OwnN w' base v l := by
  obtain ⟨hp, es, clock, hB⟩ := hT.two
  refine h.step (fun k cur hk hh => hf.block k hk ?_ ?_)
  · rintro rfl
    rw [hp] at hh
    injection hh with hh
    injection hh with _ hh
    exact absurd hh (by decide)
  · rintro rfl
    rw [hB] at hh
    cases hh
theorem OwnN.but {w w' : World} {k base : Nat} {v : Value} {l : List Int} {cs : Array Value} {t : TypeId} {fr : Nat × Nat} (h : OwnN w base v l) (hk : w.heap[k]? = some (.cells cs t fr)) (ht : t ≠ 3) (hb : But w w' k) : OwnN w' base v l := by
  refine h.step (fun j cur hj hh => hb.g.block j hj ?_)
  intro e
  obtain rfl : j = k := Option.some.inj e
  rw [hk] at hh
  injection hh with hh
  injection hh with _ hh
  exact ht hh
theorem OwnN.noS {w : World} {base : Nat} {v : Value} {l : List Int} (h : OwnN w base v l) (k : Nat) (hk : v.ownBlock = some k) : ∀ a s, a.block = k → w.cell? a ≠ some (.string s) := by
  rcases h with ⟨rfl, _⟩ | ⟨g, cap, cur, rfl, hb, hh, hle, hm, hc, ht, ha⟩
  · cases hk
  · injection hk with hk
    change g = k at hk
    subst hk
    rintro ⟨b, o, sp⟩ s rfl
    simp only [World.cell?, hh]
    split
    · simp
    · intro e
      obtain ⟨m, hm⟩ := ha _ (List.mem_of_getElem? (by simpa using e))
      cases hm
theorem drewAlloc (w : World) (o : Obj) (row : Option Nat) : w.grownBy (w.drew.alloc o) row := ⟨rfl, rfl, rfl, by simp, fun k hk _ => heap_alloc_old w.drew o k hk⟩
theorem zero_is (n : Nat) : ∀ u ∈ (Builtin.zeroCells (Value.cells (.int .i64 0)) n).toList, IsI u := by
  intro u hu
  simp only [Builtin.zeroCells] at hu
  simp at hu
  obtain ⟨_, hu⟩ := hu
  have : u = .int .i64 0 := by simp [Value.cells, Nat.mod_one] at hu; exact hu.2.symm
  exact ⟨0, this⟩
theorem OwnN.append {W : World} {base : Nat} {v : Value} {l : List Int} (h : OwnN W base v l) (x : Int) (ty : TypeId) (hb : base ≤ W.heap.size) (hl : l.length < 1000000) :
    ∃ v' w', (Builtin.append_ #[91, 91] ty #[v, .slice (some ⟨W.heap.size, 0, none⟩) 1 1]).run Try.prog (W.alloc (.cells #[.int .i64 x] 3)) = .ok v' w' ∧ OwnN w' base v' (l ++ [x]) ∧ W.grownBy w' v.ownBlock := by
  obtain ⟨i0, hi, hz0, hz1, hz2⟩ := info_parts infoI
  have ht := Try.underlying91
  have hnews := cell_one_new W (.int .i64 x) 3
  have h1 : ∀ u ∈ [Value.int .i64 x], u.oneCell' = true := by intro u hu; rw [List.mem_singleton.1 hu]; rfl
  have hgr := World.grownBy_alloc W (.cells #[.int .i64 x] 3)
  rcases h with ⟨rfl, rfl⟩ | ⟨g, cap, cur, rfl, hbg, hh, hle, hm, hc, htk, ha⟩
  · have hr := run_append_nil (P := Try.prog) (W.alloc (.cells #[.int .i64 x] 3)) 91 ty 3 i0 (.int .i64 0) ht hi hz0 ⟨W.heap.size, 0, none⟩ 1 1 [.int .i64 x] (by rw [hz1]; rfl) hnews (by omega) (by omega) (by rw [hz2]; omega)
    refine ⟨_, _, hr, .inr ⟨_, _, _, rfl, ?_, heap_alloc_new _ _, ?_, ?_, ?_, ?_, ?_⟩, ?_⟩
    · show base ≤ (W.alloc _).heap.size
      simp; omega
    · exact grownCap_ge _ 1 0 _
    · exact grownCap_le_maxLen _ 1 0 _ (by simp [maxLen])
    · have := grownCap_ge (W.alloc (.cells #[.int .i64 x] 3)) 1 0 3
      simp only [Array.size_append, List.size_toArray, size_zeroCells]
      simp [Value.cells]
      omega
    · simp
    · intro u hu
      rw [Array.toList_append] at hu
      rcases List.mem_append.1 hu with hu | hu
      · exact ⟨x, by simpa using hu⟩
      · exact zero_is _ u hu
    · exact World.grownBy.trans (hgr _) (drewAlloc _ _ _)
  · have hg' : (W.alloc (.cells #[.int .i64 x] 3)).heap[g]? = some (.cells cur 3 (0, 0)) := (heap_alloc_old W _ g (blk_lt hh)).trans hh
    have hgr := World.grownBy_alloc W (.cells #[.int .i64 x] 3) (some g)
    by_cases hroom : l.length + 1 ≤ cap
    · have hr := run_append_room (P := Try.prog) (W.alloc (.cells #[.int .i64 x] 3)) 91 ty 3 i0 ht hi g l.length cap cur hg' ⟨W.heap.size, 0, none⟩ 1 1 [.int .i64 x] (by rw [hz1]; rfl) hnews h1 hroom (by rw [hz1]; simp; omega)
      rw [hz1, Nat.mul_one] at hr
      refine ⟨_, _, hr, .inr ⟨g, cap, _, by simp, hbg, setRow_heap _ g cur _ _ _ hg', by simpa using hroom, hm, ?_, ?_, ?_⟩, ?_⟩
      · have hcl : cur.toList.length = cap := by simpa using hc
        simp only [List.size_toArray, List.length_append, List.length_take, List.length_drop, hcl, List.length_singleton]
        omega
      · rw [htk, List.map_append, List.length_append]
        have e : (l.map (Value.int .i64) ++ [Value.int .i64 x]).length = l.length + 1 := by simp
        show List.take (l.length + 1) (l.map (Value.int .i64) ++ [Value.int .i64 x] ++ _) = _
        rw [← e]
        exact List.take_left
      · intro u hu
        simp only [List.mem_append] at hu
        rcases hu with (hu | hu) | hu
        · exact ha u (List.mem_of_mem_take hu)
        · exact ⟨x, by simpa using hu⟩
        · exact ha u (List.mem_of_mem_drop hu)
      · exact hgr.trans ⟨rfl, rfl, rfl, by simp [World.setRow], fun k hk hne => setRow_other _ g k _ (fun e => hne (by simp [e]))⟩
    · have holds : ∀ j u, (l.map (Value.int .i64))[j]? = some u → (W.alloc (.cells #[.int .i64 x] 3)).cell? ((⟨g, 0, none⟩ : Addr).add j) = some u := by
        intro j u hu
        rw [← htk, List.getElem?_take] at hu
        have hadd : (⟨g, 0, none⟩ : Addr).add j = ⟨g, j, none⟩ := by simp [Addr.add_lit]
        rw [hadd, cell_of_row _ g j cur _ (0, 0) hg']
        split at hu
        · simpa using hu
        · cases hu
      have hle2 : l.length ≤ cap := hle
      have hr := run_append_grow (P := Try.prog) (W.alloc (.cells #[.int .i64 x] 3)) 91 ty 3 i0 (.int .i64 0) ht hi hz0 ⟨g, 0, none⟩ l.length cap (l.map (Value.int .i64)) (by rw [hz1]; simp) holds ⟨W.heap.size, 0, none⟩ 1 1 [.int .i64 x] (by rw [hz1]; rfl) hnews (by omega) (by omega) (growslice_fits (by omega) (by rw [hz2]; omega))
      refine ⟨_, _, hr, .inr ⟨_, grownCap (W.alloc (.cells #[.int .i64 x] 3)) (l.length + 1) cap 3, _, by simp, ?_, heap_alloc_new _ _, ?_, ?_, ?_, ?_, ?_⟩, ?_⟩
      · show base ≤ (W.alloc _).heap.size
        simp; omega
      · simpa using grownCap_ge _ (l.length + 1) cap _
      · exact grownCap_le_maxLen _ (l.length + 1) cap _ (by simp [maxLen]; omega)
      · have := grownCap_ge (W.alloc (.cells #[.int .i64 x] 3)) (l.length + 1) cap 3
        simp only [Array.size_append, List.size_toArray, size_zeroCells]
        simp [Value.cells]
        omega
      · rw [Array.toList_append, Array.toList_append]
        have e : (l.map (Value.int .i64) ++ [Value.int .i64 x]).length = l.length + 1 := by simp
        show List.take (l ++ [x]).length (l.map (Value.int .i64) ++ [Value.int .i64 x] ++ _) = _
        rw [List.length_append, List.map_append]
        show List.take (l.length + 1) _ = _
        rw [← e]
        exact List.take_left
      · intro u hu
        rw [Array.toList_append, Array.toList_append] at hu
        simp only [List.mem_append] at hu
        rcases hu with (hu | hu) | hu
        · obtain ⟨m, _, rfl⟩ := List.mem_map.1 hu
          exact ⟨m, rfl⟩
        · exact ⟨x, by simpa using hu⟩
        · exact zero_is _ u hu
      · exact hgr.trans (drewAlloc _ _ _)
theorem OwnN.blk {w : World} {base : Nat} {v : Value} {l : List Int} (h : OwnN w base v l) (k : Nat) (hk : v.ownBlock = some k) : base ≤ k ∧ ∃ cur, w.heap[k]? = some (.cells cur 3 (0, 0)) := by
  rcases h with ⟨rfl, _⟩ | ⟨g, cap, cur, rfl, hb, hh, _⟩
  · cases hk
  · injection hk with hk
    change g = k at hk
    subst hk
    exact ⟨hb, cur, hh⟩
theorem TreeB.app {w w' : World} {p B base : Nat} {T : Tr} {v : Value} {l : List Int} (h : TreeB w p B T) (hN : OwnN w base v l) (hg : w.grownBy w' v.ownBlock) : TreeB w' p B T := by
  cases hk : v.ownBlock with
  | none => rw [hk] at hg; exact h.below ⟨hg.os, hg.tape, hg.output, hg.size, fun k hk => hg.block k hk (by simp)⟩
  | some k =>
    rw [hk] at hg
    obtain ⟨_, cur, hc⟩ := hN.blk k hk
    obtain ⟨hp, es, clock, hB⟩ := h.two
    refine h.but ⟨hg, hN.noS k hk⟩ ?_ ?_
    · rintro rfl
      rw [hp] at hc
      injection hc with hc
      injection hc with _ hc
      exact absurd hc (by decide)
    · rintro rfl
      rw [hB] at hc
      cases hc
theorem RAt.app {w w' : World} {base : Nat} {u v : Value} {L : List RN} {last : Int} {l : List Int} (h : RAt w u L last) (hN : OwnN w base v l) (hg : w.grownBy w' v.ownBlock) : RAt w' u L last := by
  cases hk : v.ownBlock with
  | none => rw [hk] at hg; exact h.below ⟨hg.os, hg.tape, hg.output, hg.size, fun k hk => hg.block k hk (by simp)⟩
  | some k => rw [hk] at hg; exact h.but ⟨hg, hN.noS k hk⟩
theorem cells_app {w w' : World} {base k : Nat} {v : Value} {l : List Int} {cs : Array Value} {t : TypeId} {fr : Nat × Nat} (h : w.heap[k]? = some (.cells cs t fr)) (ht : t ≠ 3) (hN : OwnN w base v l) (hg : w.grownBy w' v.ownBlock) : w'.heap[k]? = some (.cells cs t fr) := by
  refine (hg.block k (blk_lt h) (fun e => ?_)).trans h
  obtain ⟨_, cur, hc⟩ := hN.blk k e.symm
  rw [h] at hc
  injection hc with hc
  injection hc with _ hc
  exact ht hc
theorem below_app {w0 w w' : World} {base : Nat} {v : Value} {l : List Int} (hB : Below base w0 w) (hN : OwnN w base v l) (hb : base ≤ w.heap.size) (hg : w.grownBy w' v.ownBlock) : Below base w0 w' := hB.grown hg hb (fun k hk => (hN.blk k hk).1)
theorem two_set {w : World} {k : Nat} {v0 v1 u0 u1 : Value} {t : TypeId} (h : w.heap[k]? = some (.cells #[v0, v1] t (0, 0))) : ((w.setCell ⟨k, 0, none⟩ u0).setCell ⟨k, 1, none⟩ u1).heap[k]? = some (.cells #[u0, u1] t (0, 0)) := by
  have k1 : (w.setCell ⟨k, 0, none⟩ u0).heap[k]? = some (.cells #[u0, v1] t (0, 0)) := by rw [setCell_eq_setRow w _ 0 _ _ _ _ h, setRow_heap w _ _ _ _ _ h]; rfl
  rw [setCell_eq_setRow _ _ 1 _ _ _ _ k1, setRow_heap _ _ _ _ _ _ k1]; rfl
section
variable {ops : Array Oper} {rest : List Oper} {o : Oper} {a : Act} {Q : Exit → Act → World → Prop}
theorem wpList_append_ints {W : World} (hgd : o.guard = none) (s x : Operand) (ho : o.op = .call { callee := .builtin .append, args := #[s, x], argTypes := #[91, 91] }) (base : Nat) (v : Value) (l : List Int) (n : Int) (hs : a.eval s = v) (hx : a.eval x = .slice (some ⟨W.heap.size, 0, none⟩) 1 1)
    (HO : OwnN W base v l) (hb : base ≤ W.heap.size) (hl : l.length < 1000000)
    (h : ∀ v' w', OwnN w' base v' (l ++ [n]) → W.grownBy w' v.ownBlock → wpList Try.prog ops Q rest (a.put o.dst v') w') :
    wpList Try.prog ops Q (o :: rest) a (W.alloc (.cells #[.int .i64 n] 3)) := by
  obtain ⟨v', w', hr, h2, h3⟩ := HO.append n o.type hb hl
  refine wpList_plain hgd fun K hK => ?_
  have hw := h v' w' h2 h3
  unfold Oper.wp execOp
  simp only [ho, resolve, invoke, builtin, Sem.run_bind, Sem.run_pure, Result.andThen_ok, List.map_toArray, List.map_cons, List.map_nil, hs, hx, hr]
  exact hK _ _ hw
end
end Go.Proofs.Ytjfigngmpagloaa.Tw

namespace Go.Proofs.Ytjfigngmpagloaa.Tw
open Go Go.RowKit Go.Shelf Go.Proofs Go.Proofs.Ytjfigngmpagloaa Go.Proofs.YtjfigngmpagloaaW.PrintWords Go.Proofs.Ytjfigngmpagloaa.Ext Go.Proofs.Ytjfigngmpagloaa.X Go.Proofs.Ytjfigngmpagloaa.Pu
set_option linter.unusedVariables false
set_option linter.unusedSimpArgs false
structure MW (w wr : World) (p B r : Nat) (v6 : Value) (st : MSt) : Prop where
  hb : Below w.heap.size w wr
  tree : TreeB wr p B (trOf st.L st.last)
  hp : w.heap.size ≤ p
  hB : w.heap.size ≤ B
  hr : w.heap.size < r
  cell : ∃ A c, wr.heap[r]? = some (.cells #[.slice A st.L.length c, .int .i64 st.last] 28 (0, 0)) ∧ st.L.length ≤ c ∧ Kd.C k97 wr A st.L.length st.L
  nums : OwnN wr w.heap.size v6 st.nums
  res : wr.heap[w.heap.size]? = some (.cells #[.slice none 0 0, .int .i64 0] 28 (0, 0))
theorem made_round {w w8 w9 : World} {p B r : Nat} {A7 : Option Addr} {c7 : Nat} {L7 : List RN} {n7 : Int} {v : Value} {l : List Int} {T : Tr}
    (F : TreeB w8 p B T ∧ RAt w8 (.agg #[.slice A7 L7.length c7, .int .i64 n7]) L7 n7 ∧ OwnN w8 w.heap.size v l ∧ w8.heap[w.heap.size]? = some (.cells #[.slice none 0 0, .int .i64 0] 28 (0, 0)) ∧ w8.heap[r]? = some (.cells #[.slice A7 L7.length c7, .int .i64 n7] 28 (0, 0)) ∧ Below w.heap.size w w8) (hle : L7.length ≤ c7) (hg : w8.grownBy w9 v.ownBlock) :
    Below w.heap.size w w9 ∧ TreeB w9 p B T ∧ w9.heap[r]? = some (.cells #[.slice A7 L7.length c7, .int .i64 n7] 28 (0, 0)) ∧ L7.length ≤ c7 ∧ Kd.C k97 w9 A7 L7.length L7 ∧ w9.heap[w.heap.size]? = some (.cells #[.slice none 0 0, .int .i64 0] 28 (0, 0)) := by
  obtain ⟨hT, hR, hN, hS, hc, hB⟩ := F
  obtain ⟨A', c', e, h1, h2⟩ := hR.app hN hg
  simp only [Value.agg.injEq, Array.mk.injEq, List.cons.injEq, Value.slice.injEq, true_and, and_true] at e
  obtain ⟨rfl, rfl⟩ := e
  exact ⟨below_app hB hN hB.size hg, hT.app hN hg, cells_app hc (by decide) hN hg, h1, h2, cells_app hS (by decide) hN hg⟩
set_option maxHeartbeats 2000000 in
set_option maxRecDepth 1000000 in
theorem made_calls (A : Option Addr) (c : Nat) (l : List MN) (w : World) (hC : Kd.C k89 w A l.length l) (hc : l.length ≤ c) (hl : l.length ≤ 60) (hs : ∀ x ∈ l, x.f1.size < 4294967281) :
    Calls Try.prog 12 #[.slice A l.length c] w fun e w' => ∃ p B v, e = .returned (.tuple #[pT p, v]) ∧ TreeB w' p B (trOf (madeF l).L (madeF l).last) ∧ RAt w' v (madeF l).L (madeF l).last ∧ Below w.heap.size w w' ∧ w.heap.size ≤ p ∧ w.heap.size ≤ B := by
  have HC := Lib.hid hC
  have HS := Lib.hid hs
  have HN := Lib.hid (fun W => new_calls W)
  have HRN := Lib.hid (fun W => linhayref07_New.calls [⟨1, 1, ⟨#[]⟩, 1, ⟨#[]⟩⟩] 1 W rfl)
  clear hC hs
  go_enter Try.func12, Try.ntmps12
  go_wp2_with (first | (go_at_call 45; refine (HN.out _).mono ?_; rintro e w2 ⟨p, B, rfl, hT2, hb2, hp2, hB2⟩) | (go_at_call 43; refine (HRN.out _).mono ?_; rintro e w3 ⟨v3, rfl, ho3, hb3⟩; obtain ⟨A3, c3, rfl, hle3, hC3⟩ := Kd.R_reads ho3))
  have hM0 : MW w ((w3.alloc (.cells #[.slice A3 1 c3, .int .i64 1] 28)).alloc (.cells #[] 3)) p B w3.heap.size (.slice (some ⟨w3.heap.size + 1, 0, none⟩) 0 0) made0 := by
    have hb0 := (Below.refl w.heap.size w).alloc (Nat.le_refl _) (.cells #[.slice none 0 0, .int .i64 0] 28)
    have hsz0 : w.heap.size + 1 = (w.alloc (.cells #[.slice none 0 0, .int .i64 0] 28)).heap.size := by simp
    have hbA := below_two w3 (.cells #[.slice A3 1 c3, .int .i64 1] 28) (.cells #[] 3)
    have hb3' : Below w.heap.size w w3 := (hb0.trans (hb2.mono (by omega))).trans (hb3.mono (Nat.le_trans (by omega) hb2.size))
    have hle : w.heap.size + 1 ≤ w3.heap.size := Nat.le_trans (Nat.le_trans (by omega) hb2.size) hb3.size
    have h1 := heap_alloc_new w (.cells #[.slice none 0 0, .int .i64 0] 28)
    refine ⟨hb3'.trans (hbA.mono hb3'.size), by
      have := (hT2.below hb3).below hbA
      rw [T0_eq] at this
      exact this, by omega, by omega, by omega, ⟨A3, c3, ?_, hle3, Kd.C_below hC3 hbA⟩, ?_, ?_⟩
    · exact (((Below.refl _ (w3.alloc (.cells #[.slice A3 1 c3, .int .i64 1] 28))).alloc (Nat.le_refl _) (.cells #[] 3)).block w3.heap.size (by simp)).trans (heap_alloc_new w3 _)
    · have := OwnN.made (w3.alloc (.cells #[.slice A3 1 c3, .int .i64 1] 28)) w.heap.size (by simp; omega)
      simpa [made0] using this
    · exact (hbA.block _ (by omega)).trans ((hb3.block _ (by have := hb2.size; omega)).trans ((hb2.block _ (by omega)).trans h1))
  have HM0 := Aside0.mk hM0
  clear hM0 hb2 hb3 hT2 hp2 hB2 ho3 hle3 hC3
  go_loopw [6, 7] (fun v6 v7 wr => ∃ i : Nat, v7 = .int .i64 (i : Int) ∧ i ≤ l.length ∧ MW w wr p B w3.heap.size v6 ((l.take i).foldl madeStep made0) ∧ MInv ((l.take i).foldl madeStep made0) i) (fun _ v _ => l.length - (intOf v).toNat)
  case atStart => exact ⟨0, rfl, Nat.zero_le _, HM0.out, minv0⟩
  case round =>
    obtain ⟨i, rfl, hi, hM, hI⟩ := hrel
    have HM := Aside0.mk hM
    have HI := Aside0.mk hI
    by_cases hlt : i < l.length
    · obtain ⟨ad, eA, a0, a1, a2, a3⟩ := at_T89 (Kd.C_below HC.out hM.hb) (i : Int) (by omega) (by omega)
      have hrd : rd_T89 l (i : Int) = l[i] := by simp [rd_T89, hlt]
      rw [hrd] at a0 a1 a2 a3
      rw [Int.toNat_natCast] at a0 a1 a2 a3
      subst eA
      have hsz := HS.out l[i] (List.getElem_mem hlt)
      have htk : (l.take (i + 1)).foldl madeStep made0 = madeStep ((l.take i).foldl madeStep made0) l[i] := by
        rw [List.take_succ_eq_append_getElem hlt, List.foldl_append]; rfl
      have HTK := Lib.hid htk
      have HRD := Lib.hid hrd
      clear htk hrd
      generalize (l.take i).foldl madeStep made0 = st at *
      generalize l[i] = x at *
      obtain ⟨A5, c5, hcl, hle5, hC5⟩ := hM.cell
      obtain ⟨A6, c6, rfl, hle6, hC6⟩ := Kd.R_reads hM.nums.toR
      have hlen := hI.len
      have hlt' : (i : Int) < (l.length : Int) := by omega
      have hi0 : (0 : Int) ≤ (i : Int) := by omega
      have HCL := Aside0.mk (And.intro hcl (And.intro hle5 hC5))
      have HARG := Lib.hid (fun (W : World) (h : Below w.heap.size w W) => show W.cell? ⟨(ad.add (i * 4)).block, (ad.add (i * 4)).off + 1, none⟩ = some (.string x.f1) ∧ W.cell? ⟨(ad.add (i * 4)).block, (ad.add (i * 4)).off + 2, none⟩ = some (.int .i64 x.f2) ∧ W.cell? ⟨(ad.add (i * 4)).block, (ad.add (i * 4)).off + 3, none⟩ = some (.string x.f3) by
        obtain ⟨ad', e', b0, b1, b2, b3⟩ := at_T89 (Kd.C_below HC.out h) (i : Int) hi0 hlt'
        cases e'
        rw [Int.toNat_natCast, HRD.out] at b0 b1 b2 b3
        exact ⟨b1, b2, b3⟩)
      have hdin := dirAt_in HI.out x
      have hla : st.last < 1000000 := by have := HI.out.last; omega
      have HPT := Lib.hid (fun W h => tput_calls p B st.L st.last (dirAt st.nums x) x.f1 x.f2 x.f3 W h HI.out.good (wf_of (by omega)) hsz hla)
      have HRP := Lib.hid (fun v W h => rput_calls st.L st.last (dirAt st.nums x) v x.f1 x.f2 x.f3 W h HI.out.good hla)
      have HSTEP := Lib.hid (show madeStep st x = ⟨putL st.L st.last (dirAt st.nums x) x.f1 x.f2 x.f3, putN st.L st.last (dirAt st.nums x) x.f1 x.f2 x.f3, st.nums ++ [putA st.L st.last (dirAt st.nums x) x.f1 x.f2 x.f3]⟩ from rfl)
      have hdir0 : dirAt st.nums x = (if 0 ≤ x.f0 ∧ x.f0 < (i : Int) then st.nums.getD x.f0.toNat 0 else 1) := by
        unfold dirAt; rw [hlen]
      generalize putL st.L st.last (dirAt st.nums x) x.f1 x.f2 x.f3 = L7 at HPT HRP HSTEP
      generalize putN st.L st.last (dirAt st.nums x) x.f1 x.f2 x.f3 = n7 at HPT HRP HSTEP
      generalize putA st.L st.last (dirAt st.nums x) x.f1 x.f2 x.f3 = m7 at HPT HRP HSTEP
      generalize putRE st.L (dirAt st.nums x) x.f1 x.f2 x.f3 = e7 at HPT HRP
      have HNL := Lib.hid hlen
      by_cases hd : 0 ≤ x.f0 ∧ x.f0 < (i : Int)
      case' pos =>
        obtain ⟨d0, d1⟩ := hd
        obtain ⟨a6, eA6, n0⟩ := Kd.at_int hC6 x.f0 d0 (by omega)
        have hdir : dirAt st.nums x = rd st.nums x.f0 := by
          rw [hdir0, if_pos ⟨d0, d1⟩]; rfl
        have d2 : x.f0 < (st.nums.length : Int) := by omega
        rw [← hdir] at n0
        subst eA6
        clear hdir
      case' neg =>
        have hdir : dirAt st.nums x = 1 := by rw [hdir0, if_neg hd]
        rw [hdir] at HPT HRP
        have hd2 : x.f0 < 0 ∨ ((0 : Int) ≤ x.f0 ∧ (i : Int) ≤ x.f0) := by omega
        clear hdir hd
        rcases hd2 with hd2 | ⟨hd2, hd3⟩
      all_goals
        clear hM hI hcl hle5 hC5 hC6 hdin hla hsz hlen hdir0
        go_upto_region 9 with (fail)
        go_region_held3 (fun w' => w'.cell? ⟨(ad.add (i * 4)).block, (ad.add (i * 4)).off + 1, none⟩ = some (.string x.f1) ∧ w'.cell? ⟨(ad.add (i * 4)).block, (ad.add (i * 4)).off + 2, none⟩ = some (.int .i64 x.f2) ∧ w'.cell? ⟨(ad.add (i * 4)).block, (ad.add (i * 4)).off + 3, none⟩ = some (.string x.f3)) (first | (go_keep; done) | exact HA5.out)
          ((go_at_call 46; refine (HPT.out _ (by first | exact HM.out.tree | exact HM.out.tree.drew | exact HM.out.tree.below (pw_below_drewN (Below.refl _ _) _))).mono ?_; rintro e w5 ⟨rfl, hT5, hf5⟩; have hf5' : Frm wr w5 p B := (by first | exact hf5 | exact (Frm.ofBelow (below_drew (Below.refl _ wr))).trans hf5 | exact (Frm.ofBelow (pw_below_drewN (Below.refl _ wr) _)).trans hf5); have HB5 := Aside0.mk (HM.out.hb.trans (Frm.below hf5' HM.out.hb.size HM.out.hp HM.out.hB)); have HA5 := Lib.hid (HARG.out w5 HB5.out)))
        obtain ⟨hcl, hle5, hC5⟩ := HCL.out
        have hcl5 := cells_frm hcl (by decide) HM.out.tree hf5'
        have hR5 : RAt w5 (.agg #[.slice A5 st.L.length c5, .int .i64 st.last]) st.L st.last := RAt.frm ⟨A5, c5, rfl, hle5, hC5⟩ HM.out.tree hf5'
        have hN5 := HM.out.nums.frm HM.out.tree hf5'
        have hS5 := cells_frm HM.out.res (by decide) HM.out.tree hf5'
        have r0 : w5.cell? ⟨w3.heap.size, 0, none⟩ = some (.slice A5 st.L.length c5) := by rw [blk_cell hcl5]; rfl
        have r1 : w5.cell? ⟨w3.heap.size, 1, none⟩ = some (.int .i64 st.last) := by rw [blk_cell hcl5]; rfl
        obtain ⟨b1, b2, b3⟩ := HA5.out
        have hrlt : w3.heap.size < w5.heap.size := blk_lt hcl5
        have HK5 := Lib.hid (fun (W : World) (h : Below w5.heap.size w5 W) => show W.cell? ⟨w3.heap.size, 0, none⟩ = some (.slice A5 st.L.length c5) ∧ W.cell? ⟨w3.heap.size, 1, none⟩ = some (.int .i64 st.last) ∧ W.cell? ⟨(ad.add (i * 4)).block, (ad.add (i * 4)).off + 1, none⟩ = some (.string x.f1) ∧ W.cell? ⟨(ad.add (i * 4)).block, (ad.add (i * 4)).off + 2, none⟩ = some (.int .i64 x.f2) ∧ W.cell? ⟨(ad.add (i * 4)).block, (ad.add (i * 4)).off + 3, none⟩ = some (.string x.f3) from ⟨pw_cell_below h r0, pw_cell_below h r1, pw_cell_below h b1, pw_cell_below h b2, pw_cell_below h b3⟩)
        have HF5 := Aside0.mk (And.intro hcl5 (And.intro hR5 (And.intro hN5 (And.intro hS5 hT5))))
        have HP := Aside0.mk (And.intro HM.out.hp (And.intro HM.out.hB HM.out.hr))
        clear hcl hle5 hC5 hcl5 hR5 hN5 hS5 hT5 hf5 hf5' HM HCL HARG HA5 HPT a0 a1 a2 a3
        go_upto_region 10 with (fail)
        go_region_held3 (fun w' => w'.cell? ⟨w3.heap.size, 0, none⟩ = some (.slice A5 st.L.length c5) ∧ w'.cell? ⟨w3.heap.size, 1, none⟩ = some (.int .i64 st.last) ∧ w'.cell? ⟨(ad.add (i * 4)).block, (ad.add (i * 4)).off + 1, none⟩ = some (.string x.f1) ∧ w'.cell? ⟨(ad.add (i * 4)).block, (ad.add (i * 4)).off + 2, none⟩ = some (.int .i64 x.f2) ∧ w'.cell? ⟨(ad.add (i * 4)).block, (ad.add (i * 4)).off + 3, none⟩ = some (.string x.f3)) (first | (go_keep; done) | exact HK5.out _ hb56 | exact HK5.out _ (hb56.alloc hb56.size _) | exact HK5.out _ (hb56.setCell (p := ⟨w5.heap.size, 0, none⟩) (Nat.le_refl _) _) | exact HK5.out _ ((hb56.setCell (p := ⟨w5.heap.size, 0, none⟩) (Nat.le_refl _) _).setCell (p := ⟨w5.heap.size, 1, none⟩) (Nat.le_refl _) _))
          ((go_at_call 47; refine (HRP.out _ _ (by first | exact HF5.out.2.1 | exact HF5.out.2.1.below (below_drew (Below.refl _ _)) | exact HF5.out.2.1.below (below_drew ((Below.refl _ w5).alloc (Nat.le_refl _) _)) | exact HF5.out.2.1.below ((Below.refl _ w5).alloc (Nat.le_refl _) _) | exact HF5.out.2.1.below (pw_below_drewN (Below.refl _ _) _) | exact HF5.out.2.1.below (pw_below_drewN ((Below.refl _ w5).alloc (Nat.le_refl _) _) _))).mono ?_; rintro e w6 ⟨v', rfl, ⟨A7, c7, rfl, hle7, hC7⟩, hb6⟩; have hb56 : Below w5.heap.size w5 w6 := (by first | exact (below_drew (Below.refl _ w5)).trans hb6 | exact (below_drew ((Below.refl _ w5).alloc (Nat.le_refl _) _)).trans (hb6.mono (by simp)) | exact (pw_below_drewN (Below.refl _ w5) _).trans hb6 | exact (pw_below_drewN ((Below.refl _ w5).alloc (Nat.le_refl _) _) _).trans (hb6.mono (by simp))); have HC7 := Aside0.mk hC7; clear hC7; (first | (have h9 := (hb6.block w5.heap.size (by simp)).trans (heap_alloc_new w5 _); have x90 : w6.cell? ⟨w5.heap.size, 0, none⟩ = some (.slice none 0 0) := (by rw [blk_cell h9]; rfl); have x91 : w6.cell? ⟨w5.heap.size, 1, none⟩ = some (.int .i64 0) := (by rw [blk_cell h9]; rfl); have f90 := blk_frozen h9 0; have f91 := blk_frozen h9 1; have H9 := Aside0.mk h9; clear h9) | skip)))
        all_goals first
          | (have h9' := H9.out; have hR7 : RAt ((w6.setCell ⟨w5.heap.size, 0, none⟩ (.slice A7 L7.length c7)).setCell ⟨w5.heap.size, 1, none⟩ (.int .i64 n7)) (.agg #[.slice A7 L7.length c7, .int .i64 n7]) L7 n7 := RAt.but ⟨A7, c7, rfl, hle7, HC7.out⟩ (but_two h9' (by simp) (by simp)); have hb57 : Below w5.heap.size w5 ((w6.setCell ⟨w5.heap.size, 0, none⟩ (.slice A7 L7.length c7)).setCell ⟨w5.heap.size, 1, none⟩ (.int .i64 n7)) := (hb56.setCell (p := ⟨w5.heap.size, 0, none⟩) (Nat.le_refl _) _).setCell (p := ⟨w5.heap.size, 1, none⟩) (Nat.le_refl _) _; have h7 := two_set (u0 := .slice A7 L7.length c7) (u1 := .int .i64 n7) h9'; have hgr : w3.heap.size < w5.heap.size := hrlt; clear x90 x91 f90 f91 H9 h9'; generalize (w6.setCell ⟨w5.heap.size, 0, none⟩ (.slice A7 L7.length c7)).setCell ⟨w5.heap.size, 1, none⟩ (.int .i64 n7) = w7 at hR7 hb57 h7 ⊢; generalize w5.heap.size = g at h7 hgr ⊢)
          | (have hb57 : Below w5.heap.size w5 (w6.alloc (.cells #[.slice A7 L7.length c7, .int .i64 n7] 28)) := hb56.alloc hb56.size _; have hR7 : RAt (w6.alloc (.cells #[.slice A7 L7.length c7, .int .i64 n7] 28)) (.agg #[.slice A7 L7.length c7, .int .i64 n7]) L7 n7 := RAt.below ⟨A7, c7, rfl, hle7, HC7.out⟩ ((Below.refl _ w6).alloc (Nat.le_refl _) _); have h7 := heap_alloc_new w6 (.cells #[.slice A7 L7.length c7, .int .i64 n7] 28); have hgr : w3.heap.size < w6.heap.size := Nat.lt_of_lt_of_le hrlt hb56.size; generalize w6.alloc (.cells #[.slice A7 L7.length c7, .int .i64 n7] 28) = w7 at hR7 hb57 h7 ⊢; generalize w6.heap.size = g at h7 hgr ⊢)
        all_goals
          obtain ⟨hcl5, hR5, hN5, hS5, hT5⟩ := HF5.out
          have hcl7 := (hb57.block _ hrlt).trans hcl5
          have hS7 := (hb57.block _ (blk_lt hS5)).trans hS5
          have hN7 := hN5.below hb57
          have hT7 := hT5.below hb57
          have hB7 := HB5.out.trans (hb57.mono HB5.out.size)
          have y0 : w7.cell? ⟨g, 0, none⟩ = some (.slice A7 L7.length c7) := by rw [blk_cell h7]; rfl
          have y1 : w7.cell? ⟨g, 1, none⟩ = some (.int .i64 n7) := by rw [blk_cell h7]; rfl
          have z0 : w7.cell? ⟨w3.heap.size, 0, none⟩ = some (.slice A5 st.L.length c5) := by rw [blk_cell hcl7]; rfl
          have z1 : w7.cell? ⟨w3.heap.size, 1, none⟩ = some (.int .i64 st.last) := by rw [blk_cell hcl7]; rfl
          have f0 := blk_frozen hcl7 0
          have f1 := blk_frozen hcl7 1
          have hgne : g ≠ w3.heap.size := by omega
          have hpne : p ≠ w3.heap.size := by
            rintro rfl
            have h1 := hcl7
            rw [hT7.two.1] at h1
            injection h1 with h1
            injection h1 with _ h1
            exact absurd h1 (by decide)
          have hBne : B ≠ w3.heap.size := by
            rintro rfl
            have h1 := hcl7
            obtain ⟨_, es, ck, h2⟩ := hT7.two
            rw [h2] at h1
            cases h1
          have hbut := but_two (u0 := .slice A7 L7.length c7) (u1 := .int .i64 n7) hcl7 (by simp) (by simp)
          have hT8 := hT7.but hbut hpne hBne
          have hR8 := RAt.but hR7 hbut
          have hN8 := hN7.but hcl7 (by decide) hbut
          have hS8 := (hbut.g.block _ (blk_lt hS7) (fun e => by have := Option.some.inj e; have := HP.out.2.2; omega)).trans hS7
          have hcl8 := two_set (u0 := .slice A7 L7.length c7) (u1 := .int .i64 n7) hcl7
          have hB8 := (hB7.setCell (p := ⟨w3.heap.size, 0, none⟩) (Nat.le_of_lt HP.out.2.2) (.slice A7 L7.length c7)).setCell (p := ⟨w3.heap.size, 1, none⟩) (Nat.le_of_lt HP.out.2.2) (.int .i64 n7)
          have F8 := Aside0.mk (And.intro hT8 (And.intro hR8 (And.intro hN8 (And.intro hS8 (And.intro hcl8 hB8)))))
          clear hcl5 hR5 hN5 hS5 hT5 hS7 hN7 hT7 hT8 hR8 hN8 hS8 hcl8 hB8 hbut hcl7 h7 hR7 hb57 hB7 hpne hBne hb6 HC7 r0 r1 b1 b2 b3 HF5 HK5
          go_upto_region 12 with (fail)
          generalize (w7.setCell ⟨w3.heap.size, 0, none⟩ (.slice A7 L7.length c7)).setCell ⟨w3.heap.size, 1, none⟩ (.int .i64 n7) = w8 at F8 ⊢
          clear y0 y1 z0 z1 f0 f1
          go_wp2_with ((with_reducible refine gate_builtin (b := .append) (xs := #[.tmp 85, .tmp 87]) rfl ?_); at_builtin; refine wpList_append_ints rfl (.tmp 85) (.tmp 87) rfl w.heap.size _ st.nums m7 rfl rfl F8.out.2.2.1 F8.out.2.2.2.2.2.size (by have := HNL.out; omega) ?_; intro v9 w9 ho9 hg9)
          have HO9 := Aside0.mk ho9
          have F9 := made_round F8.out hle7 hg9
          have HF9 := Aside0.mk F9
          clear ho9 hg9 F9
          go_roundw
          case rel =>
            refine ⟨i + 1, by go_num, hlt, ?_, ?_⟩
            · rw [HTK.out, HSTEP.out]
              obtain ⟨g1, g2, g3, g4, g5, g6⟩ := HF9.out
              exact ⟨g1, g2, HP.out.1, HP.out.2.1, HP.out.2.2, ⟨A7, c7, g3, g4, g5⟩, HO9.out, g6⟩
            · rw [HTK.out]; exact minv_step HI.out x
          case measure => simp [intOf]; omega
    · obtain rfl : i = l.length := by omega
      rw [List.take_length] at hM hI
      obtain ⟨A5, c5, hcl, hle5, hC5⟩ := hM.cell
      change wr.heap[w3.heap.size]? = some (.cells #[.slice A5 (madeF l).L.length c5, .int .i64 (madeF l).last] _ (0, 0)) at hcl
      change (madeF l).L.length ≤ c5 at hle5
      change Kd.C _ wr A5 (madeF l).L.length (madeF l).L at hC5
      have HT := Aside0.mk (show TreeB wr p B (trOf (madeF l).L (madeF l).last) from hM.tree)
      have HX := Aside0.mk (And.intro hle5 hC5)
      have HP := Aside0.mk (And.intro hM.hp hM.hB)
      have HBB := Aside0.mk hM.hb
      have HRES := Aside0.mk hM.res
      have x0 : wr.cell? ⟨w3.heap.size, 0, none⟩ = some (.slice A5 (madeF l).L.length c5) := by rw [blk_cell hcl]; rfl
      have x1 : wr.cell? ⟨w3.heap.size, 1, none⟩ = some (.int .i64 (madeF l).last) := by rw [blk_cell hcl]; rfl
      have y0 : wr.cell? ⟨w.heap.size, 0, none⟩ = some (.slice none 0 0) := by rw [blk_cell hM.res]; rfl
      have y1 : wr.cell? ⟨w.heap.size, 1, none⟩ = some (.int .i64 0) := by rw [blk_cell hM.res]; rfl
      have f0 := blk_frozen hM.res 0
      have f1 := blk_frozen hM.res 1
      have hbut := but_two (u0 := .slice A5 (madeF l).L.length c5) (u1 := .int .i64 (madeF l).last) hM.res (by simp) (by simp)
      have hpne : p ≠ w.heap.size := by
        rintro rfl
        have h1 := hM.res
        rw [hM.tree.two.1] at h1
        injection h1 with h1
        injection h1 with _ h1
        exact absurd h1 (by decide)
      have hBne : B ≠ w.heap.size := by
        rintro rfl
        have h1 := hM.res
        obtain ⟨_, es, ck, h2⟩ := hM.tree.two
        rw [h2] at h1
        cases h1
      have hT9 := HT.out.but hbut hpne hBne
      have hR9 : RAt ((wr.setCell ⟨w.heap.size, 0, none⟩ (.slice A5 (madeF l).L.length c5)).setCell ⟨w.heap.size, 1, none⟩ (.int .i64 (madeF l).last)) (.agg #[.slice A5 (madeF l).L.length c5, .int .i64 (madeF l).last]) (madeF l).L (madeF l).last := RAt.but ⟨A5, c5, rfl, hle5, hC5⟩ hbut
      have hB9 : Below w.heap.size w ((wr.setCell ⟨w.heap.size, 0, none⟩ (.slice A5 (madeF l).L.length c5)).setCell ⟨w.heap.size, 1, none⟩ (.int .i64 (madeF l).last)) := (hM.hb.setCell (Nat.le_refl _) _).setCell (Nat.le_refl _) _
      have k2 : ((wr.setCell ⟨w.heap.size, 0, none⟩ (.slice A5 (madeF l).L.length c5)).setCell ⟨w.heap.size, 1, none⟩ (.int .i64 (madeF l).last)).heap[w.heap.size]? = some (.cells #[.slice A5 (madeF l).L.length c5, .int .i64 (madeF l).last] 28 (0, 0)) := by
        have k1 : (wr.setCell ⟨w.heap.size, 0, none⟩ (.slice A5 (madeF l).L.length c5)).heap[w.heap.size]? = some (.cells #[.slice A5 (madeF l).L.length c5, .int .i64 0] 28 (0, 0)) := by rw [setCell_eq_setRow wr _ 0 _ _ _ _ hM.res, setRow_heap wr _ _ _ _ _ hM.res]; rfl
        rw [setCell_eq_setRow _ _ 1 _ _ _ _ k1, setRow_heap _ _ _ _ _ _ k1]; rfl
      have FIN := Aside0.mk (And.intro hT9 (And.intro hR9 (And.intro hB9 (And.intro k2 (And.intro hM.hp hM.hB)))))
      clear hM hI hcl hle5 hC5 hbut hpne hBne hT9 hR9 hB9 k2 HT HX HP HBB HRES
      go_wp2
      go_region
      go_wp2
      obtain ⟨hT9, hR9, hB9, k2, hp9, hBB9⟩ := FIN.out
      generalize (wr.setCell ⟨w.heap.size, 0, none⟩ (.slice A5 (madeF l).L.length c5)).setCell ⟨w.heap.size, 1, none⟩ (.int .i64 (madeF l).last) = w9 at hT9 hR9 hB9 k2 ⊢
      have c0 : w9.cell? ⟨w.heap.size, 0, none⟩ = some (.slice A5 (madeF l).L.length c5) := by rw [blk_cell k2]; rfl
      have c1 : w9.cell? ⟨w.heap.size, 1, none⟩ = some (.int .i64 (madeF l).last) := by rw [blk_cell k2]; rfl
      have hu := Try.underlying28
      refine bodyPost_ret (v := .tuple #[pT p, .agg #[.slice A5 (madeF l).L.length c5, .int .i64 (madeF l).last]]) (by simp [results, Try.results12, go_sem, c0, c1, hu]) rfl ⟨p, B, _, rfl, hT9.drew, hR9.below (below_drew (Below.refl _ _)), below_drew hB9, hp9, hBB9⟩
end Go.Proofs.Ytjfigngmpagloaa.Tw

namespace Go.Proofs.Ytjfigngmpagloaa.Tw
open Go Go.RowKit Go.Shelf Go.Proofs Go.Proofs.Ytjfigngmpagloaa Go.Proofs.YtjfigngmpagloaaW.PrintWords Go.Proofs.Ytjfigngmpagloaa.Ext Go.Proofs.Ytjfigngmpagloaa.X Go.Proofs.Ytjfigngmpagloaa.Pu
set_option linter.unusedVariables false
set_option linter.unusedSimpArgs false
end Go.Proofs.Ytjfigngmpagloaa.Tw

namespace Go.Proofs.Ytjfigngmpagloaa.Tw
open Go Go.RowKit Go.Shelf Go.Proofs Go.Proofs.Ytjfigngmpagloaa Go.Proofs.YtjfigngmpagloaaW.PrintWords Go.Proofs.Ytjfigngmpagloaa.Ext Go.Proofs.Ytjfigngmpagloaa.X Go.Proofs.Ytjfigngmpagloaa.Pu
set_option linter.unusedVariables false
set_option linter.unusedSimpArgs false
theorem get_of {L : List RN} {last : Int} {n : Int} {x : Nd} (h : (trOf L last).get n = some x) : ∃ r ∈ L, x = ndOf L r := by
  unfold trOf at h
  obtain ⟨r, hr, rfl⟩ := Option.map_eq_some_iff.1 h
  exact ⟨r, List.mem_of_find?_eq_some hr, rfl⟩
theorem trOK {L : List RN} {last : Int} (h : GoodL L last) (hl : last ≤ 1000000) : TrOK (trOf L last) := by
  refine ⟨fun n x hx => ?_, fun n x hx => ?_, fun n x hx => ?_, fun n x hx e he => ?_, fun n x hx => ?_⟩
  · obtain ⟨r, hr, rfl⟩ := get_of hx
    exact h.rt _
  · obtain ⟨r, hr, rfl⟩ := get_of hx
    have h1 := ents_len L r.f0
    have h2 := h.len
    show (entsOf L r.f0).length < _
    omega
  · obtain ⟨r, hr, rfl⟩ := get_of hx
    obtain ⟨q, hq, hqn, _⟩ := at_kind (L := L) (n := r.f1) (by rw [h.up r hr]; decide)
    have := h.num q hq
    exact wf_of (n := r.f1) (by omega)
  · obtain ⟨r, hr, rfl⟩ := get_of hx
    obtain ⟨q, hq, _, rfl⟩ := mem_ents.1 (show e ∈ entsOf L r.f0 from he)
    have := h.num q hq
    exact wf_of (n := q.f0) (by omega)
  · obtain ⟨r, hr, rfl⟩ := get_of hx
    exact h.data r hr
end Go.Proofs.Ytjfigngmpagloaa.Tw

namespace Go.Proofs.Ytjfigngmpagloaa.Tw
open Go Go.RowKit Go.Shelf Go.Proofs Go.Proofs.Ytjfigngmpagloaa Go.Proofs.YtjfigngmpagloaaW.PrintWords Go.Proofs.Ytjfigngmpagloaa.Ext Go.Proofs.Ytjfigngmpagloaa.X Go.Proofs.Ytjfigngmpagloaa.Pu
set_option linter.unusedVariables false
set_option linter.unusedSimpArgs false
def cellsN (x : MN) : List Value := [.int .i64 x.f0, .string x.f1, .int .i64 x.f2, .string x.f3]
theorem flat4 : ∀ (l : List MN) (j i : Nat) (x : MN) (u : Value), l[j]? = some x → (cellsN x)[i]? = some u → (l.flatMap cellsN)[j * 4 + i]? = some u
  | [], j, i, x, u, h, _ => by simp at h
  | a :: l, 0, i, x, u, h, hu => by
    have : a = x := by simpa using h
    subst this
    rw [List.flatMap_cons, Nat.zero_mul, Nat.zero_add, List.getElem?_append_left (List.getElem?_eq_some_iff.1 hu).1]
    exact hu
  | a :: l, j + 1, i, x, u, h, hu => by
    have hl : (cellsN a).length = 4 := rfl
    rw [List.flatMap_cons, List.getElem?_append_right (by rw [hl]; omega), hl, show (j + 1) * 4 + i - 4 = j * 4 + i by omega]
    exact flat4 l j i x u (by simpa using h) hu
theorem litN (w : World) (g : Nat) (l : List MN) (t : TypeId) (h : w.heap[g]? = some (.cells (l.flatMap cellsN).toArray t (0, 0))) (hn : l.length ≤ 1000000) : Kd.C k89 w (some ⟨g, 0, none⟩) l.length l := by
  refine ⟨rfl, by omega, fun _ => ⟨_, rfl, fun j x hj => ?_⟩⟩
  refine ⟨cellsN x, rfl, k89_mk _ _, fun i u hu => ?_⟩
  rw [Addr.add_lit, Nat.zero_add, cell_of_row w g _ _ t (0, 0) h]
  have := flat4 l j i x u hj hu
  have e : k89.sz = 4 := rfl
  rw [e]
  simpa using this
end Go.Proofs.Ytjfigngmpagloaa.Tw

namespace Go.Proofs.Ytjfigngmpagloaa.Tw
open Go Go.RowKit Go.Shelf Go.Proofs Go.Proofs.Ytjfigngmpagloaa Go.Proofs.YtjfigngmpagloaaW.PrintWords Go.Proofs.Ytjfigngmpagloaa.Ext Go.Proofs.Ytjfigngmpagloaa.X Go.Proofs.Ytjfigngmpagloaa.Pu
set_option linter.unusedVariables false
set_option linter.unusedSimpArgs false
end Go.Proofs.Ytjfigngmpagloaa.Tw

namespace Go.Proofs.Ytjfigngmpagloaa.Tw
open Go Go.RowKit Go.Shelf Go.Proofs Go.Proofs.Ytjfigngmpagloaa Go.Proofs.YtjfigngmpagloaaW.PrintWords Go.Proofs.Ytjfigngmpagloaa.Ext Go.Proofs.Ytjfigngmpagloaa.X Go.Proofs.Ytjfigngmpagloaa.Pu
set_option linter.unusedVariables false
set_option linter.unusedSimpArgs false
theorem three_set {w : World} {k : Nat} {v0 v1 v2 u0 u1 u2 : Value} {t : TypeId} (h : w.heap[k]? = some (.cells #[v0, v1, v2] t (0, 0))) : (((w.setCell ⟨k, 0, none⟩ u0).setCell ⟨k, 1, none⟩ u1).setCell ⟨k, 2, none⟩ u2).heap[k]? = some (.cells #[u0, u1, u2] t (0, 0)) := by
  have k1 : (w.setCell ⟨k, 0, none⟩ u0).heap[k]? = some (.cells #[u0, v1, v2] t (0, 0)) := by rw [setCell_eq_setRow w _ 0 _ _ _ _ h, setRow_heap w _ _ _ _ _ h]; rfl
  have k2 : ((w.setCell ⟨k, 0, none⟩ u0).setCell ⟨k, 1, none⟩ u1).heap[k]? = some (.cells #[u0, u1, v2] t (0, 0)) := by rw [setCell_eq_setRow _ _ 1 _ _ _ _ k1, setRow_heap _ _ _ _ _ _ k1]; rfl
  rw [setCell_eq_setRow _ _ 2 _ _ _ _ k2, setRow_heap _ _ _ _ _ _ k2]; rfl
def sizeT (T : Tr) (n : Int) : Int := ((T.node n).data.size : Int) + ((T.node n).ents.length : Int)
def stT (T : Tr) (R : Int × Int) : Int × Int × Int := if R.2 = 0 then (R.1, (T.node R.1).kind, sizeT T R.1) else (0, 0, 0)
abbrev v3 (x : Int × Int × Int) : Value := .agg #[.int .i64 x.1, .int .i64 x.2.1, .int .i64 x.2.2]
set_option maxHeartbeats 2000000 in
set_option maxRecDepth 1000000 in
theorem stat_calls (p : Nat) (T : Tr) (s : ByteArray) (last : Bool) (k : Nat) (R : Int × Int) (w : World) (hT : TreeAt w p T) (hO : TrOK T) (hw : wf R.1) (hR : findF T last k s = some R) :
    Calls Try.prog 48 #[pT p, .string s, .bool last] w fun e w' => e = .returned (.tuple #[v3 (stT T R), .int .i64 R.2]) ∧ Below w.heap.size w w' := by
  have HF := Lib.hid (fun W h => seekFind_calls p T s last k R W h hO hR)
  have HK := Lib.hid (fun W h => kind_calls p T R.1 W h hw)
  have HD := Lib.hid (fun W h => data_calls p T R.1 W h hw)
  have HL := Lib.hid (fun W h => list_calls p T R.1 W h hw (hO.small.node R.1))
  have hdz := hO.sz R.1
  have hlz := hO.small.node R.1
  have HT := Lib.hid hT
  have HST := Lib.hid (show stT T R = if R.2 = 0 then (R.1, (T.node R.1).kind, ((T.node R.1).data.size : Int) + ((T.node R.1).ents.length : Int)) else (0, 0, 0) from rfl)
  generalize stT T R = st at *
  obtain ⟨n, e⟩ := R
  simp only [] at *
  generalize T.node n = nd at *
  obtain ⟨kd, up, dt, es⟩ := nd
  simp only [] at *
  clear hT hO hw hR
  have hu := Try.underlying32
  have HB0 := Lib.hid ((Below.refl w.heap.size w).alloc (Nat.le_refl _) (.cells #[.int .i64 0, .int .i64 0, .int .i64 0] 32))
  have HX0 := Lib.hid (heap_alloc_new w (.cells #[.int .i64 0, .int .i64 0, .int .i64 0] 32))
  by_cases he : e = 0
  · subst he
    have hst := HST.out
    rw [if_pos rfl] at hst
    subst hst
    clear HST
    go_enter Try.func48, Try.ntmps48
    go_upto_region 4 with (go_at_call 24; refine (HF.out _ (HT.out.below HB0.out)).mono ?_; rintro e w2 ⟨rfl, hb2⟩)
    have HB2 := Lib.hid (HB0.out.trans (hb2.mono HB0.out.size))
    have H2 := Lib.hid ((hb2.block _ (blk_lt HX0.out)).trans HX0.out)
    have HT2 := Lib.hid (HT.out.below HB2.out)
    clear hb2
    go_wp2_with (first
      | (go_at_call 41; refine (HK.out _ HT2.out).mono ?_; rintro e w3 ⟨rfl, hb3⟩)
      | (go_at_call 53; refine (HD.out _ (HT2.out.below hb3)).mono ?_; rintro e w4 ⟨rfl, hb4⟩)
      | (go_at_call 40; refine (HL.out _ ((HT2.out.below hb3).below hb4)).mono ?_; rintro e w5 ⟨v, rfl, ho, hb5⟩; obtain ⟨A5, c5, rfl, hl5, hC5⟩ := Kd.R_reads ho; have HB5 := Lib.hid (hb3.trans ((hb4.mono hb3.size).trans (hb5.mono (Nat.le_trans hb3.size hb4.size)))); have h5 := (HB5.out.block _ (blk_lt H2.out)).trans H2.out; have x0 : w5.cell? ⟨w.heap.size, 0, none⟩ = some (.int .i64 0) := (by rw [blk_cell h5]; rfl); have x1 : w5.cell? ⟨w.heap.size, 1, none⟩ = some (.int .i64 0) := (by rw [blk_cell h5]; rfl); have x2 : w5.cell? ⟨w.heap.size, 2, none⟩ = some (.int .i64 0) := (by rw [blk_cell h5]; rfl); have f0 := blk_frozen h5 0; have f1 := blk_frozen h5 1; have f2 := blk_frozen h5 2; have H5 := Lib.hid h5; clear h5 ho hC5 hb3 hb4 hb5))
    have H9 := Lib.hid (three_set (u0 := .int .i64 n) (u1 := .int .i64 kd) (u2 := .int .i64 ((dt.size : Int) + (es.length : Int))) H5.out)
    have HB9 := Lib.hid ((((HB2.out.trans (HB5.out.mono HB2.out.size)).setCell (p := ⟨w.heap.size, 0, none⟩) (Nat.le_refl _) (.int .i64 n)).setCell (p := ⟨w.heap.size, 1, none⟩) (Nat.le_refl _) (.int .i64 kd)).setCell (p := ⟨w.heap.size, 2, none⟩) (Nat.le_refl _) (.int .i64 ((dt.size : Int) + (es.length : Int))))
    clear x0 x1 x2
    generalize ((w5.setCell ⟨w.heap.size, 0, none⟩ (.int .i64 n)).setCell ⟨w.heap.size, 1, none⟩ (.int .i64 kd)).setCell ⟨w.heap.size, 2, none⟩ (.int .i64 ((dt.size : Int) + (es.length : Int))) = w9 at H9 HB9 ⊢
    have c0 : w9.cell? ⟨w.heap.size, 0, none⟩ = some (.int .i64 n) := by rw [blk_cell H9.out]; rfl
    have c1 : w9.cell? ⟨w.heap.size, 1, none⟩ = some (.int .i64 kd) := by rw [blk_cell H9.out]; rfl
    have c2 : w9.cell? ⟨w.heap.size, 2, none⟩ = some (.int .i64 ((dt.size : Int) + (es.length : Int))) := by rw [blk_cell H9.out]; rfl
    refine bodyPost_ret (v := .tuple #[.agg #[.int .i64 n, .int .i64 kd, .int .i64 ((dt.size : Int) + (es.length : Int))], .int .i64 0]) (by simp [results, Try.results48, go_sem, c0, c1, c2, hu]) rfl ⟨rfl, HB9.out⟩
  · have hst := HST.out
    rw [if_neg he] at hst
    subst hst
    have he' : (e != 0) = true := bne_iff_ne.2 he
    clear HST he
    go_enter Try.func48, Try.ntmps48
    go_upto_region 3 with (go_at_call 24; refine (HF.out _ (HT.out.below HB0.out)).mono ?_; rintro e w2 ⟨rfl, hb2⟩)
    have h2 := (hb2.block _ (blk_lt HX0.out)).trans HX0.out
    have hB2 := HB0.out.trans (hb2.mono HB0.out.size)
    have x0 : w2.cell? ⟨w.heap.size, 0, none⟩ = some (.int .i64 0) := by rw [blk_cell h2]; rfl
    have x1 : w2.cell? ⟨w.heap.size, 1, none⟩ = some (.int .i64 0) := by rw [blk_cell h2]; rfl
    have x2 : w2.cell? ⟨w.heap.size, 2, none⟩ = some (.int .i64 0) := by rw [blk_cell h2]; rfl
    have f0 := blk_frozen h2 0
    have f1 := blk_frozen h2 1
    have f2 := blk_frozen h2 2
    have H3 := Lib.hid (three_set (u0 := .int .i64 0) (u1 := .int .i64 0) (u2 := .int .i64 0) h2)
    have HB3 := Lib.hid (((hB2.setCell (p := ⟨w.heap.size, 0, none⟩) (Nat.le_refl _) (.int .i64 0)).setCell (p := ⟨w.heap.size, 1, none⟩) (Nat.le_refl _) (.int .i64 0)).setCell (p := ⟨w.heap.size, 2, none⟩) (Nat.le_refl _) (.int .i64 0))
    clear h2 hB2 hb2
    go_wp2
    generalize ((w2.setCell ⟨w.heap.size, 0, none⟩ (.int .i64 0)).setCell ⟨w.heap.size, 1, none⟩ (.int .i64 0)).setCell ⟨w.heap.size, 2, none⟩ (.int .i64 0) = w9 at H3 HB3 ⊢
    have c0 : w9.cell? ⟨w.heap.size, 0, none⟩ = some (.int .i64 0) := by rw [blk_cell H3.out]; rfl
    have c1 : w9.cell? ⟨w.heap.size, 1, none⟩ = some (.int .i64 0) := by rw [blk_cell H3.out]; rfl
    have c2 : w9.cell? ⟨w.heap.size, 2, none⟩ = some (.int .i64 0) := by rw [blk_cell H3.out]; rfl
    refine bodyPost_ret (v := .tuple #[.agg #[.int .i64 0, .int .i64 0, .int .i64 0], .int .i64 e]) (by simp [results, Try.results48, go_sem, c0, c1, c2, hu]) rfl ⟨rfl, HB3.out⟩
set_option maxHeartbeats 2000000 in
set_option maxRecDepth 1000000 in
theorem pstat_calls (p : Nat) (T : Tr) (s : ByteArray) (k : Nat) (R : Int × Int) (w : World) (hT : TreeAt w p T) (hO : TrOK T) (hw : wf R.1) (hR : findF T true k s = some R) :
    Calls Try.prog 15 #[pT p, .string s] w fun e w' => e = .returned (.tuple #[v3 (stT T R), .int .i64 R.2]) ∧ Below w.heap.size w w' := by
  have HS := Lib.hid (fun W h => stat_calls p T s true k R W h hO hw hR)
  have HT := Lib.hid hT
  have hu := Try.underlying32
  have HB0 := Lib.hid ((Below.refl w.heap.size w).alloc (Nat.le_refl _) (.cells #[.int .i64 0, .int .i64 0, .int .i64 0] 32))
  have HX0 := Lib.hid (heap_alloc_new w (.cells #[.int .i64 0, .int .i64 0, .int .i64 0] 32))
  generalize stT T R = st at *
  obtain ⟨a0, a1, a2⟩ := st
  generalize R.2 = e at *
  clear hT hO hw hR
  go_enter Try.func15, Try.ntmps15
  go_wp2_with (go_at_call 48; refine (HS.out _ (HT.out.below HB0.out)).mono ?_; rintro e w5 ⟨rfl, hb5⟩; have h5 := (hb5.block _ (blk_lt HX0.out)).trans HX0.out; have x0 : w5.cell? ⟨w.heap.size, 0, none⟩ = some (.int .i64 0) := (by rw [blk_cell h5]; rfl); have x1 : w5.cell? ⟨w.heap.size, 1, none⟩ = some (.int .i64 0) := (by rw [blk_cell h5]; rfl); have x2 : w5.cell? ⟨w.heap.size, 2, none⟩ = some (.int .i64 0) := (by rw [blk_cell h5]; rfl); have f0 := blk_frozen h5 0; have f1 := blk_frozen h5 1; have f2 := blk_frozen h5 2; have H5 := Lib.hid h5; have HB5 := Lib.hid (HB0.out.trans (hb5.mono HB0.out.size)); clear h5 hb5)
  have H9 := Lib.hid (three_set (u0 := .int .i64 a0) (u1 := .int .i64 a1) (u2 := .int .i64 a2) H5.out)
  have HB9 := Lib.hid (((HB5.out.setCell (p := ⟨w.heap.size, 0, none⟩) (Nat.le_refl _) (.int .i64 a0)).setCell (p := ⟨w.heap.size, 1, none⟩) (Nat.le_refl _) (.int .i64 a1)).setCell (p := ⟨w.heap.size, 2, none⟩) (Nat.le_refl _) (.int .i64 a2))
  clear x0 x1 x2
  generalize ((w5.setCell ⟨w.heap.size, 0, none⟩ (.int .i64 a0)).setCell ⟨w.heap.size, 1, none⟩ (.int .i64 a1)).setCell ⟨w.heap.size, 2, none⟩ (.int .i64 a2) = w9 at H9 HB9 ⊢
  have c0 : w9.cell? ⟨w.heap.size, 0, none⟩ = some (.int .i64 a0) := by rw [blk_cell H9.out]; rfl
  have c1 : w9.cell? ⟨w.heap.size, 1, none⟩ = some (.int .i64 a1) := by rw [blk_cell H9.out]; rfl
  have c2 : w9.cell? ⟨w.heap.size, 2, none⟩ = some (.int .i64 a2) := by rw [blk_cell H9.out]; rfl
  refine bodyPost_ret (v := .tuple #[.agg #[.int .i64 a0, .int .i64 a1, .int .i64 a2], .int .i64 e]) (by simp [results, Try.results15, go_sem, c0, c1, c2, hu]) rfl ⟨rfl, HB9.out⟩
end Go.Proofs.Ytjfigngmpagloaa.Tw

namespace Go.Proofs.Ytjfigngmpagloaa.Tw
open Go Go.RowKit Go.Shelf Go.Proofs Go.Proofs.Ytjfigngmpagloaa Go.Proofs.YtjfigngmpagloaaW.PrintWords Go.Proofs.Ytjfigngmpagloaa.Ext Go.Proofs.Ytjfigngmpagloaa.X Go.Proofs.Ytjfigngmpagloaa.Pu
set_option linter.unusedVariables false
set_option linter.unusedSimpArgs false
def OnlyV (W : World) (v : Value) (kind e : Int) : Prop := ∃ g h : Nat, v = .func (.func 96) #[] #[.pointer (some ⟨g, 0, none⟩), .pointer (some ⟨h, 0, none⟩)] ∧ W.heap[g]? = some (.cells #[.int .i64 kind] 3 (0, 0)) ∧ W.heap[h]? = some (.cells #[.int .i64 e] 33 (0, 0))
theorem OnlyV.below {w W : World} {v : Value} {kind e : Int} (h : OnlyV w v kind e) (hb : Below w.heap.size w W) : OnlyV W v kind e := by
  obtain ⟨g, k, rfl, h1, h2⟩ := h
  exact ⟨g, k, rfl, (hb.block _ (blk_lt h1)).trans h1, (hb.block _ (blk_lt h2)).trans h2⟩
set_option maxHeartbeats 1000000 in
set_option maxRecDepth 1000000 in
theorem only_calls (kind e : Int) (w : World) : Calls Try.prog 52 #[.int .i64 kind, .int .i64 e] w fun r w' => ∃ v, r = .returned v ∧ OnlyV w' v kind e ∧ Below w.heap.size w w' := by
  go_enter Try.func52, Try.ntmps52
  go_wp2
  go_ret
  have h1 := heap_alloc_new w (.cells #[.int .i64 kind] 3)
  have h2 := heap_alloc_new (w.alloc (.cells #[.int .i64 kind] 3)) (.cells #[.int .i64 e] 33)
  have e2 : (w.alloc (.cells #[.int .i64 kind] 3)).heap.size = w.heap.size + 1 := Array.size_push _
  rw [e2] at h2
  refine ⟨_, rfl, ⟨_, _, rfl, (heap_alloc_old _ _ _ (blk_lt h1)).trans h1, h2⟩, ?_⟩
  exact ((Below.refl w.heap.size w).alloc (Nat.le_refl _) _).alloc (by rw [e2]; omega) _
set_option maxHeartbeats 1000000 in
set_option maxRecDepth 1000000 in
theorem only1_calls (k kind e : Int) (g h : Nat) (w : World) (h1 : w.heap[g]? = some (.cells #[.int .i64 kind] 3 (0, 0))) (h2 : w.heap[h]? = some (.cells #[.int .i64 e] 33 (0, 0))) :
    Calls Try.prog 96 #[.int .i64 k, .pointer (some ⟨g, 0, none⟩), .pointer (some ⟨h, 0, none⟩)] w fun r w' => r = .returned (.int .i64 (if k = kind then 0 else e)) ∧ Below w.heap.size w w' := by
  have x1 : w.cell? ⟨g, 0, none⟩ = some (.int .i64 kind) := by rw [blk_cell h1]; rfl
  have x2 : w.cell? ⟨h, 0, none⟩ = some (.int .i64 e) := by rw [blk_cell h2]; rfl
  by_cases hk : k = kind
  · subst hk
    rw [if_pos rfl]
    go_enter Try.func96, Try.ntmps96
    go_wp2
    go_ret
    exact ⟨rfl, Below.refl _ _⟩
  · rw [if_neg hk]
    have hk' : (k != kind) = true := bne_iff_ne.2 hk
    clear hk
    go_enter Try.func96, Try.ntmps96
    go_wp2
    go_ret
    exact ⟨rfl, Below.refl _ _⟩
def askD (T : Tr) (R : Int × Int) (kind e0 : Int) : ByteArray × Int := if R.2 ≠ 0 then (⟨#[]⟩, R.2) else if (T.node R.1).kind = kind then ((T.node R.1).data, 0) else (⟨#[]⟩, e0)
set_option maxHeartbeats 2000000 in
set_option maxRecDepth 1000000 in
theorem asked_calls (p : Nat) (T : Tr) (s : ByteArray) (last : Bool) (k : Nat) (R : Int × Int) (kind e0 : Int) (v : Value) (w : World) (hT : TreeAt w p T) (hO : TrOK T) (hw : wf R.1) (hR : findF T last k s = some R) (he0 : e0 ≠ 0) (hv : OnlyV w v kind e0) :
    Calls Try.prog 51 #[pT p, .string s, .bool last, v, .func (.func 53) #[pT p] #[]] w fun e w' => e = .returned (.tuple #[.string (askD T R kind e0).1, .int .i64 (askD T R kind e0).2]) ∧ Below w.heap.size w w' := by
  have HS := Lib.hid (fun W h => stat_calls p T s last k R W h hO hw hR)
  have HD := Lib.hid (fun W h => data_calls p T R.1 W h hw)
  have HT := Lib.hid hT
  have HV := Lib.hid hv
  obtain ⟨g, h, rfl, h1, h2⟩ := hv
  have HO := Lib.hid (fun x W q1 q2 => only1_calls x kind e0 g h W q1 q2)
  have H1 := Lib.hid h1
  have H2 := Lib.hid h2
  have HA : Hid (askD T R kind e0 = if R.2 ≠ 0 then (⟨#[]⟩, R.2) else if (T.node R.1).kind = kind then ((T.node R.1).data, 0) else (⟨#[]⟩, e0)) := Lib.hid rfl
  have HST : Hid (stT T R = if R.2 = 0 then (R.1, (T.node R.1).kind, sizeT T R.1) else (0, 0, 0)) := Lib.hid rfl
  generalize askD T R kind e0 = ak at *
  generalize sizeT T R.1 = sz at *
  generalize stT T R = st at *
  obtain ⟨n, e⟩ := R
  simp only [] at *
  generalize T.node n = nd at *
  obtain ⟨kd, up, dt, es⟩ := nd
  simp only [] at *
  clear hT hO hw hR h1 h2
  have hu := Try.underlying32
  have arm5 : True := trivial
  by_cases he : e = 0
  · subst he
    have hst := HST.out
    rw [if_pos rfl] at hst
    subst hst
    have ha := HA.out
    rw [if_neg (by simp)] at ha
    have HBX := Lib.hid (fun (W : World) (o : Obj) (hb : Below w.heap.size w W) => (show TreeAt (W.alloc o) p T ∧ (W.alloc o).heap[g]? = some (.cells #[.int .i64 kind] 3 (0, 0)) ∧ (W.alloc o).heap[h]? = some (.cells #[.int .i64 e0] 33 (0, 0)) ∧ Below w.heap.size w (W.alloc o) from (fun hb2 => ⟨HT.out.below hb2, (hb2.block _ (blk_lt H1.out)).trans H1.out, (hb2.block _ (blk_lt H2.out)).trans H2.out, hb2⟩) (hb.alloc hb.size o)))
    by_cases hk : kd = kind
    · subst hk
      rw [if_pos rfl] at ha
      subst ha
      have HO1 := Lib.hid (fun W q1 q2 => HO.out kd W q1 q2)
      rw [if_pos rfl] at HO1
      clear HST HA HO
      go_enter Try.func51, Try.ntmps51
      go_wp2_with (first
        | (go_at_call 48; refine (HS.out _ HT.out).mono ?_; rintro e w2 ⟨rfl, hb2⟩; have HB2 := Lib.hid hb2; clear hb2)
        | (go_at_call 96; refine (HO1.out _ (HBX.out _ _ HB2.out).2.1 (HBX.out _ _ HB2.out).2.2.1).mono ?_; rintro e w4 ⟨rfl, hb4⟩; have h4 := (hb4.block _ (blk_lt (heap_alloc_new _ _))).trans (heap_alloc_new _ _); have x0 : w4.cell? ⟨w2.heap.size, 0, none⟩ = some (.int .i64 n) := (by rw [blk_cell h4]; rfl); have HB4 := Lib.hid ((HBX.out _ _ HB2.out).2.2.2.trans (hb4.mono (HBX.out _ _ HB2.out).2.2.2.size)); clear h4 hb4)
        | (go_at_call 53; refine (HD.out _ (HT.out.below HB4.out)).mono ?_; rintro e w5 ⟨rfl, hb5⟩))
      refine bodyPost_ret (v := .tuple #[.string dt, .int .i64 0]) (by simp [results, Try.results51, go_sem]) rfl ⟨rfl, HB4.out.trans (hb5.mono HB4.out.size)⟩
    · rw [if_neg hk] at ha
      subst ha
      have HO1 := Lib.hid (fun W q1 q2 => HO.out kd W q1 q2)
      rw [if_neg hk] at HO1
      have he0' : (e0 != 0) = true := bne_iff_ne.2 he0
      clear HST HA HO hk he0
      go_enter Try.func51, Try.ntmps51
      go_wp2_with (first
        | (go_at_call 48; refine (HS.out _ HT.out).mono ?_; rintro e w2 ⟨rfl, hb2⟩; have HB2 := Lib.hid hb2; clear hb2)
        | (go_at_call 96; refine (HO1.out _ (HBX.out _ _ HB2.out).2.1 (HBX.out _ _ HB2.out).2.2.1).mono ?_; rintro e w4 ⟨rfl, hb4⟩; have HB4 := Lib.hid ((HBX.out _ _ HB2.out).2.2.2.trans (hb4.mono (HBX.out _ _ HB2.out).2.2.2.size)); clear hb4))
      refine bodyPost_ret (v := .tuple #[.string ⟨#[]⟩, .int .i64 e0]) (by simp [results, Try.results51, go_sem]) rfl ⟨rfl, HB4.out⟩
  · have ha := HA.out
    rw [if_pos he] at ha
    subst ha
    have hst := HST.out
    rw [if_neg he] at hst
    subst hst
    have he' : (e != 0) = true := bne_iff_ne.2 he
    clear HA HST he
    go_enter Try.func51, Try.ntmps51
    go_wp2_with (go_at_call 48; refine (HS.out _ HT.out).mono ?_; rintro e w2 ⟨rfl, hb2⟩)
    refine bodyPost_ret (v := .tuple #[.string ⟨#[]⟩, .int .i64 e]) (by simp [results, Try.results51, go_sem]) rfl ⟨rfl, hb2.alloc hb2.size _⟩
set_option maxHeartbeats 1000000 in
set_option maxRecDepth 1000000 in
theorem pread_calls (p : Nat) (T : Tr) (s : ByteArray) (k : Nat) (R : Int × Int) (w : World) (hT : TreeAt w p T) (hO : TrOK T) (hw : wf R.1) (hR : findF T true k s = some R) :
    Calls Try.prog 18 #[pT p, .string s] w fun e w' => e = .returned (.tuple #[.string (askD T R 2 8).1, .int .i64 (askD T R 2 8).2]) ∧ Below w.heap.size w w' := by
  have HS := Lib.hid (fun v W h hv => asked_calls p T s true k R 2 8 v W h hO hw hR (by decide) hv)
  have HN := Lib.hid (fun W => only_calls 2 8 W)
  have HT := Lib.hid hT
  generalize askD T R 2 8 = ak at *
  obtain ⟨d, e⟩ := ak
  clear hT hO hw hR
  go_enter Try.func18, Try.ntmps18
  go_wp2_with (first
    | (go_at_call 52; refine (HN.out _).mono ?_; rintro e w2 ⟨v, rfl, hv, hb2⟩; have HB2 := Lib.hid hb2; have HV := Lib.hid hv; clear hb2 hv)
    | (go_at_call 51; refine (HS.out _ _ (HT.out.below HB2.out) HV.out).mono ?_; rintro e w3 ⟨rfl, hb3⟩))
  refine bodyPost_ret (v := .tuple #[.string d, .int .i64 e]) (by simp [results, Try.results18, go_sem]) rfl ⟨rfl, HB2.out.trans (hb3.mono HB2.out.size)⟩
end Go.Proofs.Ytjfigngmpagloaa.Tw

namespace Go.Proofs.Ytjfigngmpagloaa.Tw
open Go Go.RowKit Go.Shelf Go.Proofs Go.Proofs.Ytjfigngmpagloaa Go.Proofs.YtjfigngmpagloaaW.PrintWords Go.Proofs.Ytjfigngmpagloaa.Ext Go.Proofs.Ytjfigngmpagloaa.X Go.Proofs.Ytjfigngmpagloaa.Pu
set_option linter.unusedVariables false
set_option linter.unusedSimpArgs false
def StrV (W : World) (v : Value) (l : List ByteArray) : Prop := ∃ A c, v = .slice A l.length c ∧ l.length ≤ c ∧ Kd.C Kd.string W A l.length l
theorem StrV.below {w W : World} {v : Value} {l : List ByteArray} (h : StrV w v l) (hb : Below w.heap.size w W) : StrV W v l := by
  obtain ⟨A, c, rfl, h1, h2⟩ := h
  exact ⟨A, c, rfl, h1, Kd.C_below h2 hb⟩
end Go.Proofs.Ytjfigngmpagloaa.Tw

namespace Go.Proofs.Ytjfigngmpagloaa.Tw
open Go Go.RowKit Go.Shelf Go.Proofs Go.Proofs.Ytjfigngmpagloaa Go.Proofs.YtjfigngmpagloaaW.PrintWords Go.Proofs.Ytjfigngmpagloaa.Ext Go.Proofs.Ytjfigngmpagloaa.X Go.Proofs.Ytjfigngmpagloaa.Pu
set_option linter.unusedVariables false
set_option linter.unusedSimpArgs false
theorem node_rt {T : Tr} (hO : TrOK T) (n : Int) : Rt (T.node n).ents := by
  unfold Tr.node
  cases hx : T.get n with
  | none => exact List.Pairwise.nil
  | some x => exact hO.sorted n x hx
end Go.Proofs.Ytjfigngmpagloaa.Tw

namespace Go.Proofs.Ytjfigngmpagloaa.Tw
open Go Go.RowKit Go.Shelf Go.Proofs Go.Proofs.Ytjfigngmpagloaa Go.Proofs.YtjfigngmpagloaaW.PrintWords Go.Proofs.Ytjfigngmpagloaa.Ext Go.Proofs.Ytjfigngmpagloaa.X Go.Proofs.Ytjfigngmpagloaa.Pu
set_option linter.unusedVariables false
set_option linter.unusedSimpArgs false
set_option maxHeartbeats 1000000 in
set_option maxRecDepth 1000000 in
theorem stat_nil (s : ByteArray) (last : Bool) (w : World) :
    Calls Try.prog 48 #[.pointer none, .string s, .bool last] w fun e w' => e = .returned (.tuple #[v3 (0, 0, 0), .int .i64 1]) ∧ Below w.heap.size w w' := by
  have HF := Lib.hid (fun W => seekFind_nil s last W)
  have hu := Try.underlying32
  have HB0 := Lib.hid ((Below.refl w.heap.size w).alloc (Nat.le_refl _) (.cells #[.int .i64 0, .int .i64 0, .int .i64 0] 32))
  have HX0 := Lib.hid (heap_alloc_new w (.cells #[.int .i64 0, .int .i64 0, .int .i64 0] 32))
  go_enter Try.func48, Try.ntmps48
  go_upto_region 3 with (go_at_call 24; refine (HF.out _).mono ?_; rintro e w2 ⟨rfl, hb2⟩)
  have h2 := (hb2.block _ (blk_lt HX0.out)).trans HX0.out
  have hB2 := HB0.out.trans (hb2.mono HB0.out.size)
  have x0 : w2.cell? ⟨w.heap.size, 0, none⟩ = some (.int .i64 0) := by rw [blk_cell h2]; rfl
  have x1 : w2.cell? ⟨w.heap.size, 1, none⟩ = some (.int .i64 0) := by rw [blk_cell h2]; rfl
  have x2 : w2.cell? ⟨w.heap.size, 2, none⟩ = some (.int .i64 0) := by rw [blk_cell h2]; rfl
  have f0 := blk_frozen h2 0
  have f1 := blk_frozen h2 1
  have f2 := blk_frozen h2 2
  have H3 := Lib.hid (three_set (u0 := .int .i64 0) (u1 := .int .i64 0) (u2 := .int .i64 0) h2)
  have HB3 := Lib.hid (((hB2.setCell (p := ⟨w.heap.size, 0, none⟩) (Nat.le_refl _) (.int .i64 0)).setCell (p := ⟨w.heap.size, 1, none⟩) (Nat.le_refl _) (.int .i64 0)).setCell (p := ⟨w.heap.size, 2, none⟩) (Nat.le_refl _) (.int .i64 0))
  clear h2 hB2 hb2
  go_wp2
  generalize ((w2.setCell ⟨w.heap.size, 0, none⟩ (.int .i64 0)).setCell ⟨w.heap.size, 1, none⟩ (.int .i64 0)).setCell ⟨w.heap.size, 2, none⟩ (.int .i64 0) = w9 at H3 HB3 ⊢
  have c0 : w9.cell? ⟨w.heap.size, 0, none⟩ = some (.int .i64 0) := by rw [blk_cell H3.out]; rfl
  have c1 : w9.cell? ⟨w.heap.size, 1, none⟩ = some (.int .i64 0) := by rw [blk_cell H3.out]; rfl
  have c2 : w9.cell? ⟨w.heap.size, 2, none⟩ = some (.int .i64 0) := by rw [blk_cell H3.out]; rfl
  refine bodyPost_ret (v := .tuple #[.agg #[.int .i64 0, .int .i64 0, .int .i64 0], .int .i64 1]) (by simp [results, Try.results48, go_sem, c0, c1, c2, hu]) rfl ⟨rfl, HB3.out⟩
set_option maxHeartbeats 1000000 in
set_option maxRecDepth 1000000 in
theorem asked_nil (s : ByteArray) (last : Bool) (v1 v2 : Value) (w : World) :
    Calls Try.prog 51 #[.pointer none, .string s, .bool last, v1, v2] w fun e w' => e = .returned (.tuple #[.string ⟨#[]⟩, .int .i64 1]) ∧ Below w.heap.size w w' := by
  have HS := Lib.hid (fun W => stat_nil s last W)
  have hu := Try.underlying32
  go_enter Try.func51, Try.ntmps51
  go_wp2_with (go_at_call 48; refine (HS.out _).mono ?_; rintro e w2 ⟨rfl, hb2⟩)
  refine bodyPost_ret (v := .tuple #[.string ⟨#[]⟩, .int .i64 1]) (by simp [results, Try.results51, go_sem]) rfl ⟨rfl, hb2.alloc hb2.size _⟩
set_option maxHeartbeats 1000000 in
set_option maxRecDepth 1000000 in
theorem askedl_nil (s : ByteArray) (last : Bool) (v1 v2 : Value) (w : World) :
    Calls Try.prog 54 #[.pointer none, .string s, .bool last, v1, v2] w fun e w' => e = .returned (.tuple #[.slice none 0 0, .int .i64 1]) ∧ Below w.heap.size w w' := by
  have HS := Lib.hid (fun W => stat_nil s last W)
  have hu := Try.underlying32
  go_enter Try.func54, Try.ntmps54
  go_wp2_with (go_at_call 48; refine (HS.out _).mono ?_; rintro e w2 ⟨rfl, hb2⟩)
  refine bodyPost_ret (v := .tuple #[.slice none 0 0, .int .i64 1]) (by simp [results, Try.results54, go_sem]) rfl ⟨rfl, hb2.alloc hb2.size _⟩
set_option maxHeartbeats 1000000 in
set_option maxRecDepth 1000000 in
theorem readlink_nil (s : ByteArray) (w : World) :
    Calls Try.prog 16 #[.pointer none, .string s] w fun e w' => e = .returned (.tuple #[.string ⟨#[]⟩, .int .i64 1]) ∧ Below w.heap.size w w' := by
  have HS := Lib.hid (fun v1 v2 W => asked_nil s false v1 v2 W)
  have HN := Lib.hid (fun W => only_calls 3 13 W)
  go_enter Try.func16, Try.ntmps16
  go_wp2_with (first
    | (go_at_call 52; refine (HN.out _).mono ?_; rintro e w2 ⟨v, rfl, hv, hb2⟩)
    | (go_at_call 51; refine (HS.out _ _ _).mono ?_; rintro e w3 ⟨rfl, hb3⟩))
  refine bodyPost_ret (v := .tuple #[.string ⟨#[]⟩, .int .i64 1]) (by simp [results, Try.results16, go_sem]) rfl ⟨rfl, hb2.trans (hb3.mono hb2.size)⟩
set_option maxHeartbeats 1000000 in
set_option maxRecDepth 1000000 in
theorem pread_nil (s : ByteArray) (w : World) :
    Calls Try.prog 18 #[.pointer none, .string s] w fun e w' => e = .returned (.tuple #[.string ⟨#[]⟩, .int .i64 1]) ∧ Below w.heap.size w w' := by
  have HS := Lib.hid (fun v1 v2 W => asked_nil s true v1 v2 W)
  have HN := Lib.hid (fun W => only_calls 2 8 W)
  go_enter Try.func18, Try.ntmps18
  go_wp2_with (first
    | (go_at_call 52; refine (HN.out _).mono ?_; rintro e w2 ⟨v, rfl, hv, hb2⟩)
    | (go_at_call 51; refine (HS.out _ _ _).mono ?_; rintro e w3 ⟨rfl, hb3⟩))
  refine bodyPost_ret (v := .tuple #[.string ⟨#[]⟩, .int .i64 1]) (by simp [results, Try.results18, go_sem]) rfl ⟨rfl, hb2.trans (hb3.mono hb2.size)⟩
set_option maxHeartbeats 1000000 in
set_option maxRecDepth 1000000 in
theorem lstat_nil (s : ByteArray) (w : World) :
    Calls Try.prog 13 #[.pointer none, .string s] w fun e w' => e = .returned (.tuple #[v3 (0, 0, 0), .int .i64 1]) ∧ Below w.heap.size w w' := by
  have HS := Lib.hid (fun W => stat_nil s false W)
  have hu := Try.underlying32
  have HB0 := Lib.hid ((Below.refl w.heap.size w).alloc (Nat.le_refl _) (.cells #[.int .i64 0, .int .i64 0, .int .i64 0] 32))
  have HX0 := Lib.hid (heap_alloc_new w (.cells #[.int .i64 0, .int .i64 0, .int .i64 0] 32))
  go_enter Try.func13, Try.ntmps13
  go_wp2_with (go_at_call 48; refine (HS.out _).mono ?_; rintro e w5 ⟨rfl, hb5⟩; have h5 := (hb5.block _ (blk_lt HX0.out)).trans HX0.out; have x0 : w5.cell? ⟨w.heap.size, 0, none⟩ = some (.int .i64 0) := (by rw [blk_cell h5]; rfl); have x1 : w5.cell? ⟨w.heap.size, 1, none⟩ = some (.int .i64 0) := (by rw [blk_cell h5]; rfl); have x2 : w5.cell? ⟨w.heap.size, 2, none⟩ = some (.int .i64 0) := (by rw [blk_cell h5]; rfl); have f0 := blk_frozen h5 0; have f1 := blk_frozen h5 1; have f2 := blk_frozen h5 2; have H5 := Lib.hid h5; have HB5 := Lib.hid (HB0.out.trans (hb5.mono HB0.out.size)); clear h5 hb5)
  have H9 := Lib.hid (three_set (u0 := .int .i64 0) (u1 := .int .i64 0) (u2 := .int .i64 0) H5.out)
  have HB9 := Lib.hid (((HB5.out.setCell (p := ⟨w.heap.size, 0, none⟩) (Nat.le_refl _) (.int .i64 0)).setCell (p := ⟨w.heap.size, 1, none⟩) (Nat.le_refl _) (.int .i64 0)).setCell (p := ⟨w.heap.size, 2, none⟩) (Nat.le_refl _) (.int .i64 0))
  clear x0 x1 x2
  generalize ((w5.setCell ⟨w.heap.size, 0, none⟩ (.int .i64 0)).setCell ⟨w.heap.size, 1, none⟩ (.int .i64 0)).setCell ⟨w.heap.size, 2, none⟩ (.int .i64 0) = w9 at H9 HB9 ⊢
  have c0 : w9.cell? ⟨w.heap.size, 0, none⟩ = some (.int .i64 0) := by rw [blk_cell H9.out]; rfl
  have c1 : w9.cell? ⟨w.heap.size, 1, none⟩ = some (.int .i64 0) := by rw [blk_cell H9.out]; rfl
  have c2 : w9.cell? ⟨w.heap.size, 2, none⟩ = some (.int .i64 0) := by rw [blk_cell H9.out]; rfl
  refine bodyPost_ret (v := .tuple #[.agg #[.int .i64 0, .int .i64 0, .int .i64 0], .int .i64 1]) (by simp [results, Try.results13, go_sem, c0, c1, c2, hu]) rfl ⟨rfl, HB9.out⟩
set_option maxHeartbeats 1000000 in
set_option maxRecDepth 1000000 in
theorem pstat_nil (s : ByteArray) (w : World) :
    Calls Try.prog 15 #[.pointer none, .string s] w fun e w' => e = .returned (.tuple #[v3 (0, 0, 0), .int .i64 1]) ∧ Below w.heap.size w w' := by
  have HS := Lib.hid (fun W => stat_nil s true W)
  have hu := Try.underlying32
  have HB0 := Lib.hid ((Below.refl w.heap.size w).alloc (Nat.le_refl _) (.cells #[.int .i64 0, .int .i64 0, .int .i64 0] 32))
  have HX0 := Lib.hid (heap_alloc_new w (.cells #[.int .i64 0, .int .i64 0, .int .i64 0] 32))
  go_enter Try.func15, Try.ntmps15
  go_wp2_with (go_at_call 48; refine (HS.out _).mono ?_; rintro e w5 ⟨rfl, hb5⟩; have h5 := (hb5.block _ (blk_lt HX0.out)).trans HX0.out; have x0 : w5.cell? ⟨w.heap.size, 0, none⟩ = some (.int .i64 0) := (by rw [blk_cell h5]; rfl); have x1 : w5.cell? ⟨w.heap.size, 1, none⟩ = some (.int .i64 0) := (by rw [blk_cell h5]; rfl); have x2 : w5.cell? ⟨w.heap.size, 2, none⟩ = some (.int .i64 0) := (by rw [blk_cell h5]; rfl); have f0 := blk_frozen h5 0; have f1 := blk_frozen h5 1; have f2 := blk_frozen h5 2; have H5 := Lib.hid h5; have HB5 := Lib.hid (HB0.out.trans (hb5.mono HB0.out.size)); clear h5 hb5)
  have H9 := Lib.hid (three_set (u0 := .int .i64 0) (u1 := .int .i64 0) (u2 := .int .i64 0) H5.out)
  have HB9 := Lib.hid (((HB5.out.setCell (p := ⟨w.heap.size, 0, none⟩) (Nat.le_refl _) (.int .i64 0)).setCell (p := ⟨w.heap.size, 1, none⟩) (Nat.le_refl _) (.int .i64 0)).setCell (p := ⟨w.heap.size, 2, none⟩) (Nat.le_refl _) (.int .i64 0))
  clear x0 x1 x2
  generalize ((w5.setCell ⟨w.heap.size, 0, none⟩ (.int .i64 0)).setCell ⟨w.heap.size, 1, none⟩ (.int .i64 0)).setCell ⟨w.heap.size, 2, none⟩ (.int .i64 0) = w9 at H9 HB9 ⊢
  have c0 : w9.cell? ⟨w.heap.size, 0, none⟩ = some (.int .i64 0) := by rw [blk_cell H9.out]; rfl
  have c1 : w9.cell? ⟨w.heap.size, 1, none⟩ = some (.int .i64 0) := by rw [blk_cell H9.out]; rfl
  have c2 : w9.cell? ⟨w.heap.size, 2, none⟩ = some (.int .i64 0) := by rw [blk_cell H9.out]; rfl
  refine bodyPost_ret (v := .tuple #[.agg #[.int .i64 0, .int .i64 0, .int .i64 0], .int .i64 1]) (by simp [results, Try.results15, go_sem, c0, c1, c2, hu]) rfl ⟨rfl, HB9.out⟩
set_option maxHeartbeats 1000000 in
set_option maxRecDepth 1000000 in
theorem psame_nil (a b : ByteArray) (w : World) :
    Calls Try.prog 22 #[.pointer none, .string a, .string b] w fun e w' => e = .returned (.bool false) ∧ Below w.heap.size w w' := by
  have HS1 := Lib.hid (fun s W => pstat_nil s W)
  have hu := Try.underlying32
  go_enter Try.func22, Try.ntmps22
  go_upto_region 2 with (go_at_call 15; refine (HS1.out _ _).mono ?_; rintro e w2 ⟨rfl, hb2⟩)
  have HB2 := Lib.hid (hb2.alloc hb2.size (.cells #[.int .i64 0, .int .i64 0, .int .i64 0] 32))
  clear hb2
  go_wp2_with (go_at_call 15; refine (HS1.out _ _).mono ?_; rintro e w3 ⟨rfl, hb3⟩)
  refine bodyPost_ret (v := .bool false) (by simp [results, Try.results22, go_sem]) rfl ⟨rfl, ?_⟩
  have h3 := HB2.out.trans (hb3.mono HB2.out.size)
  exact h3.alloc h3.size _
set_option maxHeartbeats 1000000 in
set_option maxRecDepth 1000000 in
theorem put_nil (s d : ByteArray) (k : Int) (w : World) :
    Calls Try.prog 113 #[.pointer none, .string s, .int .i64 k, .string d] w fun e w' => e = .returned (.int .i64 1) ∧ Below w.heap.size w w' := by
  have HS := Lib.hid (fun W => spot_nil s W)
  go_enter Try.func113, Try.ntmps113
  go_wp2_with (go_at_call 26; refine (HS.out _).mono ?_; rintro e w2 ⟨rfl, hb2⟩)
  go_ret
  exact ⟨rfl, hb2⟩
set_option maxHeartbeats 1000000 in
set_option maxRecDepth 1000000 in
theorem mkdir_nil (s : ByteArray) (w : World) :
    Calls Try.prog 83 #[.pointer none, .string s] w fun e w' => e = .returned (.int .i64 1) ∧ Below w.heap.size w w' := by
  have HS := Lib.hid (fun k d W => put_nil s d k W)
  go_enter Try.func83, Try.ntmps83
  go_wp2_with (go_at_call 113; refine (HS.out _ _ _).mono ?_; rintro e w2 ⟨rfl, hb2⟩)
  go_ret
  exact ⟨rfl, hb2⟩
set_option maxHeartbeats 1000000 in
set_option maxRecDepth 1000000 in
theorem symlink_nil (t s : ByteArray) (w : World) :
    Calls Try.prog 85 #[.pointer none, .string t, .string s] w fun e w' => e = .returned (.int .i64 1) ∧ Below w.heap.size w w' := by
  have HS := Lib.hid (fun k d W => put_nil s d k W)
  go_enter Try.func85, Try.ntmps85
  go_wp2_with (go_at_call 113; refine (HS.out _ _ _).mono ?_; rintro e w2 ⟨rfl, hb2⟩)
  go_ret
  exact ⟨rfl, hb2⟩
set_option maxHeartbeats 1000000 in
set_option maxRecDepth 1000000 in
theorem cut_nil (s : ByteArray) (v : Value) (w : World) :
    Calls Try.prog 114 #[.pointer none, .string s, v] w fun e w' => e = .returned (.int .i64 1) ∧ Below w.heap.size w w' := by
  have HS := Lib.hid (fun W => spot_nil s W)
  go_enter Try.func114, Try.ntmps114
  go_wp2_with (go_at_call 26; refine (HS.out _).mono ?_; rintro e w2 ⟨rfl, hb2⟩)
  go_ret
  exact ⟨rfl, hb2⟩
set_option maxHeartbeats 1000000 in
set_option maxRecDepth 1000000 in
theorem rmdir_nil (s : ByteArray) (w : World) :
    Calls Try.prog 84 #[.pointer none, .string s] w fun e w' => e = .returned (.int .i64 1) ∧ Below w.heap.size w w' := by
  have HS := Lib.hid (fun v W => cut_nil s v W)
  have HN := Lib.hid (fun W => only_calls 1 7 W)
  go_enter Try.func84, Try.ntmps84
  go_wp2_with (first
    | (go_at_call 52; refine (HN.out _).mono ?_; rintro e w2 ⟨v, rfl, hv, hb2⟩)
    | (go_at_call 114; refine (HS.out _ _).mono ?_; rintro e w3 ⟨rfl, hb3⟩))
  go_ret
  exact ⟨rfl, hb2.trans (hb3.mono hb2.size)⟩
set_option maxHeartbeats 1000000 in
set_option maxRecDepth 1000000 in
theorem unlink_nil (s : ByteArray) (w : World) :
    Calls Try.prog 86 #[.pointer none, .string s] w fun e w' => e = .returned (.int .i64 1) ∧ Below w.heap.size w w' := by
  have HS := Lib.hid (fun v W => cut_nil s v W)
  go_enter Try.func86, Try.ntmps86
  go_wp2_with (go_at_call 114; refine (HS.out _ _).mono ?_; rintro e w3 ⟨rfl, hb3⟩)
  go_ret
  exact ⟨rfl, hb3⟩
set_option maxHeartbeats 1000000 in
set_option maxRecDepth 1000000 in
theorem rename_nil (a b : ByteArray) (w : World) :
    Calls Try.prog 38 #[.pointer none, .string a, .string b] w fun e w' => e = .returned (.int .i64 1) ∧ Below w.heap.size w w' := by
  have HS := Lib.hid (fun W => spot_nil a W)
  go_enter Try.func38, Try.ntmps38
  go_wp2_with (go_at_call 26; refine (HS.out _).mono ?_; rintro e w2 ⟨rfl, hb2⟩)
  go_ret
  exact ⟨rfl, hb2⟩
set_option maxHeartbeats 1000000 in
set_option maxRecDepth 1000000 in
theorem write_nil (a b : ByteArray) (w : World) :
    Calls Try.prog 44 #[.pointer none, .string a, .string b] w fun e w' => e = .returned (.int .i64 1) ∧ Below w.heap.size w w' := by
  have HS := Lib.hid (fun W => pstat_nil a W)
  have hu := Try.underlying32
  go_enter Try.func44, Try.ntmps44
  go_wp2_with (go_at_call 15; refine (HS.out _).mono ?_; rintro e w2 ⟨rfl, hb2⟩)
  go_ret
  exact ⟨rfl, hb2.alloc hb2.size _⟩
set_option maxHeartbeats 2000000 in
set_option maxRecDepth 1000000 in
theorem do_nil (k : Int) (a b : ByteArray) (w : World) (h1 : 1 ≤ k) (h6 : k ≤ 6) :
    Calls Try.prog 42 #[.pointer none, .agg #[.int .i64 k, .string a, .string b]] w fun e w' => e = .returned (.int .i64 1) ∧ Below w.heap.size w w' := by
  have HB0 := Lib.hid ((Below.refl w.heap.size w).alloc (Nat.le_refl _) (.cells #[.int .i64 k, .string a, .string b] 84))
  have HS1 := Lib.hid (fun W => mkdir_nil a W)
  have HS2 := Lib.hid (fun W => rmdir_nil a W)
  have HS3 := Lib.hid (fun W => symlink_nil b a W)
  have HS4 := Lib.hid (fun W => unlink_nil a W)
  have HS5 := Lib.hid (fun W => rename_nil a b W)
  have HS6 := Lib.hid (fun W => write_nil a b W)
  have hk : k = 1 ∨ k = 2 ∨ k = 3 ∨ k = 4 ∨ k = 5 ∨ k = 6 := by omega
  clear h1 h6
  rcases hk with rfl | rfl | rfl | rfl | rfl | rfl
  all_goals go_enter Try.func42, Try.ntmps42
  all_goals go_wp2_with (first
    | (go_at_call 83; refine (HS1.out _).mono ?_; rintro e w2 ⟨rfl, hb2⟩)
    | (go_at_call 84; refine (HS2.out _).mono ?_; rintro e w2 ⟨rfl, hb2⟩)
    | (go_at_call 85; refine (HS3.out _).mono ?_; rintro e w2 ⟨rfl, hb2⟩)
    | (go_at_call 86; refine (HS4.out _).mono ?_; rintro e w2 ⟨rfl, hb2⟩)
    | (go_at_call 38; refine (HS5.out _).mono ?_; rintro e w2 ⟨rfl, hb2⟩)
    | (go_at_call 44; refine (HS6.out _).mono ?_; rintro e w2 ⟨rfl, hb2⟩))
  all_goals go_ret
  all_goals exact ⟨rfl, HB0.out.trans (hb2.mono HB0.out.size)⟩
set_option maxHeartbeats 2000000 in
set_option maxRecDepth 1000000 in
theorem plist_nil (s : ByteArray) (w : World) :
    Calls Try.prog 19 #[.pointer none, .string s] w fun e w' => e = .returned (.tuple #[.slice none 0 0, .int .i64 1]) ∧ Below w.heap.size w w' := by
  have HS := Lib.hid (fun v1 v2 W => askedl_nil s true v1 v2 W)
  have HN := Lib.hid (fun W => only_calls 1 7 W)
  go_enter Try.func19, Try.ntmps19
  go_upto_region 1 with (fail)
  have hB1 := (Below.refl w.heap.size w).alloc (Nat.le_refl _) (.cells #[.pointer none] 25)
  have h1 := heap_alloc_new w (.cells #[.pointer none] 25)
  have HB1 := Lib.hid hB1
  generalize w.alloc (.cells #[.pointer none] 25) = w1 at h1 HB1 ⊢
  generalize hge : w.heap.size = g at h1 HB1 ⊢
  have HGE := Lib.hid hge
  clear hge
  have H1 := Lib.hid h1
  have HX := Lib.hid (fun (W : World) (h : Below w1.heap.size w1 W) => show W.cell? ⟨g, 0, none⟩ = some (.pointer none) by
        have h5 := (h.block _ (blk_lt H1.out)).trans H1.out
        rw [blk_cell h5]; rfl)
  have x0 := HX.out _ (Below.refl _ _)
  clear hB1 h1
  go_region_held3 (fun w' => w'.cell? ⟨g, 0, none⟩ = some (.pointer none)) (first | (go_keep; done) | exact HX.out _ HB3.out | exact HX.out _ HB2.out)
        (first
          | (go_at_call 52; refine (HN.out _).mono ?_; rintro e w2 ⟨v, rfl, hv, hb2⟩; have HB2 : Hid (Below w1.heap.size w1 w2) := Lib.hid (by first | exact hb2 | exact (below_drew (Below.refl _ _)).trans hb2); clear hb2)
          | (go_at_call 54; refine (HS.out _ _ _).mono ?_; rintro e w3 ⟨rfl, hb3⟩; have HB3 : Hid (Below w1.heap.size w1 w3) := Lib.hid (by first | exact HB2.out.trans (hb3.mono HB2.out.size) | exact (below_drew HB2.out).trans (hb3.mono HB2.out.size)); clear hb3))
  all_goals go_wp2
  all_goals (refine bodyPost_ret (v := .tuple #[.slice none 0 0, .int .i64 1]) (by simp [results, Try.results19, go_sem]) rfl ⟨rfl, ?_⟩)
  all_goals (rw [HGE.out]; exact HB1.out.trans (HB3.out.mono (by rw [← HGE.out]; exact HB1.out.size)))
end Go.Proofs.Ytjfigngmpagloaa.Tw

namespace Go.Proofs.Ytjfigngmpagloaa.Ext
end Go.Proofs.Ytjfigngmpagloaa.Ext
namespace Go.Proofs.Ytjfigngmpagloaa.X
open Go.RowKit Go.Proofs.YtjfigngmpagloaaW.PrintWords Go.Proofs.YtjfigngmpagloaaW.PrintLast Go.Proofs.YtjfigngmpagloaaW.PrintMore Go.Proofs.Ytjfigngmpagloaa.Ext
attribute [local go_sem] max2_int min2_int max_two min_two max_three min_three max_four min_four   -- for this text's walks alone
set_option linter.unusedVariables false
set_option linter.unusedSimpArgs false

end Go.Proofs.Ytjfigngmpagloaa.X

namespace Go.Proofs.Ytjfigngmpagloaa.Ext
end Go.Proofs.Ytjfigngmpagloaa.Ext
namespace Go.Proofs.Ytjfigngmpagloaa.X
open Go.RowKit Go.Proofs.YtjfigngmpagloaaW.PrintWords Go.Proofs.YtjfigngmpagloaaW.PrintLast Go.Proofs.YtjfigngmpagloaaW.PrintMore Go.Proofs.Ytjfigngmpagloaa.Ext
attribute [local go_sem] max2_int min2_int max_two min_two max_three min_three max_four min_four   -- for this text's walks alone
set_option linter.unusedVariables false
set_option linter.unusedSimpArgs false

end Go.Proofs.Ytjfigngmpagloaa.X

namespace Go.Proofs.Ytjfigngmpagloaa.Ext
end Go.Proofs.Ytjfigngmpagloaa.Ext
namespace Go.Proofs.Ytjfigngmpagloaa.X
open Go.RowKit Go.Proofs.YtjfigngmpagloaaW.PrintWords Go.Proofs.YtjfigngmpagloaaW.PrintLast Go.Proofs.YtjfigngmpagloaaW.PrintMore Go.Proofs.Ytjfigngmpagloaa.Ext
attribute [local go_sem] max2_int min2_int max_two min_two max_three min_three max_four min_four   -- for this text's walks alone
set_option linter.unusedVariables false
set_option linter.unusedSimpArgs false

end Go.Proofs.Ytjfigngmpagloaa.X

namespace Go.Proofs.Ytjfigngmpagloaa.Tw
open Go Go.RowKit Go.Proofs Go.Proofs.Ytjfigngmpagloaa Go.Proofs.YtjfigngmpagloaaW.PrintWords Go.Proofs.Ytjfigngmpagloaa.Ext Go.Proofs.Ytjfigngmpagloaa.X Go.Proofs.Ytjfigngmpagloaa.Pu
set_option linter.unusedVariables false
set_option linter.unusedSimpArgs false
end Go.Proofs.Ytjfigngmpagloaa.Tw

namespace Go.Proofs.Ytjfigngmpagloaa.Tw
open Go Go.RowKit Go.Proofs Go.Proofs.Ytjfigngmpagloaa Go.Proofs.YtjfigngmpagloaaW.PrintWords Go.Proofs.Ytjfigngmpagloaa.Ext Go.Proofs.Ytjfigngmpagloaa.X Go.Proofs.Ytjfigngmpagloaa.Pu
set_option linter.unusedVariables false
set_option linter.unusedSimpArgs false
section
variable {L : List RN} {last : Int} {s : ByteArray} {lst : Bool} {R : Int × Int}
end
end Go.Proofs.Ytjfigngmpagloaa.Tw

namespace Go.Proofs.Ytjfigngmpagloaa.Tw
open Go Go.RowKit Go.Shelf Go.Proofs Go.Proofs.Ytjfigngmpagloaa Go.Proofs.YtjfigngmpagloaaW.PrintWords Go.Proofs.Ytjfigngmpagloaa.Ext Go.Proofs.Ytjfigngmpagloaa.X Go.Proofs.Ytjfigngmpagloaa.Pu
set_option linter.unusedVariables false
set_option linter.unusedSimpArgs false
set_option maxHeartbeats 2000000 in
set_option maxRecDepth 1000000 in
theorem write_new (p B : Nat) (L : List RN) (last : Int) (path data s : ByteArray) (n d : Int) (k1 k2 : Nat) (w : World) (h : TreeB w p B (trOf L last)) (hG : GoodL L last) (hla : last < 1000000) (hw : wf n) (hd : wf d) (hs : s.size < 4294967281) (hF : findF (trOf L last) true k1 path = some (n, 5)) (hS : spotF (trOf L last) k2 path = some (d, s, 0)) (hN : inR L d s = 0) :
    Calls Try.prog 44 #[pT p, .string path, .string data] w fun e w' => e = .returned (.int .i64 (putRE L d s 2 data)) ∧ TreeB w' p B (trOf (putL L last d s 2 data) (putN L last d s 2 data)) ∧ Frm w w' p B := by
  have hO := trOK hG (by omega)
  have HS := Lib.hid (fun W h => pstat_calls p (trOf L last) path k1 (n, 5) W h hO hw hF)
  rw [show stT (trOf L last) (n, 5) = (0, 0, 0) from rfl] at HS
  have HP := Lib.hid (fun W h => spot_calls p (trOf L last) path k2 (d, s, 0) W h hO hS)
  have HL := Lib.hid (fun W h => list_calls p (trOf L last) d W h hd (hO.small.node d))
  have HE := Lib.hid (fun A c W h hc => find_calls A c ((trOf L last).node d).ents s W h hc (hO.small.node d) (node_rt hO d))
  rw [node_of hG d] at HE HL
  simp only [find_ents hG d s, hN] at HE
  rw [show decide ((0 : Int) < 0) = false from rfl] at HE
  simp only [] at HL
  generalize entsOf L d = es at HE HL
  have HU := Lib.hid (fun W h => tput_calls p B L last d s 2 data W h hG hd hs hla)
  have HT := Lib.hid h
  have HTA := Lib.hid (fun W (hb : Below w.heap.size w W) => (h.below hb).at_)
  have hu := Try.underlying32
  generalize putRE L d s 2 data = pe at HU ⊢
  generalize putA L last d s 2 data = pa at HU
  generalize trOf (putL L last d s 2 data) (putN L last d s 2 data) = T2 at HU ⊢
  generalize trOf L last = T1 at *
  clear h hO hG hla hw hd hs hF hS hN
  go_enter Try.func44, Try.ntmps44
  go_wp2_with (first
    | (go_at_call 15; refine (HS.out _ HT.out.at_).mono ?_; rintro e w2 ⟨rfl, hb2⟩; have HB2 := Lib.hid (hb2.alloc hb2.size (.cells #[.int .i64 0, .int .i64 0, .int .i64 0] 32)); clear hb2)
    | (go_at_call 26; refine (HP.out _ (HTA.out _ HB2.out)).mono ?_; rintro e w3 ⟨rfl, hb3⟩; have HB3 := Lib.hid (HB2.out.trans (hb3.mono HB2.out.size)); clear hb3)
    | (go_at_call 40; refine (HL.out _ (HTA.out _ HB3.out)).mono ?_; rintro e w4 ⟨v, rfl, hv, hb4⟩; obtain ⟨A4, c4, rfl, hl4, hC4⟩ := Kd.R_reads hv; have HB4 := Lib.hid (HB3.out.trans (hb4.mono HB3.out.size)); have HC4 := Lib.hid hC4; clear hv hb4 hC4)
    | (go_at_call 39; refine (HE.out _ _ _ HC4.out hl4).mono ?_; rintro e w5 ⟨rfl, hb5⟩; have HB5 := Lib.hid (HB4.out.trans (hb5.mono HB4.out.size)); clear hb5)
    | (go_at_call 46; refine (HU.out _ (HT.out.below HB5.out)).mono ?_; rintro e w6 ⟨rfl, hT6, hf6⟩))
  go_ret
  exact ⟨rfl, hT6, (Frm.ofBelow HB5.out).trans hf6⟩
abbrev nodesB : List MN := [⟨-1, ⟨#[97]⟩, 1, ⟨#[]⟩⟩, ⟨-1, ⟨#[108]⟩, 3, ⟨#[97]⟩⟩]
abbrev nodesC : List MN := [⟨-1, ⟨#[97]⟩, 1, ⟨#[]⟩⟩, ⟨-1, ⟨#[108]⟩, 3, ⟨#[97]⟩⟩, ⟨0, ⟨#[102]⟩, 2, ⟨#[120]⟩⟩]
abbrev rowsB : List RN := [⟨1, 1, ⟨#[]⟩, 1, ⟨#[]⟩⟩, ⟨2, 1, ⟨#[97]⟩, 1, ⟨#[]⟩⟩, ⟨3, 1, ⟨#[108]⟩, 3, ⟨#[97]⟩⟩]
abbrev rowsC : List RN := [⟨1, 1, ⟨#[]⟩, 1, ⟨#[]⟩⟩, ⟨2, 1, ⟨#[97]⟩, 1, ⟨#[]⟩⟩, ⟨3, 1, ⟨#[108]⟩, 3, ⟨#[97]⟩⟩, ⟨4, 2, ⟨#[102]⟩, 2, ⟨#[120]⟩⟩]
theorem madeB : madeF nodesB = ⟨rowsB, 3, [2, 3]⟩ := by
  simp [madeF, made0, madeStep, dirAt, putL, putN, putA, putRE, dirE, atR, inR, inQ, toL, mayE, Sp.check, ByteArray.size]
theorem madeC : madeF nodesC = ⟨rowsC, 4, [2, 3, 4]⟩ := by
  simp [madeF, made0, madeStep, dirAt, putL, putN, putA, putRE, dirE, atR, inR, inQ, toL, mayE, Sp.check, ByteArray.size]
theorem goodB : GoodL rowsB 3 ∧ GoodM rowsB := by
  have h := made_good nodesB
  rw [madeB] at h
  exact ⟨h.1, h.2.1⟩
theorem goodC : GoodL rowsC 4 ∧ GoodM rowsC := by
  have h := made_good nodesC
  rw [madeC] at h
  exact ⟨h.1, h.2.1⟩
theorem findB : ∃ k, findF (trOf rowsB 3) true k ⟨#[108, 47, 102]⟩ = some (0, 5) := by
  have hG := goodB.1
  refine ⟨10, ?_⟩
  simp [findF, beginE, toL, ByteArray.size, partsB, bs, Sp.parts, Sp.go, Sp.keep, walk_cons, walk_nil, node_of hG, downT_of hG, atR, inR, inQ, Sp.check, slashB, Lib.hasPrefix, Sp.mk]
theorem spotB : ∃ k, spotF (trOf rowsB 3) k ⟨#[108, 47, 102]⟩ = some (2, ⟨#[102]⟩, 0) := by
  have hG := goodB.1
  refine ⟨10, ?_⟩
  simp [spotF, beginE, toL, ByteArray.size, partsB, bs, Sp.parts, Sp.go, Sp.keep, walk_cons, walk_nil, node_of hG, downT_of hG, atR, inR, inQ, Sp.check, slashB, Lib.hasPrefix, Sp.mk]
theorem findC : ∃ k, findF (trOf rowsC 4) true k ⟨#[47, 97, 47, 102]⟩ = some (4, 0) := by
  have hG := goodC.1
  refine ⟨10, ?_⟩
  simp [findF, beginE, toL, ByteArray.size, partsB, bs, Sp.parts, Sp.go, Sp.keep, walk_cons, walk_nil, node_of hG, downT_of hG, atR, inR, inQ, Sp.check, slashB, Lib.hasPrefix, Sp.mk]
theorem putB : putRE rowsB 2 ⟨#[102]⟩ 2 ⟨#[120]⟩ = 0 ∧ putL rowsB 3 2 ⟨#[102]⟩ 2 ⟨#[120]⟩ = rowsC ∧ putN rowsB 3 2 ⟨#[102]⟩ 2 ⟨#[120]⟩ = 4 := by
  simp [putL, putN, putRE, dirE, atR, inR, inQ, toL, mayE, Sp.check, ByteArray.size]
theorem made_B (g : Nat) (W : World) (h : W.heap[g]? = some (.cells (nodesB.flatMap cellsN).toArray 89 (0, 0))) :
    Calls Try.prog 12 #[.slice (some ⟨g, 0, none⟩) 2 2] W fun e w' => ∃ p B v, e = .returned (.tuple #[pT p, v]) ∧ TreeB w' p B (trOf rowsB 3) ∧ RAt w' v rowsB 3 ∧ Below W.heap.size W w' ∧ W.heap.size ≤ p ∧ W.heap.size ≤ B := by
  have := made_calls (some ⟨g, 0, none⟩) 2 nodesB W (litN W g nodesB _ h (by decide)) (by decide) (by decide) (by intro x hx; simp only [nodesB, List.mem_cons, List.not_mem_nil, or_false] at hx; rcases hx with rfl | rfl <;> decide)
  rw [madeB] at this
  exact this
theorem write_B (p B : Nat) (W : World) (h : TreeB W p B (trOf rowsB 3)) :
    Calls Try.prog 44 #[pT p, .string ⟨#[108, 47, 102]⟩, .string ⟨#[120]⟩] W fun e w' => e = .returned (.int .i64 0) ∧ TreeB w' p B (trOf rowsC 4) ∧ Frm W w' p B := by
  obtain ⟨k1, h1⟩ := findB
  obtain ⟨k2, h2⟩ := spotB
  obtain ⟨e1, e2, e3⟩ := putB
  have := write_new p B rowsB 3 ⟨#[108, 47, 102]⟩ ⟨#[120]⟩ ⟨#[102]⟩ 0 2 k1 k2 W h goodB.1 (by decide) wf0 (wf_of (by decide)) (by decide) h1 h2 (by simp [inR, inQ, toL])
  rw [e1, e2, e3] at this
  exact this
theorem read_C (p : Nat) (W : World) (h : TreeAt W p (trOf rowsC 4)) :
    Calls Try.prog 18 #[pT p, .string ⟨#[47, 97, 47, 102]⟩] W fun e w' => e = .returned (.tuple #[.string ⟨#[120]⟩, .int .i64 0]) ∧ Below W.heap.size W w' := by
  obtain ⟨k, hk⟩ := findC
  have hG := goodC.1
  have := pread_calls p (trOf rowsC 4) ⟨#[47, 97, 47, 102]⟩ k (4, 0) W h (trOK hG (by decide)) (wf_of (by decide)) hk
  rw [show askD (trOf rowsC 4) (4, 0) 2 8 = (⟨#[120]⟩, 0) by simp [askD, node_of hG, atR]] at this
  exact this
set_option maxHeartbeats 1000000 in
set_option maxRecDepth 1000000 in
theorem lives09_calls (w : World) : Calls Try.prog 11 #[] w fun e w' => e = .returned (.bool true) ∧ Below w.heap.size w w' := by
  have HBX := Lib.hid (heap_alloc_new w (.cells (nodesB.flatMap cellsN).toArray 89))
  have HB0 := Lib.hid ((Below.refl w.heap.size w).alloc (Nat.le_refl _) (.cells (nodesB.flatMap cellsN).toArray 89))
  have hsz : (w.alloc (.cells (nodesB.flatMap cellsN).toArray 89)).heap.size = w.heap.size + 1 := Array.size_push _
  have HSZ := Lib.hid hsz
  have HM := Lib.hid (made_B w.heap.size)
  have HW := Lib.hid write_B
  have HR := Lib.hid read_C
  clear hsz
  go_enter Try.func11, Try.ntmps11
  go_wp2_with (first
    | (go_at_call 12; refine (HM.out _ HBX.out).mono ?_; rintro e w2 ⟨p, B, v, rfl, hT2, ⟨A2, c2, rfl, _, _⟩, hb2, hp2, hB2⟩; have HT2 := Lib.hid hT2; have HB2 := Lib.hid (HB0.out.trans (hb2.mono HB0.out.size)); have HPB := Lib.hid (show w.heap.size ≤ p ∧ w.heap.size ≤ B by have := HSZ.out; omega); clear hT2 hb2 hp2 hB2)
    | (go_at_call 44; refine (HW.out _ _ _ (HT2.out.below ((Below.refl _ w2).alloc (Nat.le_refl _) _))).mono ?_; rintro e w3 ⟨rfl, hT3, hf3⟩; have HT3 := Lib.hid hT3; have HB3 := Lib.hid ((HB2.out.alloc HB2.out.size _).trans (hf3.below (HB2.out.alloc HB2.out.size _).size HPB.out.1 HPB.out.2)); clear hT3 hf3)
    | (go_at_call 18; refine (HR.out _ _ HT3.out.at_).mono ?_; rintro e w4 ⟨rfl, hb4⟩))
  go_ret
  exact ⟨rfl, HB3.out.trans (hb4.mono HB3.out.size)⟩
end Go.Proofs.Ytjfigngmpagloaa.Tw

namespace Go.Proofs.Ytjfigngmpagloaa.Tw
open Go Go.RowKit Go.Shelf Go.Proofs Go.Proofs.Ytjfigngmpagloaa Go.Proofs.YtjfigngmpagloaaW.PrintWords Go.Proofs.Ytjfigngmpagloaa.Ext Go.Proofs.Ytjfigngmpagloaa.X Go.Proofs.Ytjfigngmpagloaa.Pu
set_option linter.unusedVariables false
set_option linter.unusedSimpArgs false
@[go_sem] theorem fl_rtree1 (v0 v1 : Value) (w : World) : (Instr.field 28 (.agg #[v0, v1]) 1).run Try.prog w = .ok v1 w := by kernel_rfl
set_option maxHeartbeats 4000000 in
set_option maxRecDepth 1000000 in
theorem posixNone_calls (k : Int) (a b : ByteArray) (w : World) (ha : a.size ≤ 1048576) (hb : b.size ≤ 1048576) :
    Calls Try.prog 9 #[.agg #[.int .i64 k, .string a, .string b]] w fun e w' => e = .returned (.bool true) ∧ Below w.heap.size w w' := by
  have HLV := Lib.hid lives09_calls
  have HRN := Lib.hid (fun W => linhayref07_New.calls [⟨1, 1, ⟨#[]⟩, 1, ⟨#[]⟩⟩] 1 W rfl)
  have HA1 := Lib.hid (fun W => lstat_nil a W)
  have HA2 := Lib.hid (fun W => pread_nil a W)
  have HA3 := Lib.hid (fun W => plist_nil a W)
  have HA4 := Lib.hid (fun W => readlink_nil a W)
  have HA5 := Lib.hid (fun W h1 h6 => do_nil k a b W h1 h6)
  have HA6 := Lib.hid (fun W => psame_nil a a W)
  have hu := Try.underlying32
  have hu28 := Try.underlying28
  go_enter Try.func9, Try.ntmps9
  go_upto_region 1 with (fail)
  have hB1 := (Below.refl w.heap.size w).alloc (Nat.le_refl _) (.cells #[.int .i64 k, .string a, .string b] 84)
  have h1 := heap_alloc_new w (.cells #[.int .i64 k, .string a, .string b] 84)
  have HB1 := Lib.hid hB1
  generalize w.alloc (.cells #[.int .i64 k, .string a, .string b] 84) = w1 at h1 HB1 ⊢
  generalize hge : w.heap.size = g at h1 HB1 ⊢
  have HGE := Lib.hid hge
  clear hge hB1
  have H1 := Lib.hid h1
  have HX := Lib.hid (fun (W : World) (h : Below w1.heap.size w1 W) => show W.cell? ⟨g, 0, none⟩ = some (.int .i64 k) ∧ W.cell? ⟨g, 1, none⟩ = some (.string a) ∧ W.cell? ⟨g, 2, none⟩ = some (.string b) by
        have h5 := (h.block _ (blk_lt H1.out)).trans H1.out
        exact ⟨by rw [blk_cell h5]; rfl, by rw [blk_cell h5]; rfl, by rw [blk_cell h5]; rfl⟩)
  obtain ⟨x0, x1, x2⟩ := HX.out _ (Below.refl _ _)
  clear h1
  go_upto_region 2 with (go_at_call 13; refine (HA1.out _).mono ?_; rintro e w2 ⟨rfl, hb2⟩)
  have HB2 := Lib.hid (hb2.alloc hb2.size (.cells #[.int .i64 0, .int .i64 0, .int .i64 0] 32))
  clear hb2 x0 x1 x2
  generalize w2.alloc (.cells #[.int .i64 0, .int .i64 0, .int .i64 0] 32) = w3 at HB2 ⊢
  obtain ⟨x0, x1, x2⟩ := HX.out _ HB2.out
  go_upto_region 5 with (first
    | (go_at_call 18; refine (HA2.out _).mono ?_; rintro e w4 ⟨rfl, hb4⟩; have HB4 := Lib.hid (HB2.out.trans (hb4.mono HB2.out.size)); obtain ⟨x40, x41, x42⟩ := HX.out _ HB4.out; clear hb4)
    | (go_at_call 19; refine (HA3.out _).mono ?_; rintro e w5 ⟨rfl, hb5⟩; have HB5 := Lib.hid (HB4.out.trans (hb5.mono HB4.out.size)); obtain ⟨x50, x51, x52⟩ := HX.out _ HB5.out; clear hb5)
    | (go_at_call 16; refine (HA4.out _).mono ?_; rintro e w6 ⟨rfl, hb6⟩; have HB6 := Lib.hid (HB5.out.trans (hb6.mono HB5.out.size)); obtain ⟨x60, x61, x62⟩ := HX.out _ HB6.out; clear hb6))
  clear x0 x1 x2 x40 x41 x42 x50 x51 x52
  by_cases hk1 : (1 : Int) ≤ k
  · by_cases hk6 : k ≤ 6
    · have HD := Lib.hid (fun W => HA5.out W hk1 hk6)
      clear HA5
      go_upto_region 7 with (go_at_call 42; refine (HD.out _).mono ?_; rintro e w7 ⟨rfl, hb7⟩; have HB7 := Lib.hid (HB6.out.trans (hb7.mono HB6.out.size)); clear hb7)
      clear x60 x61 x62
      obtain ⟨z0, z1, z2⟩ := HX.out _ HB7.out
      go_wp2_with
        (first
          | (go_at_call 22; refine (HA6.out _).mono ?_; rintro e w21 ⟨rfl, hb21⟩; have HB21 : Hid (Below w1.heap.size w1 w21) := Lib.hid (by first | exact HB7.out.trans (hb21.mono HB7.out.size) | exact (below_drew HB7.out).trans (hb21.mono HB7.out.size)); clear hb21)
          | (go_at_call 43; refine (HRN.out _).mono ?_; rintro e w22 ⟨v22, rfl, ho22, hb22⟩; have HB22 : Hid (Below w1.heap.size w1 w22) := Lib.hid (by first | exact HB21.out.trans (hb22.mono HB21.out.size) | exact (below_drew HB21.out).trans (hb22.mono HB21.out.size)); obtain ⟨A22, c22, rfl, _, _⟩ := Kd.R_reads ho22; clear hb22 ho22)
          | (go_at_call 11; refine (HLV.out _).mono ?_; rintro e w23 ⟨rfl, hb23⟩; have HB23 : Hid (Below w1.heap.size w1 w23) := Lib.hid (by first | exact HB22.out.trans (hb23.mono HB22.out.size) | exact (below_drew HB22.out).trans (hb23.mono HB22.out.size)); clear hb23))
      go_wp2
      refine bodyPost_ret (v := .bool true) (by simp [results, Try.results9, go_sem]) rfl ⟨rfl, by rw [HGE.out]; exact HB1.out.trans (HB23.out.mono (by rw [← HGE.out]; exact HB1.out.size))⟩
    · have hk7 : 6 < k := by omega
      have hk8 : decide (k ≤ 6) = false := decide_eq_false hk6
      clear HA5
      go_upto_region 7 with (fail)
      clear x60 x61 x62
      obtain ⟨z0, z1, z2⟩ := HX.out _ HB6.out
      go_wp2_with
        (first
          | (go_at_call 22; refine (HA6.out _).mono ?_; rintro e w21 ⟨rfl, hb21⟩; have HB21 : Hid (Below w1.heap.size w1 w21) := Lib.hid (by first | exact HB6.out.trans (hb21.mono HB6.out.size) | exact (below_drew HB6.out).trans (hb21.mono HB6.out.size)); clear hb21)
          | (go_at_call 43; refine (HRN.out _).mono ?_; rintro e w22 ⟨v22, rfl, ho22, hb22⟩; have HB22 : Hid (Below w1.heap.size w1 w22) := Lib.hid (by first | exact HB21.out.trans (hb22.mono HB21.out.size) | exact (below_drew HB21.out).trans (hb22.mono HB21.out.size)); obtain ⟨A22, c22, rfl, _, _⟩ := Kd.R_reads ho22; clear hb22 ho22)
          | (go_at_call 11; refine (HLV.out _).mono ?_; rintro e w23 ⟨rfl, hb23⟩; have HB23 : Hid (Below w1.heap.size w1 w23) := Lib.hid (by first | exact HB22.out.trans (hb23.mono HB22.out.size) | exact (below_drew HB22.out).trans (hb23.mono HB22.out.size)); clear hb23))
      go_wp2
      refine bodyPost_ret (v := .bool true) (by simp [results, Try.results9, go_sem]) rfl ⟨rfl, by rw [HGE.out]; exact HB1.out.trans (HB23.out.mono (by rw [← HGE.out]; exact HB1.out.size))⟩
  · have hk7 : k < 1 := by omega
    have hk8 : decide (1 ≤ k) = false := decide_eq_false hk1
    clear HA5
    go_upto_region 7 with (fail)
    clear x60 x61 x62
    obtain ⟨z0, z1, z2⟩ := HX.out _ HB6.out
    go_wp2_with
      (first
        | (go_at_call 22; refine (HA6.out _).mono ?_; rintro e w21 ⟨rfl, hb21⟩; have HB21 : Hid (Below w1.heap.size w1 w21) := Lib.hid (by first | exact HB6.out.trans (hb21.mono HB6.out.size) | exact (below_drew HB6.out).trans (hb21.mono HB6.out.size)); clear hb21)
        | (go_at_call 43; refine (HRN.out _).mono ?_; rintro e w22 ⟨v22, rfl, ho22, hb22⟩; have HB22 : Hid (Below w1.heap.size w1 w22) := Lib.hid (by first | exact HB21.out.trans (hb22.mono HB21.out.size) | exact (below_drew HB21.out).trans (hb22.mono HB21.out.size)); obtain ⟨A22, c22, rfl, _, _⟩ := Kd.R_reads ho22; clear hb22 ho22)
        | (go_at_call 11; refine (HLV.out _).mono ?_; rintro e w23 ⟨rfl, hb23⟩; have HB23 : Hid (Below w1.heap.size w1 w23) := Lib.hid (by first | exact HB22.out.trans (hb23.mono HB22.out.size) | exact (below_drew HB22.out).trans (hb23.mono HB22.out.size)); clear hb23))
    go_wp2
    refine bodyPost_ret (v := .bool true) (by simp [results, Try.results9, go_sem]) rfl ⟨rfl, by rw [HGE.out]; exact HB1.out.trans (HB23.out.mono (by rw [← HGE.out]; exact HB1.out.size))⟩
end Go.Proofs.Ytjfigngmpagloaa.Tw
