/- Texts of this session, merged: RelOps, RelCut, RelMove, TrOf, Tops, Rset, RsetOk, Find, Spot. -/
import Derived.Test.YtnpeeiikdcankaaGreatQG2
import Derived.Deep.QuietTactic
import Derived.BigQuiet
set_option linter.unusedVariables false
set_option linter.unusedSimpArgs false

namespace Go.Proofs.YtnpeeiikdcankaaGreat.Tw
open Go Go.RowKit Go.Shelf Go.Proofs Go.Proofs.YtnpeeiikdcankaaGreat Go.Proofs.YtnpeeiikdcankaaGreatW.PrintWords Go.Proofs.YtnpeeiikdcankaaGreat.Ext Go.Proofs.YtnpeeiikdcankaaGreat.X Go.Proofs.YtnpeeiikdcankaaGreat.Pu
theorem rt_ext : ∀ {a b : List En}, Rt a → Rt b → (∀ e, e ∈ a ↔ e ∈ b) → a = b
 | [], [], _, _, _ => rfl
 | [], y :: b, _, _, h => absurd ((h y).2 List.mem_cons_self) (by simp)
 | x :: a, [], _, _, h => absurd ((h x).1 List.mem_cons_self) (by simp)
 | x :: a, y :: b, ha, hb, h => by
  obtain ⟨a1, a2⟩ := List.pairwise_cons.1 ha
  obtain ⟨b1, b2⟩ := List.pairwise_cons.1 hb
  have hxy : x = y := by
   rcases List.mem_cons.1 ((h x).1 List.mem_cons_self) with e | e
   · exact e
   ·
    rcases List.mem_cons.1 ((h y).2 List.mem_cons_self) with e2 | e2
    · exact e2.symm
    ·
     have h1 := b1 x e
     have h2 := a1 y e2
     rw [bl_asym h1] at h2
     cases h2
  subst hxy
  rw [rt_ext a2 b2 (fun e => ⟨fun he => ?_, fun he => ?_⟩)]
  ·
   rcases List.mem_cons.1 ((h e).1 (List.mem_cons_of_mem _ he)) with rfl | h3
   · have := a1 e he; rw [bl_irr] at this; cases this
   · exact h3
  ·
   rcases List.mem_cons.1 ((h e).2 (List.mem_cons_of_mem _ he)) with rfl | h3
   · have := b1 e he; rw [bl_irr] at this; cases this
   · exact h3
theorem cutEn_mem {l : List En} {s : ByteArray} {e : En} : e ∈ cutEn l s ↔ e ∈ l ∧ e.f0 ≠ s := by
 unfold cutEn
 rw [List.mem_filter]
 simp [toL_inj]
theorem cutEn_rt {l : List En} (h : Rt l) (s : ByteArray) : Rt (cutEn l s) := h.filter _
theorem cutEn_len (l : List En) (s : ByteArray) : (cutEn l s).length ≤ l.length := List.length_filter_le _ _
theorem findE_some {l : List En} {s : ByteArray} {e : En} (he : e ∈ l) (hs : e.f0 = s) : (findE l s).2 = true := by
 unfold findE
 cases hq : l.find? (fun e => e.f0.toList == s.toList) with
 | none => exact absurd (List.find?_eq_none.1 hq e he) (by simp [hs])
 | some q => rfl
theorem findE_nil' {l : List En} {s : ByteArray} (h : ∀ e ∈ l, e.f0 ≠ s) : (findE l s).2 = false := by
 unfold findE
 cases hq : l.find? (fun e => e.f0.toList == s.toList) with
 | none => rfl
 | some q => exact absurd (toL_inj.1 (by simpa using List.find?_some hq)) (h q (List.mem_of_find?_eq_some hq))
theorem Tr.ext {T U : Tr} (h1 : ∀ n, T.get n = U.get n) (h2 : T.cnt = U.cnt) (h3 : T.last = U.last) : T = U := by
 obtain ⟨g, c, l⟩ := T
 obtain ⟨g', c', l'⟩ := U
 simp only [Tr.mk.injEq]
 exact ⟨funext h1, h2, h3⟩
def cutL (L : List RN) (n : Int) : List RN := L.filter (fun r => !(r.f0 == n))
def withL (L : List RN) (x : RN) : List RN := L.map (fun r => if r.f0 = x.f0 then x else r)
theorem cutL_mem {L : List RN} {n : Int} {r : RN} : r ∈ cutL L n ↔ r ∈ L ∧ r.f0 ≠ n := by unfold cutL; rw [List.mem_filter]; simp
theorem cutL_find (L : List RN) (n m : Int) : (cutL L n).find? (fun r => r.f0 == m) = if m = n then none else L.find? (fun r => r.f0 == m) := by
 induction L with
 | nil => simp [cutL]
 | cons a L ih =>
  unfold cutL at ih ⊢
  rw [List.filter_cons]
  by_cases h : a.f0 = n
  ·
   rw [show (!(a.f0 == n)) = false by simp [h], if_neg (by simp), ih]
   by_cases e : m = n
   · rw [if_pos e, if_pos e]
   · rw [if_neg e, if_neg e, List.find?_cons, show (a.f0 == m) = false by rw [h]; simpa using fun e2 => e e2.symm]
  ·
   rw [show (!(a.f0 == n)) = true by simp [h], if_pos rfl, List.find?_cons, List.find?_cons, ih]
   by_cases e2 : a.f0 = m
   ·
    have hmn : ¬ m = n := by rw [← e2]; exact h
    rw [show (a.f0 == m) = true by simp [e2]]
    simp only [hmn, if_false]
   · rw [show (a.f0 == m) = false by simp [e2]]
theorem cutL_at {L : List RN} {n m : Int} (h : m ≠ n) : atR (cutL L n) m = atR L m := by unfold atR; rw [cutL_find, if_neg h]
theorem cutL_len {L : List RN} {n : Int} (hu : L.Pairwise (fun a b => a.f0 ≠ b.f0)) (hn : ∃ r ∈ L, r.f0 = n) : (cutL L n).length + 1 = L.length := by
 induction L with
 | nil => obtain ⟨r, hr, _⟩ := hn; cases hr
 | cons a L ih =>
  obtain ⟨h1, h2⟩ := List.pairwise_cons.1 hu
  unfold cutL at ih ⊢
  rw [List.filter_cons]
  by_cases h : a.f0 = n
  ·
   rw [show (!(a.f0 == n)) = false by simp [h], if_neg (by simp)]
   have : L.filter (fun r => !(r.f0 == n)) = L := by
    rw [List.filter_eq_self]
    intro r hr
    have := h1 r hr
    rw [h] at this
    simpa using fun e => this e.symm
   rw [this, List.length_cons]
  ·
   rw [show (!(a.f0 == n)) = true by simp [h], if_pos rfl, List.length_cons, List.length_cons]
   obtain ⟨r, hr, hrn⟩ := hn
   rcases List.mem_cons.1 hr with rfl | hr
   · exact absurd hrn h
   · rw [ih h2 ⟨r, hr, hrn⟩]
theorem withL_f0 (x r : RN) : (if r.f0 = x.f0 then x else r).f0 = r.f0 := by
 split
 · rename_i h; exact h.symm
 · rfl
theorem withL_find (L : List RN) (x : RN) (m : Int) : (withL L x).find? (fun r => r.f0 == m) = (L.find? (fun r => r.f0 == m)).map (fun r => if r.f0 = x.f0 then x else r) := by
 unfold withL
 rw [List.find?_map]
 congr 1
 congr 1
 funext r
 show ((if r.f0 = x.f0 then x else r).f0 == m) = _
 rw [withL_f0]
theorem withL_mem {L : List RN} {x r : RN} (h : r ∈ withL L x) : r = x ∨ (r ∈ L ∧ r.f0 ≠ x.f0) := by
 unfold withL at h
 obtain ⟨q, hq, rfl⟩ := List.mem_map.1 h
 by_cases e : q.f0 = x.f0
 · rw [if_pos e]; exact .inl rfl
 · rw [if_neg e]; exact .inr ⟨hq, e⟩
theorem withL_mem1 {L : List RN} {x r : RN} (h : r ∈ L) (hn : r.f0 ≠ x.f0) : r ∈ withL L x := List.mem_map.2 ⟨r, h, by rw [if_neg hn]⟩
theorem withL_mem2 {L : List RN} {x r : RN} (h : r ∈ L) (hn : r.f0 = x.f0) : x ∈ withL L x := List.mem_map.2 ⟨r, h, by rw [if_pos hn]⟩
theorem withL_len (L : List RN) (x : RN) : (withL L x).length = L.length := List.length_map _
theorem withL_at1 {L : List RN} {x : RN} (h : ∃ r ∈ L, r.f0 = x.f0) : atR (withL L x) x.f0 = x := by
 unfold atR
 rw [withL_find]
 obtain ⟨r, hr, hrx⟩ := h
 cases hf : L.find? (fun r => r.f0 == x.f0) with
 | none => exact absurd (List.find?_eq_none.1 hf r hr) (by simp [hrx])
 | some q =>
  have : q.f0 = x.f0 := by simpa using List.find?_some hf
  simp [this]
theorem withL_at2 {L : List RN} {x : RN} {m : Int} (h : m ≠ x.f0) : atR (withL L x) m = atR L m := by
 unfold atR
 rw [withL_find]
 cases hf : L.find? (fun r => r.f0 == m) with
 | none => rfl
 | some q =>
  have : q.f0 = m := by simpa using List.find?_some hf
  simp [this, h]
theorem withL_kind {L : List RN} {x : RN} (hk : (atR L x.f0).f3 = x.f3) (h : ∃ r ∈ L, r.f0 = x.f0) (m : Int) : (atR (withL L x) m).f3 = (atR L m).f3 := by
 by_cases e : m = x.f0
 · subst e; rw [withL_at1 h, hk]
 · rw [withL_at2 e]
theorem GoodL.root_at {L : List RN} {last : Int} (h : GoodL L last) : (atR L 1).f3 = 1 ∧ (atR L 1).f1 = 1 := by
 obtain ⟨r, hr, h1, h2, h3⟩ := h.root
 have := at_mem h hr
 rw [h1] at this
 rw [this]
 exact ⟨h3, h2⟩
theorem GoodL.cut {L : List RN} {last : Int} (h : GoodL L last) {n : Int} (hn1 : n ≠ 1) (hne : entsOf L n = []) : GoodL (cutL L n) last := by
 refine ⟨Nat.le_trans (List.length_filter_le _ _) h.len, fun r hr => h.num r (cutL_mem.1 hr).1, h.uniq.filter _, h.names.filter _, fun r hr => h.data r (cutL_mem.1 hr).1, fun r hr => ?_, ?_⟩
 ·
  obtain ⟨h1, h2⟩ := cutL_mem.1 hr
  have hu := h.up r h1
  rw [cutL_at ?_]
  · exact hu
  ·
   intro e
   by_cases h3 : r.f0 = 1
   ·
    have h4 := at_mem h h1
    rw [h3] at h4
    have := h.root_at.2
    rw [h4, e] at this
    exact hn1 this
   ·
    have hm : (⟨r.f2, r.f0⟩ : En) ∈ entsOf L n := mem_ents.2 ⟨r, h1, isIn_iff.2 ⟨e, h3⟩, rfl⟩
    rw [hne] at hm
    cases hm
 ·
  obtain ⟨r, hr, h1, h2⟩ := h.root
  exact ⟨r, cutL_mem.2 ⟨hr, by rw [h1]; exact fun e => hn1 e.symm⟩, h1, h2⟩
theorem rank_norm {L : List RN} {last : Int} (h : GoodL L last) {d : Int → Nat} (hd : ∀ r ∈ L, r.f0 ≠ 1 → d r.f1 < d r.f0) :
  ∃ d : Int → Nat, (∀ n, d n ≤ L.length) ∧ ∀ r ∈ L, r.f0 ≠ 1 → d r.f1 < d r.f0 := by
 refine ⟨fun n => (L.filter (fun r => decide (d r.f0 < d n))).length, fun n => List.length_filter_le _ _, fun r hr h1 => ?_⟩
 obtain ⟨q, hq, hqn, _⟩ := at_kind (L := L) (n := r.f1) (by rw [h.up r hr]; decide)
 have hlt := hd r hr h1
 have key : ∀ M : List RN, (M.filter (fun x => decide (d x.f0 < d r.f1))).length ≤ (M.filter (fun x => decide (d x.f0 < d r.f0))).length ∧ (q ∈ M → (M.filter (fun x => decide (d x.f0 < d r.f1))).length < (M.filter (fun x => decide (d x.f0 < d r.f0))).length) := by
  intro M
  induction M with
  | nil => exact ⟨Nat.le_refl _, fun h => by cases h⟩
  | cons a M ih =>
   obtain ⟨i1, i2⟩ := ih
   rw [List.filter_cons, List.filter_cons]
   by_cases c1 : d a.f0 < d r.f1
   ·
    have c2 : d a.f0 < d r.f0 := Nat.lt_trans c1 hlt
    rw [decide_eq_true c1, decide_eq_true c2, if_pos rfl, if_pos rfl, List.length_cons, List.length_cons]
    refine ⟨by omega, fun hm => ?_⟩
    rcases List.mem_cons.1 hm with rfl | hm
    · rw [hqn] at c1; omega
    · have := i2 hm; omega
   ·
    rw [decide_eq_false c1, if_neg (by simp)]
    by_cases c2 : d a.f0 < d r.f0
    ·
     rw [decide_eq_true c2, if_pos rfl, List.length_cons]
     exact ⟨by omega, fun _ => by omega⟩
    ·
     rw [decide_eq_false c2, if_neg (by simp)]
     refine ⟨i1, fun hm => ?_⟩
     rcases List.mem_cons.1 hm with rfl | hm
     · rw [hqn] at c2; exact absurd hlt c2
     · exact i2 hm
 exact (key L).2 hq
theorem GoodM.cut {L : List RN} {last : Int} (h : GoodL L last) (hM : GoodM L) {n : Int} (hn1 : n ≠ 1) (hne : entsOf L n = []) : GoodM (cutL L n) := by
 obtain ⟨d, -, hd⟩ := hM.rank
 exact ⟨fun r hr => hM.nm r (cutL_mem.1 hr).1, fun r hr => hM.link r (cutL_mem.1 hr).1, fun r hr => hM.kind r (cutL_mem.1 hr).1, fun r hr => hM.dirs r (cutL_mem.1 hr).1, rank_norm (h.cut hn1 hne) (fun r hr => hd r (cutL_mem.1 hr).1)⟩
theorem GoodL.with {L : List RN} {last : Int} (h : GoodL L last) {x : RN} (hx1 : x.f0 ≠ 1) (hmem : ∃ r ∈ L, r.f0 = x.f0) (hk : (atR L x.f0).f3 = x.f3) (hdata : x.f4.size ≤ 65536) (hup : (atR L x.f1).f3 = 1)
  (hnm : ∀ r ∈ L, r.f0 ≠ x.f0 → r.f1 = x.f1 → r.f0 ≠ 1 → r.f2 ≠ x.f2) : GoodL (withL L x) last := by
 refine ⟨by rw [withL_len]; exact h.len, fun r hr => ?_, ?_, ?_, fun r hr => ?_, fun r hr => ?_, ?_⟩
 ·
  rcases withL_mem hr with rfl | hr
  ·
   obtain ⟨q, hq, hqn⟩ := hmem
   rw [← hqn]
   exact h.num q hq
  · exact h.num r hr.1
 ·
  unfold withL
  rw [List.pairwise_map]
  refine h.uniq.imp (fun {a b} hab => ?_)
  rw [withL_f0, withL_f0]
  exact hab
 ·
  unfold withL
  rw [List.pairwise_map]
  refine (h.uniq.and h.names).imp_of_mem (fun {a b} ha hb hab => ?_)
  intro h1 h2 h3
  rw [withL_f0] at h2 h3
  by_cases ea : a.f0 = x.f0
  ·
   have eb : ¬ b.f0 = x.f0 := fun e => hab.1 (ea.trans e.symm)
   rw [if_pos ea, if_neg eb] at h1 ⊢
   exact (hnm b hb eb h1.symm h3).symm
  ·
   by_cases eb : b.f0 = x.f0
   ·
    rw [if_neg ea, if_pos eb] at h1 ⊢
    exact hnm a ha ea h1 h2
   ·
    rw [if_neg ea, if_neg eb] at h1 ⊢
    exact hab.2 h1 h2 h3
 ·
  rcases withL_mem hr with rfl | hr
  · exact hdata
  · exact h.data r hr.1
 ·
  rw [withL_kind hk hmem]
  rcases withL_mem hr with rfl | hr
  · exact hup
  · exact h.up r hr.1
 ·
  obtain ⟨r, hr, h1, h2⟩ := h.root
  exact ⟨r, withL_mem1 hr (by rw [h1]; exact fun e => hx1 e.symm), h1, h2⟩
theorem GoodM.with {L : List RN} {last : Int} {x : RN} (hG : GoodL (withL L x) last) (hM : GoodM L) (hn : Sp.check x.f2.data.toList = 0) (hl : x.f3 = 3 → 0 < x.f4.size) (hk : 1 ≤ x.f3 ∧ x.f3 ≤ 3) (hd : x.f3 = 1 → x.f4.size = 0)
  (hr : ∃ d : Int → Nat, ∀ r ∈ withL L x, r.f0 ≠ 1 → d r.f1 < d r.f0) : GoodM (withL L x) := by
 obtain ⟨d, hd'⟩ := hr
 refine ⟨fun r hr h1 => ?_, fun r hr h1 => ?_, fun r hr => ?_, fun r hr h1 => ?_, rank_norm hG hd'⟩
 ·
  rcases withL_mem hr with rfl | hr
  · exact hn
  · exact hM.nm r hr.1 h1
 ·
  rcases withL_mem hr with rfl | hr
  · exact hl h1
  · exact hM.link r hr.1 h1
 ·
  rcases withL_mem hr with rfl | hr
  · exact hk
  · exact hM.kind r hr.1
 ·
  rcases withL_mem hr with rfl | hr
  · exact hd h1
  · exact hM.dirs r hr.1 h1
end Go.Proofs.YtnpeeiikdcankaaGreat.Tw

namespace Go.Proofs.YtnpeeiikdcankaaGreat.Tw
open Go Go.RowKit Go.Shelf Go.Proofs Go.Proofs.YtnpeeiikdcankaaGreat Go.Proofs.YtnpeeiikdcankaaGreatW.PrintWords Go.Proofs.YtnpeeiikdcankaaGreat.Ext Go.Proofs.YtnpeeiikdcankaaGreat.X Go.Proofs.YtnpeeiikdcankaaGreat.Pu
def cutRE (L : List RN) (d : Int) (s : ByteArray) : Int :=
 if dirE (atR L d).f3 ≠ 0 then dirE (atR L d).f3 else if inR L d s = 0 then 5 else if 0 < (entsOf L (inR L d s)).length then 9 else 0
theorem in_dec {L : List RN} {last : Int} (h : GoodL L last) (d : Int) (s : ByteArray) : (decide (0 < inR L d s) = false) = (inR L d s = 0) := by
 have := (inR_le h d s).1
 rw [decide_eq_false_iff_not]
 exact propext ⟨fun e => by omega, fun e => by omega⟩
theorem cutE_eq {L : List RN} {last : Int} (h : GoodL L last) (d : Int) (s : ByteArray) : cutE (trOf L last) d s = cutRE L d s := by
 unfold cutE cutRE
 rw [node_of h d]
 simp only [find_ents h d s]
 rw [node_of h (inR L d s)]
 simp only [in_dec h]
theorem cutRE_zero {L : List RN} {d : Int} {s : ByteArray} (h : cutRE L d s = 0) : (atR L d).f3 = 1 ∧ inR L d s ≠ 0 ∧ entsOf L (inR L d s) = [] := by
 unfold cutRE at h
 split at h
 · rename_i g; exact absurd h g
 ·
  rename_i g1
  split at h
  · cases h
  ·
   rename_i g2
   split at h
   · cases h
   ·
    rename_i g3
    exact ⟨dirE_zero (Decidable.byContradiction fun e => g1 e), g2, List.eq_nil_of_length_eq_zero (by omega)⟩
theorem find_of {L : List RN} {last : Int} (h : GoodL L last) {r : RN} (hr : r ∈ L) : L.find? (fun q => q.f0 == r.f0) = some r := find_num h.uniq hr
theorem ents_cut {L : List RN} {last : Int} (h : GoodL L last) {r : RN} (hr : r ∈ L) (h1 : r.f0 ≠ 1) (hne : entsOf L r.f0 = []) (m : Int) : entsOf (cutL L r.f0) m = if m = r.f1 then cutEn (entsOf L r.f1) r.f2 else entsOf L m := by
 have hrt := (h.cut h1 hne).rt m
 by_cases e : m = r.f1
 ·
  subst e
  rw [if_pos rfl]
  refine rt_ext hrt (cutEn_rt (h.rt _) _) (fun x => ?_)
  rw [cutEn_mem, mem_ents, mem_ents]
  constructor
  ·
   rintro ⟨q, hq, hi, rfl⟩
   obtain ⟨q1, q2⟩ := cutL_mem.1 hq
   refine ⟨⟨q, q1, hi, rfl⟩, fun e => ?_⟩
   obtain ⟨i1, i2⟩ := isIn_iff.1 hi
   have hin := find_ents h r.f1 r.f2
   have hA : (⟨q.f2, q.f0⟩ : En) ∈ entsOf L r.f1 := mem_ents.2 ⟨q, q1, hi, rfl⟩
   have hB : (⟨r.f2, r.f0⟩ : En) ∈ entsOf L r.f1 := mem_ents.2 ⟨r, hr, isIn_iff.2 ⟨rfl, h1⟩, rfl⟩
   have hpw := h.names
   have := List.pairwise_iff_getElem.1 hpw
   obtain ⟨i, hi', rfl⟩ := List.mem_iff_getElem.1 q1
   obtain ⟨j, hj, rfl⟩ := List.mem_iff_getElem.1 hr
   rcases Nat.lt_trichotomy i j with c | c | c
   · exact this i j hi' hj c i1 i2 h1 e
   · subst c; exact q2 rfl
   · exact this j i hj hi' c i1.symm h1 i2 e.symm
  ·
   rintro ⟨⟨q, q1, hi, rfl⟩, hn⟩
   refine ⟨q, cutL_mem.2 ⟨q1, fun e => ?_⟩, hi, rfl⟩
   have e1 := find_of h q1
   have e2 := find_of h hr
   rw [e] at e1
   rw [e1] at e2
   have := Option.some.inj e2
   rw [this] at hn
   exact hn rfl
 ·
  rw [if_neg e]
  refine rt_ext hrt (h.rt _) (fun x => ?_)
  rw [mem_ents, mem_ents]
  constructor
  ·
   rintro ⟨q, hq, hi, rfl⟩
   exact ⟨q, (cutL_mem.1 hq).1, hi, rfl⟩
  ·
   rintro ⟨q, q1, hi, rfl⟩
   refine ⟨q, cutL_mem.2 ⟨q1, fun e2 => ?_⟩, hi, rfl⟩
   have e1 := find_of h q1
   have e3 := find_of h hr
   rw [e2] at e1
   rw [e1] at e3
   have := Option.some.inj e3
   rw [this] at hi
   exact e (isIn_iff.1 hi).1.symm
theorem tr_get {L : List RN} {last : Int} (m : Int) : (trOf L last).get m = (L.find? (fun r => r.f0 == m)).map (ndOf L) := rfl
theorem tr_get_live {L : List RN} {last : Int} (h : GoodL L last) {m : Int} (hk : (atR L m).f3 ≠ 0) : (trOf L last).get m = some ((trOf L last).node m) := by
 unfold Tr.node
 obtain ⟨q, hq, hqm, _⟩ := at_kind hk
 have := find_of h hq
 rw [hqm] at this
 rw [tr_get, this]
 rfl
theorem live_ents {L : List RN} {last : Int} (h : GoodL L last) {r : RN} (hr : r ∈ L) (h1 : r.f0 ≠ 1) : entsOf L r.f1 ≠ [] := by
 intro e
 have hm : (⟨r.f2, r.f0⟩ : En) ∈ entsOf L r.f1 := mem_ents.2 ⟨r, hr, isIn_iff.2 ⟨rfl, h1⟩, rfl⟩
 rw [e] at hm
 cases hm
theorem cutT_eq {L : List RN} {last : Int} (h : GoodL L last) {d : Int} {s : ByteArray} (he : cutRE L d s = 0) : cutT (trOf L last) d s = trOf (cutL L (inR L d s)) last := by
 obtain ⟨z1, z2, z3⟩ := cutRE_zero he
 obtain ⟨r, hr, hrn, hrd, hrs, hr1, _⟩ := inR_mem h z2
 unfold cutT
 rw [node_of h d]
 simp only [find_ents h d s]
 rw [← hrn] at z3 ⊢
 subst hrd hrs
 have hdn : r.f1 ≠ r.f0 := fun e => live_ents h hr hr1 (by rw [e]; exact z3)
 have hlive : (trOf L last).get r.f1 = some ((trOf L last).node r.f1) := tr_get_live h (by rw [z1]; decide)
 have hgr : (trOf L last).get r.f0 = some (ndOf L r) := by rw [tr_get, find_of h hr]; rfl
 have hents := ents_cut h hr hr1 z3
 refine Tr.ext (fun m => ?_) ?_ rfl
 ·
  show (if m = r.f1 then some { ((trOf L last).del r.f0).node r.f1 with ents := cutEn (entsOf L r.f1) r.f2 } else (if m = r.f0 then none else (trOf L last).get m)) = _
  rw [node_del_ne hdn, tr_get (L := cutL L r.f0), cutL_find]
  by_cases e : m = r.f1
  ·
   subst e
   rw [if_pos rfl, if_neg hdn, node_of h]
   obtain ⟨q, hq, hqm, hqa⟩ := at_kind (L := L) (n := r.f1) (by rw [z1]; decide)
   have := find_of h hq
   rw [hqm] at this
   rw [this, hqa]
   simp only [Option.map_some, ndOf, hqm, hents, if_true]
  ·
   rw [if_neg e]
   by_cases e2 : m = r.f0
   · rw [if_pos e2, if_pos e2]; rfl
   ·
    rw [if_neg e2, if_neg e2, tr_get]
    cases hf : L.find? (fun r => r.f0 == m) with
    | none => rfl
    | some q =>
     have hqm : q.f0 = m := by simpa using List.find?_some hf
     simp only [Option.map_some, ndOf, hqm, hents, if_neg e]
 ·
  have h1 : (((trOf L last).del r.f0).get r.f1).isSome = true := by
   show (if r.f1 = r.f0 then none else (trOf L last).get r.f1).isSome = true
   rw [if_neg hdn, hlive]; rfl
  show (if (((trOf L last).del r.f0).get r.f1).isSome then ((trOf L last).del r.f0).cnt else ((trOf L last).del r.f0).cnt + 1) = (cutL L r.f0).length
  rw [h1, if_pos rfl]
  show (if ((trOf L last).get r.f0).isSome then L.length - 1 else L.length) = _
  rw [hgr, Option.isSome_some, if_pos rfl]
  have := cutL_len h.uniq ⟨r, hr, rfl⟩
  omega
theorem cut_good {L : List RN} {last : Int} (h : GoodL L last) (hM : GoodM L) {d : Int} {s : ByteArray} (he : cutRE L d s = 0) : GoodL (cutL L (inR L d s)) last ∧ GoodM (cutL L (inR L d s)) := by
 obtain ⟨z1, z2, z3⟩ := cutRE_zero he
 obtain ⟨r, hr, hrn, hrd, hrs, hr1, _⟩ := inR_mem h z2
 rw [hrn] at hr1
 exact ⟨h.cut hr1 z3, GoodM.cut h hM hr1 z3⟩
theorem ents_with {L : List RN} {x : RN} (hm : ∃ r ∈ L, r.f0 = x.f0) (m : Int) (e : En) : e ∈ entsOf (withL L x) m ↔ (isIn m x = true ∧ e = ⟨x.f2, x.f0⟩) ∨ ∃ r ∈ L, r.f0 ≠ x.f0 ∧ isIn m r = true ∧ e = ⟨r.f2, r.f0⟩ := by
 rw [mem_ents]
 constructor
 ·
  rintro ⟨q, hq, hi, rfl⟩
  rcases withL_mem hq with rfl | hq
  · exact .inl ⟨hi, rfl⟩
  · exact .inr ⟨q, hq.1, hq.2, hi, rfl⟩
 ·
  rintro (⟨hi, rfl⟩ | ⟨q, hq, hn, hi, rfl⟩)
  ·
   obtain ⟨r, hr, hrx⟩ := hm
   exact ⟨x, withL_mem2 hr hrx, hi, rfl⟩
  · exact ⟨q, withL_mem1 hq hn, hi, rfl⟩
def setRE (L : List RN) (n : Int) (data : ByteArray) : Int := if (atR L n).f3 = 0 then 5 else if (atR L n).f3 = 1 then 8 else mayE (atR L n).f3 data
def setX (L : List RN) (n : Int) (data : ByteArray) : RN := { atR L n with f4 := data }
theorem setE_eq {L : List RN} {last : Int} (h : GoodL L last) (n : Int) (data : ByteArray) : setE (trOf L last) n data = setRE L n data := by
 unfold setE setRE
 rw [node_of h n]
theorem setRE_zero {L : List RN} {n : Int} {data : ByteArray} (h : setRE L n data = 0) : (atR L n).f3 ≠ 0 ∧ (atR L n).f3 ≠ 1 ∧ mayE (atR L n).f3 data = 0 := by
 unfold setRE at h
 split at h
 · cases h
 ·
  split at h
  · cases h
  · exact ⟨by assumption, by assumption, h⟩
theorem set_row {L : List RN} {last : Int} (h : GoodL L last) {n : Int} {data : ByteArray} (hk : (atR L n).f3 ≠ 0) : ∃ r ∈ L, r.f0 = n ∧ atR L n = r ∧ (setX L n data).f0 = n := by
 obtain ⟨r, hr, hrn, hra⟩ := at_kind hk
 exact ⟨r, hr, hrn, hra, by show (atR L n).f0 = n; rw [hra]; exact hrn⟩
theorem set_good {L : List RN} {last : Int} (h : GoodL L last) (hM : GoodM L) {n : Int} {data : ByteArray} (he : setRE L n data = 0) : GoodL (withL L (setX L n data)) last ∧ GoodM (withL L (setX L n data)) := by
 obtain ⟨z1, z2, z3⟩ := setRE_zero he
 obtain ⟨r, hr, hrn, hra, hx0⟩ := set_row h (data := data) z1
 have hm := mayE_more z3
 have hx1 : (setX L n data).f0 ≠ 1 := by
  rw [hx0]
  intro e
  rw [e] at z2
  exact z2 h.root_at.1
 have hmem : ∃ r ∈ L, r.f0 = (setX L n data).f0 := ⟨r, hr, by rw [hx0]; exact hrn⟩
 have hk : (atR L (setX L n data).f0).f3 = (setX L n data).f3 := by rw [hx0]; rfl
 have hup : (atR L (setX L n data).f1).f3 = 1 := by
  show (atR L (atR L n).f1).f3 = 1
  rw [hra]; exact h.up r hr
 have hG : GoodL (withL L (setX L n data)) last := by
  refine h.with hx1 hmem hk (mayE_zero z3).2 hup (fun q hq hn h1 h2 h3 => ?_)
  have e1 : (setX L n data).f1 = r.f1 := by show (atR L n).f1 = _; rw [hra]
  have e2 : (setX L n data).f2 = r.f2 := by show (atR L n).f2 = _; rw [hra]
  rw [e1] at h1
  rw [e2] at h3
  rw [hx0, ← hrn] at hn
  have hr1 : r.f0 ≠ 1 := by rw [hrn, ← hx0]; exact hx1
  have := List.pairwise_iff_getElem.1 h.names
  obtain ⟨i, hi, rfl⟩ := List.mem_iff_getElem.1 hq
  obtain ⟨j, hj, rfl⟩ := List.mem_iff_getElem.1 hr
  rcases Nat.lt_trichotomy i j with c | c | c
  · exact this i j hi hj c h1 h2 hr1 h3
  · subst c; exact hn rfl
  · exact this j i hj hi c h1.symm hr1 h2 h3.symm
 refine ⟨hG, hM.with hG ?_ hm.2.1 hm.1 hm.2.2 ?_⟩
 ·
  show Sp.check (atR L n).f2.data.toList = 0
  rw [hra]
  exact hM.nm r hr (by rw [hrn, ← hx0]; exact hx1)
 ·
  obtain ⟨d, -, hd⟩ := hM.rank
  refine ⟨d, fun q hq h1 => ?_⟩
  rcases withL_mem hq with rfl | hq
  ·
   have := hd r hr (by rw [hrn, ← hx0]; exact hx1)
   show d (atR L n).f1 < d (atR L n).f0
   rw [hra]; exact this
  · exact hd q hq.1 h1
theorem setT_eq {L : List RN} {last : Int} (h : GoodL L last) (hM : GoodM L) {n : Int} {data : ByteArray} (he : setRE L n data = 0) : setT (trOf L last) n data = trOf (withL L (setX L n data)) last := by
 obtain ⟨z1, z2, z3⟩ := setRE_zero he
 obtain ⟨r, hr, hrn, hra, hx0⟩ := set_row h (data := data) z1
 have hG := (set_good h hM he).1
 have hmem : ∃ r ∈ L, r.f0 = (setX L n data).f0 := ⟨r, hr, by rw [hx0]; exact hrn⟩
 have hents : ∀ m, entsOf (withL L (setX L n data)) m = entsOf L m := by
  intro m
  refine rt_ext (hG.rt m) (h.rt m) (fun e => ?_)
  rw [ents_with hmem, mem_ents]
  have hi : isIn m (setX L n data) = isIn m r := by
   show ((atR L n).f1 == m && !((atR L n).f0 == 1)) = _
   rw [hra]; rfl
  have h2 : (⟨(setX L n data).f2, (setX L n data).f0⟩ : En) = ⟨r.f2, r.f0⟩ := by
   show (⟨(atR L n).f2, (atR L n).f0⟩ : En) = _
   rw [hra]
  constructor
  ·
   rintro (⟨h3, rfl⟩ | ⟨q, hq, _, h3, rfl⟩)
   · exact ⟨r, hr, by rw [← hi]; exact h3, h2⟩
   · exact ⟨q, hq, h3, rfl⟩
  ·
   rintro ⟨q, hq, h3, rfl⟩
   by_cases e : q.f0 = (setX L n data).f0
   ·
    have e1 := find_of h hq
    have e2 := find_of h hr
    rw [e, hx0] at e1
    rw [hrn] at e2
    rw [e1] at e2
    have := Option.some.inj e2
    subst this
    exact .inl ⟨by rw [hi]; exact h3, h2.symm⟩
   · exact .inr ⟨q, hq, e, h3, rfl⟩
 have hlive := tr_get_live h z1
 refine Tr.ext (fun m => ?_) ?_ rfl
 ·
  show (if m = n then some { (trOf L last).node n with data := data } else (trOf L last).get m) = _
  rw [tr_get (L := withL L _), withL_find]
  by_cases e : m = n
  ·
   subst e
   have := find_of h hr
   rw [hrn] at this
   rw [if_pos rfl, node_of h, this]
   simp only [Option.map_some, ndOf, hx0, hrn, if_true, hents]
   rfl
  ·
   rw [if_neg e, tr_get]
   cases hf : L.find? (fun r => r.f0 == m) with
   | none => rfl
   | some q =>
    have hqm : q.f0 = m := by simpa using List.find?_some hf
    have hne : ¬ q.f0 = (setX L n data).f0 := by rw [hqm, hx0]; exact e
    simp only [Option.map_some, ndOf, hents, if_neg hne]
 ·
  show (if ((trOf L last).get n).isSome then L.length else L.length + 1) = (withL L _).length
  rw [hlive, Option.isSome_some, if_pos rfl, withL_len]
end Go.Proofs.YtnpeeiikdcankaaGreat.Tw

namespace Go.Proofs.YtnpeeiikdcankaaGreat.Tw
open Go Go.RowKit Go.Shelf Go.Proofs Go.Proofs.YtnpeeiikdcankaaGreat Go.Proofs.YtnpeeiikdcankaaGreatW.PrintWords Go.Proofs.YtnpeeiikdcankaaGreat.Ext Go.Proofs.YtnpeeiikdcankaaGreat.X Go.Proofs.YtnpeeiikdcankaaGreat.Pu
def roomRE (L : List RN) (n td : Int) (z : ByteArray) : Bool × Int :=
 if inR L td z = 0 then (false, 0) else if inR L td z = n then (true, 0) else
  if (atR L (inR L td z)).f3 = 1 ∧ (atR L n).f3 ≠ 1 then (false, 8) else
   if (atR L n).f3 = 1 ∧ (atR L (inR L td z)).f3 ≠ 1 then (false, 7) else (false, cutRE L td z)
theorem roomE_eq {L : List RN} {last : Int} (h : GoodL L last) (n td : Int) (z : ByteArray) : roomE (trOf L last) n td z = roomRE L n td z := by
 unfold roomE roomRE
 rw [node_of h td, cutE_eq h, node_of h n]
 simp only [find_ents h td z]
 rw [node_of h (inR L td z)]
 simp only [in_dec h]
def movRE (L : List RN) (fr : Int) (s : ByteArray) (td : Int) (z : ByteArray) (ins : Bool) : Int :=
 if dirE (atR L fr).f3 ≠ 0 then dirE (atR L fr).f3 else if dirE (atR L td).f3 ≠ 0 then dirE (atR L td).f3 else
  if inR L fr s = 0 then 5 else if Sp.check z.data.toList ≠ 0 then Sp.check z.data.toList else
   if (atR L (inR L fr s)).f3 = 1 ∧ ins = true then 14 else
    if (roomRE L (inR L fr s) td z).1 = true then 0 else (roomRE L (inR L fr s) td z).2
theorem movE_eq {L : List RN} {last : Int} (h : GoodL L last) (fr : Int) (s : ByteArray) (td : Int) (z : ByteArray) (ins : Bool) : movE (trOf L last) fr s td z ins = movRE L fr s td z ins := by
 unfold movE movRE
 rw [node_of h fr, node_of h td]
 simp only [find_ents h fr s]
 rw [node_of h (inR L fr s), roomE_eq h]
 simp only [in_dec h]
theorem movRE_zero {L : List RN} {fr : Int} {s : ByteArray} {td : Int} {z : ByteArray} {ins : Bool} (h : movRE L fr s td z ins = 0) :
  (atR L fr).f3 = 1 ∧ (atR L td).f3 = 1 ∧ inR L fr s ≠ 0 ∧ Sp.check z.data.toList = 0 ∧ ((atR L (inR L fr s)).f3 = 1 → ins = false) ∧ ((roomRE L (inR L fr s) td z).1 = true ∨ (roomRE L (inR L fr s) td z).2 = 0) := by
 unfold movRE at h
 split at h
 · rename_i g; exact absurd h g
 ·
  rename_i g1
  split at h
  · rename_i g; exact absurd h g
  ·
   rename_i g2
   split at h
   · cases h
   ·
    rename_i g3
    split at h
    · rename_i g; exact absurd h g
    ·
     rename_i g4
     split at h
     · cases h
     ·
      rename_i g5
      refine ⟨dirE_zero (Decidable.byContradiction fun e => g1 e), dirE_zero (Decidable.byContradiction fun e => g2 e), g3, Decidable.byContradiction fun e => g4 e, fun hk => ?_, ?_⟩
      ·
       cases ins with
       | true => exact absurd ⟨hk, rfl⟩ g5
       | false => rfl
      ·
       split at h
       · exact .inl (by assumption)
       · exact .inr h
theorem ins_ex {L : List RN} {last : Int} (h : GoodL L last) (hM : GoodM L) (n : Int) : ∀ m, (atR L m).f3 ≠ 0 → ∃ k r, insF (trOf L last) k m n = some r := by
 obtain ⟨d, -, hd⟩ := hM.rank
 have key : ∀ (q : Nat) (m : Int), d m < q → (atR L m).f3 ≠ 0 → ∃ k r, insF (trOf L last) k m n = some r := by
  intro q
  induction q with
  | zero => intro m hq; omega
  | succ q ih =>
   intro m hq hm
   by_cases e1 : m = n
   · exact ⟨1, true, by simp [insF, e1]⟩
   ·
    by_cases e2 : m = 1
    · exact ⟨1, false, by unfold insF; rw [if_neg e1, if_pos e2]⟩
    ·
     obtain ⟨r, hr, hrm, hra⟩ := at_kind hm
     have hlt := hd r hr (by rw [hrm]; exact e2)
     rw [hrm] at hlt
     obtain ⟨k, b, hk⟩ := ih r.f1 (by omega) (by rw [h.up r hr]; decide)
     refine ⟨k + 1, b, ?_⟩
     unfold insF
     rw [if_neg e1, if_neg e2, node_of h, hra]
     exact hk
 exact fun m hm => key (d m + 1) m (by omega) hm
theorem insF_mono {T : Tr} : ∀ (k : Nat) (m n : Int) (r : Bool), insF T k m n = some r → insF T (k + 1) m n = some r
 | 0, m, n, r, h => by simp [insF] at h
 | k + 1, m, n, r, h => by
  unfold insF at h ⊢
  by_cases e1 : m = n
  · rw [if_pos e1] at h ⊢; exact h
  ·
   by_cases e2 : m = 1
   · rw [if_neg e1, if_pos e2] at h ⊢; exact h
   ·
    rw [if_neg e1, if_neg e2] at h ⊢
    exact insF_mono k _ n r h
theorem insF_le {T : Tr} {k k' : Nat} {m n : Int} {r : Bool} (h : insF T k m n = some r) (hk : k ≤ k') : insF T k' m n = some r := by
 induction hk with
 | refl => exact h
 | step _ ih => exact insF_mono _ _ _ _ ih
theorem insF_det {T : Tr} {k k' : Nat} {m n : Int} {r r' : Bool} (h : insF T k m n = some r) (h' : insF T k' m n = some r') : r = r' := by
 have h1 := insF_le h (Nat.le_max_left k k')
 have h2 := insF_le h' (Nat.le_max_right k k')
 rw [h1] at h2
 exact Option.some.inj h2
theorem mov_rank {L : List RN} {last : Int} (h : GoodL L last) (hM : GoodM L) {n td : Int} {x : RN} {M : List RN} (hx : x.f0 = n) (hxd : x.f1 = td) (hn1 : n ≠ 1) (hM1 : ∀ r ∈ M, r ∈ L) (hsub : ∀ k, insF (trOf L last) k td n ≠ some true) :
  ∃ d : Int → Nat, ∀ r ∈ withL M x, r.f0 ≠ 1 → d r.f1 < d r.f0 := by
 obtain ⟨d, -, hd⟩ := hM.rank
 let sub : Int → Prop := fun m => ∃ k, insF (trOf L last) k m n = some true
 classical
 have hnn : sub n := ⟨1, by simp [insF]⟩
 have hstep : ∀ r ∈ L, r.f0 ≠ 1 → r.f0 ≠ n → (sub r.f0 ↔ sub r.f1) := by
  intro r hr h1 h2
  have hup : ((trOf L last).node r.f0).up = r.f1 := by rw [node_of h, at_mem h hr]
  constructor
  ·
   rintro ⟨k, hk⟩
   cases k with
   | zero => simp [insF] at hk
   | succ k =>
    unfold insF at hk
    rw [if_neg h2, if_neg h1, hup] at hk
    exact ⟨k, hk⟩
  ·
   rintro ⟨k, hk⟩
   refine ⟨k + 1, ?_⟩
   unfold insF
   rw [if_neg h2, if_neg h1, hup]
   exact hk
 refine ⟨fun m => if sub m then d m + d td + 1 else d m, fun r hr h1 => ?_⟩
 rcases withL_mem hr with rfl | ⟨hr, hne⟩
 ·
  have ht : ¬ sub td := fun ⟨k, hk⟩ => hsub k hk
  simp only [hx, hxd]
  rw [if_pos hnn, if_neg ht]
  omega
 ·
  rw [hx] at hne
  have hlt := hd r (hM1 r hr) h1
  have hs := hstep r (hM1 r hr) h1 hne
  by_cases e : sub r.f0
  ·
   simp only [if_pos e, if_pos (hs.1 e)]
   omega
  ·
   simp only [if_neg e, if_neg (fun q => e (hs.2 q))]
   exact hlt
theorem up_ne {L : List RN} {last : Int} (hM : GoodM L) {r : RN} (hr : r ∈ L) (h1 : r.f0 ≠ 1) : r.f1 ≠ r.f0 := by
 obtain ⟨d, -, hd⟩ := hM.rank
 intro e
 have := hd r hr h1
 rw [e] at this
 omega
def movX (L : List RN) (n td : Int) (z : ByteArray) : RN := { atR L n with f1 := td, f2 := z }
theorem mov_core {L : List RN} {last : Int} (h : GoodL L last) (hM : GoodM L) {r : RN} (hr : r ∈ L) (h1 : r.f0 ≠ 1) {td : Int} (htd : (atR L td).f3 = 1) (hnt : td ≠ r.f0) {z : ByteArray} (hz : Sp.check z.data.toList = 0) (hfree : inR L td z = 0)
  (hrk : ∃ d : Int → Nat, ∀ q ∈ withL L (movX L r.f0 td z), q.f0 ≠ 1 → d q.f1 < d q.f0) (T2 T3 : Tr) (e2 : T2 = mvB (trOf L last) r.f0 td) (e3 : T3 = mvC T2 r.f1 r.f2) :
  GoodL (withL L (movX L r.f0 td z)) last ∧ GoodM (withL L (movX L r.f0 td z)) ∧ mvD T3 td r.f0 z = trOf (withL L (movX L r.f0 td z)) last ∧
   (T2.cnt = L.length ∧ T3.cnt = L.length) ∧ (T2.node r.f1).ents = entsOf L r.f1 ∧ (T3.node td).ents = (if td = r.f1 then cutEn (entsOf L r.f1) r.f2 else entsOf L td) ∧ (findE (T3.node td).ents z).2 = false := by
 have hra := at_mem h hr
 have hx : movX L r.f0 td z = ⟨r.f0, td, z, r.f3, r.f4⟩ := by unfold movX; rw [hra]
 rw [hx] at hrk ⊢
 have hmem : ∃ q ∈ L, q.f0 = (⟨r.f0, td, z, r.f3, r.f4⟩ : RN).f0 := ⟨r, hr, rfl⟩
 have hno := inR_none h (d := td) (s := z) (by rw [hfree]; decide)
 have hG : GoodL (withL L ⟨r.f0, td, z, r.f3, r.f4⟩) last := h.with h1 hmem (by show (atR L r.f0).f3 = r.f3; rw [hra]) (h.data r hr) htd (fun q hq hn q1 q2 => hno q hq q1 q2)
 have hGM : GoodM (withL L ⟨r.f0, td, z, r.f3, r.f4⟩) := hM.with hG hz (hM.link r hr) (hM.kind r hr) (hM.dirs r hr) hrk
 have hfn := up_ne (last := last) hM hr h1
 have hk1 : (atR L r.f1).f3 = 1 := h.up r hr
 have hlf := tr_get_live (last := last) h (m := r.f1) (by rw [hk1]; decide)
 have hlt := tr_get_live (last := last) h (m := td) (by rw [htd]; decide)
 have hln : (trOf L last).get r.f0 = some (ndOf L r) := by rw [tr_get, find_of h hr]; rfl
 have n2f : T2.node r.f1 = (trOf L last).node r.f1 := by rw [e2]; exact node_set_ne hfn
 have n2t : T2.node td = (trOf L last).node td := by rw [e2]; exact node_set_ne hnt
 have g2 : ∀ m, T2.get m = if m = r.f0 then some { (trOf L last).node r.f0 with up := td } else (trOf L last).get m := by intro m; rw [e2]; rfl
 have g3 : ∀ m, T3.get m = if m = r.f1 then some { T2.node r.f1 with ents := cutEn (T2.node r.f1).ents r.f2 } else T2.get m := by intro m; rw [e3]; rfl
 have c2 : T2.cnt = L.length := by
  rw [e2]
  show (if ((trOf L last).get r.f0).isSome then L.length else L.length + 1) = _
  rw [hln]; rfl
 have c3 : T3.cnt = L.length := by
  rw [e3]
  show (if (T2.get r.f1).isSome then T2.cnt else T2.cnt + 1) = _
  rw [g2, if_neg hfn, hlf, Option.isSome_some, if_pos rfl, c2]
 have E2 : (T2.node r.f1).ents = entsOf L r.f1 := by rw [n2f, node_of h]
 have N3 : T3.node td = if td = r.f1 then { T2.node r.f1 with ents := cutEn (T2.node r.f1).ents r.f2 } else (trOf L last).node td := by
  unfold Tr.node
  rw [g3]
  by_cases e : td = r.f1
  · rw [if_pos e, if_pos e]; rfl
  · rw [if_neg e, if_neg e, g2, if_neg hnt]
 have E3 : (T3.node td).ents = (if td = r.f1 then cutEn (entsOf L r.f1) r.f2 else entsOf L td) := by
  rw [N3]
  by_cases e : td = r.f1
  · rw [if_pos e, if_pos e, E2]
  · rw [if_neg e, if_neg e, node_of h]
 have hfz : ∀ e ∈ entsOf L td, e.f0 ≠ z := by
  intro e he
  obtain ⟨q, hq, hi, rfl⟩ := mem_ents.1 he
  obtain ⟨i1, i2⟩ := isIn_iff.1 hi
  exact hno q hq i1 i2
 have F3 : (findE (T3.node td).ents z).2 = false := by
  rw [E3]
  refine findE_nil' (fun e he => ?_)
  by_cases c : td = r.f1
  ·
   rw [if_pos c] at he
   rw [c] at hfz
   exact hfz e (cutEn_mem.1 he).1
  ·
   rw [if_neg c] at he
   exact hfz e he
 refine ⟨hG, hGM, ?_, ⟨c2, c3⟩, E2, E3, F3⟩
 -- what stands in each directory
 have huq : ∀ q ∈ L, q.f0 = r.f0 → q = r := fun q hq e => by
  have q1 := find_of h hq
  have q2 := find_of h hr
  rw [e] at q1
  rw [q1] at q2
  exact Option.some.inj q2
 have hname : ∀ q ∈ L, q.f0 ≠ 1 → q.f1 = r.f1 → q.f2 = r.f2 → q = r := by
  intro q hq q1 q2 q3
  have := List.pairwise_iff_getElem.1 h.names
  obtain ⟨i, hi, rfl⟩ := List.mem_iff_getElem.1 hq
  obtain ⟨j, hj, rfl⟩ := List.mem_iff_getElem.1 hr
  rcases Nat.lt_trichotomy i j with c | c | c
  · exact absurd q3 (this i j hi hj c q2 q1 h1)
  · subst c; rfl
  · exact absurd q3.symm (this j i hj hi c q2.symm h1 q1)
 have hents : ∀ m, entsOf (withL L ⟨r.f0, td, z, r.f3, r.f4⟩) m = if m = td then insE (T3.node td).ents ⟨z, r.f0⟩ else if m = r.f1 then cutEn (entsOf L r.f1) r.f2 else entsOf L m := by
  intro m
  have hcm : ∀ (m : Int) (e : En), (∃ q ∈ L, q.f0 ≠ r.f0 ∧ isIn m q = true ∧ e = ⟨q.f2, q.f0⟩) ↔ (if m = r.f1 then e ∈ cutEn (entsOf L r.f1) r.f2 else e ∈ entsOf L m) := by
   intro m e
   by_cases c : m = r.f1
   ·
    rw [if_pos c, cutEn_mem, mem_ents]
    subst c
    constructor
    ·
     rintro ⟨q, hq, hn, hi, rfl⟩
     refine ⟨⟨q, hq, hi, rfl⟩, fun e => hn ?_⟩
     obtain ⟨i1, i2⟩ := isIn_iff.1 hi
     rw [hname q hq i2 i1 e]
    ·
     rintro ⟨⟨q, hq, hi, rfl⟩, hn⟩
     exact ⟨q, hq, fun e => hn (by rw [huq q hq e]), hi, rfl⟩
   ·
    rw [if_neg c, mem_ents]
    constructor
    ·
     rintro ⟨q, hq, hn, hi, rfl⟩
     exact ⟨q, hq, hi, rfl⟩
    ·
     rintro ⟨q, hq, hi, rfl⟩
     refine ⟨q, hq, fun e => c ?_, hi, rfl⟩
     rw [huq q hq e] at hi
     exact (isIn_iff.1 hi).1.symm
  by_cases c : m = td
  ·
   subst c
   rw [if_pos rfl]
   refine rt_ext (hG.rt m) (insE_rt _ _ ?_ ?_) (fun e => ?_)
   ·
    rw [E3]
    by_cases c2 : m = r.f1
    · rw [if_pos c2]; exact cutEn_rt (h.rt _) _
    · rw [if_neg c2]; exact h.rt _
   ·
    intro e he e2
    have := F3
    rw [findE_some he e2] at this
    cases this
   ·
    rw [ents_with hmem, hcm m e, insE_mem, E3]
    constructor
    ·
     rintro (⟨_, rfl⟩ | hh)
     · exact .inl rfl
     ·
      right
      by_cases c2 : m = r.f1
      · rw [if_pos c2] at hh ⊢; exact hh
      · rw [if_neg c2] at hh ⊢; exact hh
    ·
     rintro (rfl | hh)
     · exact .inl ⟨isIn_iff.2 ⟨rfl, h1⟩, rfl⟩
     ·
      right
      by_cases c2 : m = r.f1
      · rw [if_pos c2] at hh ⊢; exact hh
      · rw [if_neg c2] at hh ⊢; exact hh
  ·
   rw [if_neg c]
   have hi0 : ¬ isIn m (⟨r.f0, td, z, r.f3, r.f4⟩ : RN) = true := fun hi => c (isIn_iff.1 hi).1.symm
   by_cases c2 : m = r.f1
   ·
    rw [if_pos c2]
    refine rt_ext (hG.rt m) (cutEn_rt (h.rt _) _) (fun e => ?_)
    rw [ents_with hmem, hcm m e, if_pos c2]
    exact ⟨fun hh => hh.elim (fun q => absurd q.1 hi0) id, .inr⟩
   ·
    rw [if_neg c2]
    refine rt_ext (hG.rt m) (h.rt _) (fun e => ?_)
    rw [ents_with hmem, hcm m e, if_neg c2]
    exact ⟨fun hh => hh.elim (fun q => absurd q.1 hi0) id, .inr⟩
 refine Tr.ext (fun m => ?_) ?_ (by rw [e3, e2]; rfl)
 ·
  show (if m = td then some { T3.node td with ents := insE (T3.node td).ents ⟨z, r.f0⟩ } else T3.get m) = _
  rw [tr_get (L := withL L _), withL_find]
  by_cases c : m = td
  ·
   rw [if_pos c]
   obtain ⟨q, hq, hqm, hqa⟩ := at_kind (L := L) (n := td) (by rw [htd]; decide)
   have hfq := find_of h hq
   rw [hqm] at hfq
   have hqr : ¬ q.f0 = r.f0 := by rw [hqm]; exact hnt
   rw [c, hfq, Option.map_some, Option.map_some, if_neg hqr]
   have hT : T3.node td = ⟨q.f3, q.f1, q.f4, (T3.node td).ents⟩ := by
    rw [N3]
    by_cases c3 : td = r.f1
    · rw [if_pos c3, n2f, node_of h, ← c3, hqa]
    · rw [if_neg c3, node_of h, hqa]
   have k1 : (T3.node td).kind = q.f3 := by rw [hT]
   have k2 : (T3.node td).up = q.f1 := by rw [hT]
   have k3 : (T3.node td).data = q.f4 := by rw [hT]
   show some (⟨(T3.node td).kind, (T3.node td).up, (T3.node td).data, insE (T3.node td).ents ⟨z, r.f0⟩⟩ : Nd) = some ⟨q.f3, q.f1, q.f4, entsOf (withL L ⟨r.f0, td, z, r.f3, r.f4⟩) q.f0⟩
   rw [k1, k2, k3, hqm, hents, if_pos rfl]
  ·
   rw [if_neg c, g3]
   by_cases c2 : m = r.f1
   ·
    rw [if_pos c2, n2f, node_of h]
    obtain ⟨q, hq, hqm, hqa⟩ := at_kind (L := L) (n := r.f1) (by rw [hk1]; decide)
    have hfq := find_of h hq
    rw [hqm] at hfq
    have hqr : ¬ q.f0 = r.f0 := by rw [hqm]; exact hfn
    have hct : ¬ r.f1 = td := by rw [← c2]; exact c
    rw [c2, hfq, Option.map_some, Option.map_some, if_neg hqr]
    show some (⟨(atR L r.f1).f3, (atR L r.f1).f1, (atR L r.f1).f4, cutEn (entsOf L r.f1) r.f2⟩ : Nd) = some ⟨q.f3, q.f1, q.f4, entsOf (withL L ⟨r.f0, td, z, r.f3, r.f4⟩) q.f0⟩
    rw [hqm, hents, if_neg hct, if_pos rfl, hqa]
   ·
    rw [if_neg c2, g2]
    by_cases c3 : m = r.f0
    ·
     have hct : ¬ r.f0 = td := by rw [← c3]; exact c
     have hcf : ¬ r.f0 = r.f1 := by rw [← c3]; exact c2
     rw [if_pos c3, c3, find_of h hr, node_of h, hra, Option.map_some, Option.map_some, if_pos rfl]
     show some (⟨r.f3, td, r.f4, entsOf L r.f0⟩ : Nd) = some ⟨r.f3, td, r.f4, entsOf (withL L ⟨r.f0, td, z, r.f3, r.f4⟩) r.f0⟩
     rw [hents, if_neg hct, if_neg hcf]
    ·
     rw [if_neg c3, tr_get]
     cases hf : L.find? (fun r => r.f0 == m) with
     | none => rfl
     | some q =>
      have hqm : q.f0 = m := by simpa using List.find?_some hf
      have hqr : ¬ q.f0 = r.f0 := by rw [hqm]; exact c3
      rw [Option.map_some, Option.map_some, Option.map_some, if_neg hqr]
      show some (⟨q.f3, q.f1, q.f4, entsOf L q.f0⟩ : Nd) = some ⟨q.f3, q.f1, q.f4, entsOf (withL L ⟨r.f0, td, z, r.f3, r.f4⟩) q.f0⟩
      rw [hqm, hents, if_neg c, if_neg c2]
 ·
  show (if (T3.get td).isSome then T3.cnt else T3.cnt + 1) = (withL L _).length
  have : (T3.get td).isSome = true := by
   rw [g3]
   by_cases c : td = r.f1
   · rw [if_pos c]; rfl
   · rw [if_neg c, g2, if_neg hnt, hlt]; rfl
  rw [this, if_pos rfl, c3, withL_len]
end Go.Proofs.YtnpeeiikdcankaaGreat.Tw

namespace Go.Proofs.YtnpeeiikdcankaaGreat.Tw
open Go Go.RowKit Go.Shelf Go.Proofs Go.Proofs.YtnpeeiikdcankaaGreat Go.Proofs.YtnpeeiikdcankaaGreatW.PrintWords Go.Proofs.YtnpeeiikdcankaaGreat.Ext Go.Proofs.YtnpeeiikdcankaaGreat.X Go.Proofs.YtnpeeiikdcankaaGreat.Pu
theorem get_of {L : List RN} {last : Int} {n : Int} {x : Nd} (h : (trOf L last).get n = some x) : ∃ r ∈ L, x = ndOf L r := by
 unfold trOf at h
 obtain ⟨r, hr, rfl⟩ := Option.map_eq_some_iff.1 h
 exact ⟨r, List.mem_of_find?_eq_some hr, rfl⟩
theorem trOK {L : List RN} {last : Int} (h : GoodL L last) (hl : last ≤ 1000000) : TrOK (trOf L last) := by
 refine ⟨fun n x hx => ?_, fun n x hx => ?_, fun n x hx => ?_, fun n x hx e he => ?_, fun n x hx => ?_⟩
 ·
  obtain ⟨r, hr, rfl⟩ := get_of hx
  exact h.rt _
 ·
  obtain ⟨r, hr, rfl⟩ := get_of hx
  have h1 := ents_len L r.f0
  have h2 := h.len
  show (entsOf L r.f0).length < _
  omega
 ·
  obtain ⟨r, hr, rfl⟩ := get_of hx
  obtain ⟨q, hq, hqn, _⟩ := at_kind (L := L) (n := r.f1) (by rw [h.up r hr]; decide)
  have := h.num q hq
  exact wf_of (n := r.f1) (by omega)
 ·
  obtain ⟨r, hr, rfl⟩ := get_of hx
  obtain ⟨q, hq, _, rfl⟩ := mem_ents.1 (show e ∈ entsOf L r.f0 from he)
  have := h.num q hq
  exact wf_of (n := q.f0) (by omega)
 ·
  obtain ⟨r, hr, rfl⟩ := get_of hx
  exact h.data r hr
end Go.Proofs.YtnpeeiikdcankaaGreat.Tw

namespace Go.Proofs.YtnpeeiikdcankaaGreat.Tw
open Go Go.RowKit Go.Shelf Go.Proofs Go.Proofs.YtnpeeiikdcankaaGreat Go.Proofs.YtnpeeiikdcankaaGreatW.PrintWords Go.Proofs.YtnpeeiikdcankaaGreat.Ext Go.Proofs.YtnpeeiikdcankaaGreat.X Go.Proofs.YtnpeeiikdcankaaGreat.Pu
theorem node_len {L : List RN} {last : Int} (h : GoodL L last) (d : Int) : ((trOf L last).node d).ents.length < 4294967296 := by
 rw [node_of h]
 have := ents_len L d
 have := h.len
 show (entsOf L d).length < _
 omega
theorem node_rtL {L : List RN} {last : Int} (h : GoodL L last) (d : Int) : Rt ((trOf L last).node d).ents := by rw [node_of h]; exact h.rt d
theorem cnt_lt {L : List RN} {last : Int} (h : GoodL L last) : (trOf L last).cnt < 1000000 := by
 have := h.len
 show L.length < _
 omega
def cutS (L : List RN) (d : Int) (s : ByteArray) : List RN := if cutRE L d s = 0 then cutL L (inR L d s) else L
theorem tcut_calls (p B : Nat) (L : List RN) (last d : Int) (s : ByteArray) (w : World) (h : TreeB w p B (trOf L last)) (hG : GoodL L last) (hn : wf d) (hla : last ≤ 1000000) :
  Calls Tryz.prog 146 #[pT p, .int .i64 d, .string s] w fun e w' => e = .returned (.int .i64 (cutRE L d s)) ∧ TreeB w' p B (trOf (cutS L d s) last) ∧ Frm w w' p B := by
 have hO := trOK hG hla
 unfold cutS
 by_cases he : cutRE L d s = 0
 ·
  refine (cut_ok p B (trOf L last) d s w h hn (node_len hG d) (node_rtL hG d) (hO.wf_find d s) (cnt_lt hG) (by rw [cutE_eq hG]; exact he)).mono ?_
  rintro e w' ⟨rfl, hT, hF⟩
  rw [cutT_eq hG he] at hT
  rw [if_pos he, he]
  exact ⟨rfl, hT, hF⟩
 ·
  refine (cut_err p B (trOf L last) d s w h hn (node_len hG d) (node_rtL hG d) (hO.wf_find d s) (by rw [cutE_eq hG]; exact he)).mono ?_
  rintro e w' ⟨rfl, hb⟩
  rw [if_neg he, cutE_eq hG]
  exact ⟨rfl, h.below hb, Frm.ofBelow hb⟩
theorem good_cut {L : List RN} {last : Int} (hG : GoodL L last) (hM : GoodM L) (d : Int) (s : ByteArray) : GoodL (cutS L d s) last ∧ GoodM (cutS L d s) := by
 unfold cutS
 by_cases he : cutRE L d s = 0
 · rw [if_pos he]; exact cut_good hG hM he
 · rw [if_neg he]; exact ⟨hG, hM⟩
noncomputable def setS (L : List RN) (n : Int) (data : ByteArray) : List RN := if setRE L n data = 0 then withL L (setX L n data) else L
theorem tset_calls (p B : Nat) (L : List RN) (last n : Int) (data : ByteArray) (w : World) (h : TreeB w p B (trOf L last)) (hG : GoodL L last) (hM : GoodM L) (hn : wf n) :
  Calls Tryz.prog 92 #[pT p, .int .i64 n, .string data] w fun e w' => e = .returned (.int .i64 (setRE L n data)) ∧ TreeB w' p B (trOf (setS L n data) last) ∧ Frm w w' p B := by
 unfold setS
 by_cases he : setRE L n data = 0
 ·
  refine (set_ok p B (trOf L last) n data w h hn (cnt_lt hG) (by rw [setE_eq hG]; exact he)).mono ?_
  rintro e w' ⟨rfl, hT, hF⟩
  rw [setT_eq hG hM he] at hT
  rw [if_pos he, he]
  exact ⟨rfl, hT, hF⟩
 ·
  refine (set_err p B (trOf L last) n data w h hn (by rw [setE_eq hG]; exact he)).mono ?_
  rintro e w' ⟨rfl, hb⟩
  rw [if_neg he, setE_eq hG]
  exact ⟨rfl, h.below hb, Frm.ofBelow hb⟩
theorem good_set {L : List RN} {last : Int} (hG : GoodL L last) (hM : GoodM L) (n : Int) (data : ByteArray) : GoodL (setS L n data) last ∧ GoodM (setS L n data) := by
 unfold setS
 by_cases he : setRE L n data = 0
 · rw [if_pos he]; exact set_good hG hM he
 · rw [if_neg he]; exact ⟨hG, hM⟩
open Classical in
noncomputable def insV (L : List RN) (last td n : Int) : Bool := decide (∃ k, insF (trOf L last) k td n = some true)
theorem insV_true {L : List RN} {last td n : Int} (h : ∃ k, insF (trOf L last) k td n = some true) : insV L last td n = true := by classical exact decide_eq_true h
theorem insV_false {L : List RN} {last td n : Int} (h : ¬ ∃ k, insF (trOf L last) k td n = some true) : insV L last td n = false := by classical exact decide_eq_false h
noncomputable def movP (L : List RN) (last fr : Int) (s : ByteArray) (td : Int) (z : ByteArray) : Int := movRE L fr s td z (insV L last td (inR L fr s))
def roomL (L : List RN) (td : Int) (z : ByteArray) : List RN := if inR L td z = 0 then L else cutL L (inR L td z)
noncomputable def movM (L : List RN) (last fr : Int) (s : ByteArray) (td : Int) (z : ByteArray) : List RN :=
 if movP L last fr s td z = 0 ∧ (roomRE L (inR L fr s) td z).1 = false then withL (roomL L td z) (movX L (inR L fr s) td z) else L
theorem ins_dir {L : List RN} {last : Int} (h : GoodL L last) {n : Int} : ∀ (k : Nat) (m : Int), insF (trOf L last) k m n = some true → m ≠ n → (atR L m).f3 ≠ 0 → (atR L n).f3 = 1
 | 0, m, hk, _, _ => by simp [insF] at hk
 | k + 1, m, hk, hmn, hm => by
  unfold insF at hk
  rw [if_neg hmn] at hk
  by_cases e2 : m = 1
  · rw [if_pos e2] at hk; cases hk
  ·
   rw [if_neg e2] at hk
   obtain ⟨r, hr, hrm, hra⟩ := at_kind hm
   rw [node_of h, hra] at hk
   have hu := h.up r hr
   by_cases e : r.f1 = n
   · rw [← e]; exact hu
   · exact ins_dir h k r.f1 hk e (by rw [hu]; decide)
structure MovOK (L : List RN) (last fr : Int) (s : ByteArray) (td : Int) (z : ByteArray) (n : Int) : Prop where
 kf : (atR L fr).f3 = 1
 kt : (atR L td).f3 = 1
 ck : Sp.check z.data.toList = 0
 ins : (atR L n).f3 = 1 → ∃ k, insF (trOf L last) k td n = some false
 room : roomRE L n td z = (false, 0)
 good : GoodL (withL (roomL L td z) (movX L n td z)) last ∧ GoodM (withL (roomL L td z) (movX L n td z))
 one : mvA (trOf L last) td z = trOf (roomL L td z) last
 l1 : GoodL (roomL L td z) last
 core : ∀ T2 T3, T2 = mvB (trOf (roomL L td z) last) n td → T3 = mvC T2 fr s →
  mvD T3 td n z = trOf (withL (roomL L td z) (movX L n td z)) last ∧ (T2.cnt = (roomL L td z).length ∧ T3.cnt = (roomL L td z).length) ∧ (T2.node fr).ents = entsOf (roomL L td z) fr ∧ (T3.node td).ents = (if td = fr then cutEn (entsOf (roomL L td z) fr) s else entsOf (roomL L td z) td) ∧ (findE (T3.node td).ents z).2 = false
 mem : ∃ r ∈ roomL L td z, r.f0 = n ∧ r.f1 = fr ∧ r.f2 = s ∧ r.f0 ≠ 1
theorem mov_all {L : List RN} {last : Int} (h : GoodL L last) (hM : GoodM L) {fr : Int} {s : ByteArray} {td : Int} {z : ByteArray} (he : movP L last fr s td z = 0) (hs : (roomRE L (inR L fr s) td z).1 = false) : MovOK L last fr s td z (inR L fr s) := by
 obtain ⟨z1, z2, z3, z4, z5, z6⟩ := movRE_zero he
 have hroom : roomRE L (inR L fr s) td z = (false, 0) := by
  rcases z6 with e | e
  · rw [hs] at e; cases e
  · exact Prod.ext hs e
 obtain ⟨r, hr, hrn, hrd, hrs, hr1, hra⟩ := inR_mem h z3
 generalize inR L fr s = n at *
 have hnt : td ≠ n := by
  intro e
  by_cases k1 : (atR L n).f3 = 1
  ·
   have := z5 k1
   unfold insV at this
   rw [decide_eq_false_iff_not] at this
   exact this ⟨1, by simp [insF, e]⟩
  · rw [e] at z2; exact k1 z2
 have hsub : ∀ k, insF (trOf L last) k td n ≠ some true := by
  intro k hk
  by_cases k1 : (atR L n).f3 = 1
  ·
   have := z5 k1
   unfold insV at this
   rw [decide_eq_false_iff_not] at this
   exact this ⟨k, hk⟩
  · exact k1 (ins_dir h k td hk hnt (by rw [z2]; decide))
 have hins : (atR L n).f3 = 1 → ∃ k, insF (trOf L last) k td n = some false := by
  intro _
  obtain ⟨k, b, hk⟩ := ins_ex h hM n td (by rw [z2]; decide)
  cases b with
  | true => exact absurd hk (hsub k)
  | false => exact ⟨k, hk⟩
 have KEY : GoodL (roomL L td z) last ∧ GoodM (roomL L td z) ∧ r ∈ roomL L td z ∧ (atR (roomL L td z) td).f3 = 1 ∧ inR (roomL L td z) td z = 0 ∧ mvA (trOf L last) td z = trOf (roomL L td z) last ∧ ∀ q ∈ roomL L td z, q ∈ L := by
  unfold roomL mvA roomT
  rw [node_of h td]
  simp only [find_ents h td z, in_dec h]
  by_cases e : inR L td z = 0
  ·
   rw [if_pos e, if_pos e]
   exact ⟨h, hM, hr, z2, e, rfl, fun q hq => hq⟩
  ·
   rw [if_neg e, if_neg e]
   have hc : cutRE L td z = 0 ∧ inR L td z ≠ n := by
    unfold roomRE at hroom
    rw [if_neg e] at hroom
    split at hroom
    · cases hroom
    ·
     rename_i hne
     split at hroom
     · cases hroom
     ·
      split at hroom
      · cases hroom
      · exact ⟨(Prod.mk.inj hroom).2, hne⟩
   obtain ⟨c1, c2, c3⟩ := cutRE_zero hc.1
   obtain ⟨g1, g2⟩ := cut_good h hM hc.1
   obtain ⟨ro, hro, hon, hod, hos, ho1, _⟩ := inR_mem h e
   have hto : td ≠ inR L td z := by
    intro e2
    have := live_ents h hro ho1
    rw [hod, e2] at this
    exact this c3
   refine ⟨g1, g2, cutL_mem.2 ⟨hr, by rw [hrn]; exact fun e2 => hc.2 e2.symm⟩, by rw [cutL_at hto]; exact c1, ?_, cutT_eq h hc.1, fun q hq => (cutL_mem.1 hq).1⟩
   refine Decidable.byContradiction fun hne => ?_
   obtain ⟨q, hq, hqn, hqd, hqs, hq1, _⟩ := inR_mem g1 hne
   obtain ⟨hq2, hqo⟩ := cutL_mem.1 hq
   have hpw := List.pairwise_iff_getElem.1 h.names
   rw [← hon] at hqo
   obtain ⟨i, hi, rfl⟩ := List.mem_iff_getElem.1 hq2
   obtain ⟨j, hj, rfl⟩ := List.mem_iff_getElem.1 hro
   rcases Nat.lt_trichotomy i j with c | c | c
   · exact hpw i j hi hj c (hqd.trans hod.symm) hq1 ho1 (hqs.trans hos.symm)
   · subst c; exact hqo rfl
   · exact hpw j i hj hi c (hod.trans hqd.symm) ho1 hq1 (hos.trans hqs.symm)
 obtain ⟨g1, g2, g3, g4, g5, g6, g7⟩ := KEY
 have hxe : movX (roomL L td z) n td z = movX L n td z := by
  unfold movX
  rw [hra]
  have := at_mem g1 g3
  rw [hrn] at this
  rw [this]
 have hrk : ∃ d : Int → Nat, ∀ q ∈ withL (roomL L td z) (movX (roomL L td z) r.f0 td z), q.f0 ≠ 1 → d q.f1 < d q.f0 := by
  rw [hrn, hxe]
  exact mov_rank h hM (n := n) (td := td) (by show (atR L n).f0 = n; rw [hra]; exact hrn) rfl (by rw [← hrn]; exact hr1) g7 hsub
 have CORE := fun T2 T3 e2 e3 => mov_core g1 g2 g3 hr1 g4 (by rw [hrn]; exact hnt) z4 g5 hrk T2 T3 e2 e3
 rw [hrn, hrd, hrs, hxe] at CORE
 refine ⟨z1, z2, z4, hins, hroom, ?_, g6, g1, fun T2 T3 e2 e3 => (CORE T2 T3 e2 e3).2.2, ⟨r, g3, hrn, hrd, hrs, hr1⟩⟩
 have := CORE _ _ rfl rfl
 exact ⟨this.1, this.2.1⟩
theorem good_mov {L : List RN} {last : Int} (hG : GoodL L last) (hM : GoodM L) (fr : Int) (s : ByteArray) (td : Int) (z : ByteArray) : GoodL (movM L last fr s td z) last ∧ GoodM (movM L last fr s td z) := by
 unfold movM
 by_cases he : movP L last fr s td z = 0 ∧ (roomRE L (inR L fr s) td z).1 = false
 · rw [if_pos he]; exact (mov_all hG hM he.1 he.2).good
 · rw [if_neg he]; exact ⟨hG, hM⟩
theorem tmove_calls (p B : Nat) (L : List RN) (last fr : Int) (s : ByteArray) (td : Int) (z : ByteArray) (w : World) (h : TreeB w p B (trOf L last)) (hG : GoodL L last) (hM : GoodM L) (hf : wf fr) (ht : wf td) (hz : z.size < 4294967281) (hla : last ≤ 1000000) :
  Calls Tryz.prog 115 #[pT p, .int .i64 fr, .string s, .int .i64 td, .string z] w fun e w' => e = .returned (.int .i64 (movP L last fr s td z)) ∧ TreeB w' p B (trOf (movM L last fr s td z) last) ∧ Frm w w' p B := by
 have hO := trOK hG hla
 unfold movM
 by_cases he : movP L last fr s td z = 0 ∧ (roomRE L (inR L fr s) td z).1 = false
 ·
  rw [if_pos he, he.1]
  have M := mov_all hG hM he.1 he.2
  obtain ⟨k, hk⟩ : ∃ k, (atR L (inR L fr s)).f3 = 1 → insF (trOf L last) k td (inR L fr s) = some false := by
   by_cases k1 : (atR L (inR L fr s)).f3 = 1
   ·
    obtain ⟨k, hk⟩ := M.ins k1
    exact ⟨k, fun _ => hk⟩
   · exact ⟨0, fun h => absurd h k1⟩
  obtain ⟨c1, ⟨c2, c3⟩, c4, c5, c6⟩ := M.core _ _ rfl rfl
  obtain ⟨r, hr, hrn, hrd, hrs, hr1⟩ := M.mem
  have hfe : findE ((trOf L last).node fr).ents s = (inR L fr s, true) := by
   rw [node_of hG]
   show findE (entsOf L fr) s = _
   rw [find_ents hG]
   have := (movRE_zero he.1).2.2.1
   have := (inR_le hG fr s).1
   rw [decide_eq_true (by omega)]
  have hl1 := M.l1.len
  have hel := fun m => ents_len (roomL L td z) m
  refine (move_ok p B (trOf L last) (trOf (roomL L td z) last) _ _ fr s td z (inR L fr s) false k w h hO hf ht hz hfe (by rw [node_of hG]; exact M.kf) (by rw [node_of hG]; exact M.kt) M.ck (by rw [node_of hG]; exact hk) (by rw [roomE_eq hG]; exact M.room) (cnt_lt hG) M.one.symm rfl rfl
   (cnt_lt M.l1) (by rw [c2]; omega) (by rw [c3]; omega) (by rw [c4]; have := hel fr; omega) (by rw [c4]; exact M.l1.rt _) ?_ ?_ ?_ c6).mono ?_
  ·
   rw [c4]
   exact findE_some (mem_ents.2 ⟨r, hr, isIn_iff.2 ⟨hrd, hr1⟩, rfl⟩) hrs
  ·
   rw [c5]
   split
   ·
    have := cutEn_len (entsOf (roomL L td z) fr) s
    have := hel fr
    omega
   ·
    have := hel td
    omega
  ·
   rw [c5]
   split
   · exact cutEn_rt (M.l1.rt _) _
   · exact M.l1.rt _
  ·
   rintro e w' ⟨rfl, hT, hF⟩
   rw [c1] at hT
   exact ⟨rfl, hT, hF⟩
 ·
  rw [if_neg he]
  obtain ⟨k, ins, hk, hp⟩ : ∃ k ins, (dirE (atR L td).f3 = 0 → (atR L (inR L fr s)).f3 = 1 → insF (trOf L last) k td (inR L fr s) = some ins) ∧ movRE L fr s td z ins = movP L last fr s td z := by
   by_cases k2 : (atR L td).f3 = 1
   ·
    obtain ⟨k, b, hk⟩ := ins_ex hG hM (inR L fr s) td (by rw [k2]; decide)
    refine ⟨k, b, fun _ _ => hk, ?_⟩
    unfold movP
    congr 1
    cases b with
    | true => exact (insV_true ⟨k, hk⟩).symm
    | false =>
     refine (insV_false ?_).symm
     rintro ⟨k', hk'⟩
     have := insF_det hk hk'
     cases this
   · exact ⟨0, insV L last td (inR L fr s), fun h0 => absurd (dirE_zero h0) k2, rfl⟩
  refine (move_stay p B (trOf L last) fr s td z ins k w h hO hf ht hz (by rw [node_of hG fr, node_of hG td]; simp only [find_ents hG fr s]; rw [node_of hG]; exact hk) ?_).mono ?_
  ·
   unfold movS
   rw [movE_eq hG, hp, node_of hG fr]
   simp only [find_ents hG fr s]
   rw [roomE_eq hG]
   by_cases e1 : movP L last fr s td z = 0
   ·
    right
    cases hb : (roomRE L (inR L fr s) td z).1 with
    | true => rfl
    | false => exact absurd ⟨e1, hb⟩ he
   · exact .inl e1
  ·
   rintro e w' ⟨rfl, hb⟩
   rw [movE_eq hG, hp]
   exact ⟨rfl, h.below hb, Frm.ofBelow hb⟩
end Go.Proofs.YtnpeeiikdcankaaGreat.Tw

namespace Go.Proofs.YtnpeeiikdcankaaGreat.Tw
open Go Go.RowKit Go.Shelf Go.Proofs Go.Proofs.YtnpeeiikdcankaaGreat Go.Proofs.YtnpeeiikdcankaaGreatW.PrintWords Go.Proofs.YtnpeeiikdcankaaGreat.Ext Go.Proofs.YtnpeeiikdcankaaGreat.X Go.Proofs.YtnpeeiikdcankaaGreat.Pu
theorem rdN_get {l : List RN} {i : Nat} (h : i < l.length) : rd_T106 l (i : Int) = l[i] := by
 simp [rd_T106, h]
theorem three_blocks (w : World) (o1 o2 o3 : Obj) : (((w.alloc o1).alloc o2).alloc o3).heap[w.heap.size]? = some o1 ∧ (((w.alloc o1).alloc o2).alloc o3).heap[w.heap.size + 1]? = some o2 ∧ (((w.alloc o1).alloc o2).alloc o3).heap[w.heap.size + 1 + 1]? = some o3 ∧ Below w.heap.size w (((w.alloc o1).alloc o2).alloc o3) ∧ (((w.alloc o1).alloc o2).alloc o3).heap.size = w.heap.size + 3 := by
 have s1 : (w.alloc o1).heap.size = w.heap.size + 1 := Array.size_push _
 have s2 : ((w.alloc o1).alloc o2).heap.size = w.heap.size + 1 + 1 := by rw [← s1]; exact Array.size_push _
 have s3 : (((w.alloc o1).alloc o2).alloc o3).heap.size = w.heap.size + 3 := by rw [show w.heap.size + 3 = w.heap.size + 1 + 1 + 1 from rfl, ← s2]; exact Array.size_push _
 refine ⟨?_, ?_, ?_, ?_, s3⟩
 · rw [heap_alloc_old _ _ _ (by omega), heap_alloc_old _ _ _ (by omega), heap_alloc_new]
 · rw [heap_alloc_old _ _ _ (by omega), ← s1, heap_alloc_new]
 · rw [← s2, heap_alloc_new]
 · exact (((Below.refl _ w).alloc (Nat.le_refl _) _).alloc (by omega) _).alloc (by omega) _
def withI (L : List RN) (x : RN) (i : Nat) : List RN := withL (L.take i) x ++ L.drop i
theorem withI_zero (L : List RN) (x : RN) : withI L x 0 = L := by simp [withI, withL]
theorem withI_end (L : List RN) (x : RN) : withI L x L.length = withL L x := by simp [withI]
theorem withI_len (L : List RN) (x : RN) (i : Nat) : (withI L x i).length = L.length := by
 unfold withI
 rw [List.length_append, withL_len, List.length_take, List.length_drop]
 omega
theorem withI_at (L : List RN) (x : RN) {i : Nat} (h : i < L.length) : (withI L x i).getD i z106 = L[i] := by
 unfold withI
 have hl : (withL (L.take i) x).length = i := by rw [withL_len, List.length_take]; omega
 rw [List.getD_eq_getElem?_getD, List.getElem?_append_right (by omega), hl, Nat.sub_self, List.getElem?_drop, Nat.add_zero, List.getElem?_eq_getElem h]
 rfl
theorem withI_yes (L : List RN) (x : RN) {i : Nat} (h : i < L.length) (he : L[i].f0 = x.f0) : withI L x (i + 1) = (withI L x i).set i x := by
 unfold withI
 have hl : (withL (L.take i) x).length = i := by rw [withL_len, List.length_take]; omega
 rw [List.set_append_right _ _ (by omega), hl, Nat.sub_self, List.drop_eq_getElem_cons h, List.set_cons_zero, List.take_succ_eq_append_getElem h, show withL (L.take i ++ [L[i]]) x = withL (L.take i) x ++ [x] by simp only [withL, List.map_append, List.map_cons, List.map_nil, if_pos he], List.append_assoc]
 rfl
theorem withI_no (L : List RN) (x : RN) {i : Nat} (h : i < L.length) (he : L[i].f0 ≠ x.f0) : withI L x (i + 1) = withI L x i := by
 unfold withI
 rw [List.drop_eq_getElem_cons h, List.take_succ_eq_append_getElem h, show withL (L.take i ++ [L[i]]) x = withL (L.take i) x ++ [L[i]] by simp only [withL, List.map_append, List.map_cons, List.map_nil, if_neg he], List.append_assoc]
 rfl
theorem meas_one {n i : Nat} (h : i < n) : n - (intOf (.int .i64 ((i : Int) + 1))).toNat < n - (intOf (.int .i64 (i : Int))).toNat := by
 simp only [intOf]
 omega
theorem res_cells {W : World} {r : Nat} {a0 a1 : Value} (v0 v1 : Value) (h : W.heap[r]? = some (.cells #[a0, a1] 30 (0, 0))) :
  ((W.setCell ⟨r, 0, none⟩ v0).setCell ⟨r, 1, none⟩ v1).cell? ⟨r, 0, none⟩ = some v0 ∧ ((W.setCell ⟨r, 0, none⟩ v0).setCell ⟨r, 1, none⟩ v1).cell? ⟨r, 1, none⟩ = some v1 := by
 have e1 := setCell_eq_setRow W r 0 _ _ _ v0 h
 have k1 : (W.setCell ⟨r, 0, none⟩ v0).heap[r]? = some (.cells #[v0, a1] 30 (0, 0)) := by rw [e1, setRow_heap W _ _ _ _ _ h]; rfl
 have e2 := setCell_eq_setRow _ r 1 _ _ _ v1 k1
 have k2 : ((W.setCell ⟨r, 0, none⟩ v0).setCell ⟨r, 1, none⟩ v1).heap[r]? = some (.cells #[v0, v1] 30 (0, 0)) := by rw [e2, setRow_heap _ _ _ _ _ _ k1]; rfl
 exact ⟨by rw [blk_cell k2]; rfl, by rw [blk_cell k2]; rfl⟩
theorem meas_big {n i : Nat} (h : i < n) (hn : n ≤ 1000000) : n - (intOf (.int .i64 (wrap64 ((i : Int) + 1)))).toNat < n - (intOf (.int .i64 (i : Int))).toNat := by
 rw [w1 (by omega)]
 simp only [intOf]
 omega
theorem rn_elem {w : World} {B g n cap : Nat} {M : List RN} {i : Nat} {y : RN} (hO : Kd.R k106 106 w B (fun _ => True) (.slice (some ⟨g, 0, none⟩) n cap) M) (hi : i < n) (hy : M.getD i z106 = y) :
  w.cell? ⟨g, i * 5, none⟩ = some (.int .i64 y.f0) ∧ (w.frozen? ⟨g, i * 5, none⟩ = false ∧ w.frozen? ⟨g, i * 5 + 1, none⟩ = false ∧ w.frozen? ⟨g, i * 5 + 2, none⟩ = false ∧ w.frozen? ⟨g, i * 5 + 3, none⟩ = false ∧ w.frozen? ⟨g, i * 5 + 4, none⟩ = false)
   ∧ (w.cell? ⟨g, i * 5 + 1, none⟩ = some (.int .i64 y.f1) ∧ w.cell? ⟨g, i * 5 + 2, none⟩ = some (.string y.f2) ∧ w.cell? ⟨g, i * 5 + 3, none⟩ = some (.int .i64 y.f3) ∧ w.cell? ⟨g, i * 5 + 4, none⟩ = some (.string y.f4)) := by
 obtain ⟨ce, hcl, hM, hcc, hfr⟩ := Kd.R_elem hO z106 (i : Int) (by omega) (by omega)
 rw [Int.toNat_natCast, hy] at hM
 obtain rfl := k106_openM hM
 rw [Int.toNat_natCast] at hcc hfr
 exact ⟨hcc 0 _ rfl, ⟨hfr 0, hfr 1, hfr 2, hfr 3, hfr 4⟩, hcc 1 _ rfl, hcc 2 _ rfl, hcc 3 _ rfl, hcc 4 _ rfl⟩
theorem rn_set {w : World} {B g n cap : Nat} {M : List RN} {i : Nat} (hO : Kd.R k106 106 w B (fun _ => True) (.slice (some ⟨g, 0, none⟩) n cap) M) (hi : i < n) (x : RN) :
  Kd.R k106 106 (((((w.setCell ⟨g, i * 5, none⟩ (.int .i64 x.f0)).setCell ⟨g, i * 5 + 1, none⟩ (.int .i64 x.f1)).setCell ⟨g, i * 5 + 2, none⟩ (.string x.f2)).setCell ⟨g, i * 5 + 3, none⟩ (.int .i64 x.f3)).setCell ⟨g, i * 5 + 4, none⟩ (.string x.f4)) B (fun _ => True) (.slice (some ⟨g, 0, none⟩) n cap) (M.set i x) := by
 obtain ⟨ce, hcl, hM, hcc, hfr⟩ := Kd.R_elem hO z106 (i : Int) (by omega) (by omega)
 obtain rfl := k106_openM hM
 exact (Kd.R_seg hO (i : Int) (by omega) (by omega) (seg := [.int .i64 x.f0, .int .i64 x.f1, .string x.f2, .int .i64 x.f3, .string x.f4]) (j := 0) hcl hcc (show 5 ≤ 5 from by decide) (x' := x) (k106_mkM _ _ _ x) (fun _ hk => hk)).1
set_option maxHeartbeats 4000000 in
set_option maxRecDepth 1000000 in
theorem rwith_own (L : List RN) (last : Int) (v : Value) (x : RN) (w : World) (h : RAt w v L last) (hl : L.length ≤ 1000000) :
  Calls Tryz.prog 145 #[v, .agg #[.int .i64 x.f0, .int .i64 x.f1, .string x.f2, .int .i64 x.f3, .string x.f4]] w fun e w' => ∃ A9 c9, e = .returned (.agg #[.slice A9 L.length c9, .int .i64 last]) ∧ Below w.heap.size w w' ∧ ∃ B9, w.heap.size < B9 ∧ Kd.R k106 106 w' B9 (fun _ => True) (.slice A9 L.length c9) (withL L x) := by
 obtain ⟨A, c, rfl, hle, hC⟩ := h
 have hu30 := Tryz.underlying30
 have hu106 := Tryz.underlying106
 obtain ⟨k1, k2, k3, k4, k5⟩ := three_blocks w (.cells #[.slice A L.length c, .int .i64 last] 30) (.cells #[.int .i64 x.f0, .int .i64 x.f1, .string x.f2, .int .i64 x.f3, .string x.f4] 106) (.cells #[.slice none 0 0, .int .i64 0] 30)
 have HC := Lib.hid (Kd.C_below hC k4)
 have HK := Lib.hid (And.intro k1 (And.intro k2 (And.intro k3 (And.intro k4 k5))))
 have HL := Lib.hid hl
 clear hC k1 k2 k3 k4 k5
 go_enter Tryz.func145, Tryz.ntmps145
 go_upto_region 1 with (fail)
 generalize ((w.alloc (.cells #[.slice A L.length c, .int .i64 last] 30)).alloc (.cells #[.int .i64 x.f0, .int .i64 x.f1, .string x.f2, .int .i64 x.f3, .string x.f4] 106)).alloc (.cells #[.slice none 0 0, .int .i64 0] 30) = w3 at HC HK ⊢
 have H1 := Lib.hid HK.out.1
 have H2 := Lib.hid HK.out.2.1
 have H3 := Lib.hid HK.out.2.2.1
 have HB3 := Lib.hid HK.out.2.2.2.1
 have hs3 := HK.out.2.2.2.2
 have HG := Lib.hid (show w.heap.size + 2 < w3.heap.size by omega)
 clear hs3 HK
 generalize hb0 : w.heap.size = b at *
 have HW0 := Lib.hid hb0
 clear hb0
 have HX := Lib.hid (fun (W : World) (hb : Below w3.heap.size w3 W) => show (W.cell? ⟨b, 0, none⟩ = some (.slice A L.length c) ∧ W.cell? ⟨b, 1, none⟩ = some (.int .i64 last)) ∧ (W.cell? ⟨b + 1, 0, none⟩ = some (.int .i64 x.f0) ∧ W.cell? ⟨b + 1, 1, none⟩ = some (.int .i64 x.f1) ∧ W.cell? ⟨b + 1, 2, none⟩ = some (.string x.f2) ∧ W.cell? ⟨b + 1, 3, none⟩ = some (.int .i64 x.f3) ∧ W.cell? ⟨b + 1, 4, none⟩ = some (.string x.f4)) ∧ (W.frozen? ⟨b + 1 + 1, 0, none⟩ = false ∧ W.frozen? ⟨b + 1 + 1, 1, none⟩ = false) by
  have e1 := (hb.block _ (blk_lt H1.out)).trans H1.out
  have e2 := (hb.block _ (blk_lt H2.out)).trans H2.out
  have e3 := (hb.block _ (blk_lt H3.out)).trans H3.out
  exact ⟨⟨by rw [blk_cell e1]; rfl, by rw [blk_cell e1]; rfl⟩, ⟨by rw [blk_cell e2]; rfl, by rw [blk_cell e2]; rfl, by rw [blk_cell e2]; rfl, by rw [blk_cell e2]; rfl, by rw [blk_cell e2]; rfl⟩, blk_frozen e3 0, blk_frozen e3 1⟩)
 obtain ⟨⟨y0, y1⟩, -, -⟩ := HX.out _ (Below.refl _ _)
 go_upto_region 2 with (((with_reducible refine gate_builtin (b := .append) (xs := #[.const (.slice none 0 0), .tmp 8]) rfl ?_); at_builtin; refine Kd.R_append_rows k106 (w0 := w3) w3.heap.size rfl (.const (.slice none 0 0)) (.tmp 8) 28 106 (.agg #[(.int .i64 0), (.int .i64 0), (.string ⟨#[]⟩), (.int .i64 0), (.string ⟨#[]⟩)]) 56 rfl Tryz.underlying28 info106 rfl (by decide) (by omega) (.slice none 0 0) ([] : List RN) L A L.length c (fun _ => True) (fun _ => False) rfl rfl (Kd.R_nil _ _ _ _ _) HC.out (fun _ _ h => by obtain rfl := k106_open h; exact k106_mkM _ _ _ _) (fun _ h => h.elim) (fun _ _ => trivial) (Below.refl _ _) (Nat.le_refl _) (by have := HL.out; simp; omega) ?_; intro v5 w5 ho5 hb5 hg5 hat5; have HO5 := Lib.hid (show Kd.R k106 106 w5 w3.heap.size (fun _ => True) v5 L from ho5); have HB5 := Lib.hid hb5; clear ho5 hb5 hg5 hat5))
 obtain ⟨A5, c5, rfl, hl5, -⟩ := Kd.R_reads HO5.out
 clear y0 y1
 go_wp2
 go_loopw [6] (fun v6 wr => ∃ i : Nat, v6 = .int .i64 (i : Int) ∧ i ≤ L.length ∧ Kd.R k106 106 wr w3.heap.size (fun _ => True) (.slice A5 L.length c5) (withI L x i) ∧ Below w3.heap.size w3 wr) (fun v _ => L.length - (intOf v).toNat)
 case atStart => exact ⟨0, rfl, Nat.zero_le _, by rw [withI_zero]; exact HO5.out, HB5.out⟩
 case round =>
  obtain ⟨i, rfl, hi, hO, hB⟩ := hrel
  have HO := Lib.hid hO
  have HB := Lib.hid hB
  by_cases h : i < L.length
  ·
   obtain ⟨g, cap, eg, hgb, hgl, -⟩ := Kd.R_form hO (by rw [withI_len]; omega)
   injection eg with ea en ec
   subst ea ec
   clear en
   obtain ⟨x0, -, -⟩ := rn_elem hO h (withI_at L x h)
   obtain ⟨-, ⟨z0, z1, z2, z3, z4⟩, -⟩ := HX.out _ hB
   have HGB := Lib.hid hgb
   have hlt : (i : Int) < (L.length : Int) := by omega
   by_cases he : L[i].f0 = x.f0
   ·
    have HI := Lib.hid (withI_yes L x h he)
    have b1 : (L[i].f0 == x.f0) = true := beq_iff_eq.2 he
    have HWA := Lib.hid (withI_at L x h)
    clear he hO hB hgb hgl
    go_upto_region 5 with (fail)
    go_quiet (fail)
    have HO9 := Lib.hid (Kd.R_drewN HO.out nq)
    have HB9 := Lib.hid (pw_below_drewN HB.out nq)
    generalize wr.drewN nq = w9 at HO9 HB9 ⊢
    clear x0 z0 z1 z2 z3 z4
    obtain ⟨q0, ⟨f0, f1, f2, f3, f4⟩, q1, q2, q3, q4⟩ := rn_elem HO9.out h HWA.out
    obtain ⟨-, ⟨z0, z1, z2, z3, z4⟩, -⟩ := HX.out _ HB9.out
    have HR := Lib.hid (rn_set HO9.out h x)
    go_wp2
    exact ⟨⟨i + 1, by go_num, h, by rw [HI.out]; exact HR.out, ((((HB9.out.setCell HGB.out _).setCell HGB.out _).setCell HGB.out _).setCell HGB.out _).setCell HGB.out _⟩, meas_one h⟩
   ·
    have HI := Lib.hid (withI_no L x h he)
    have b1 : (L[i].f0 == x.f0) = false := beq_eq_false_iff_ne.2 he
    clear he hO hB hgb hgl
    go_upto_region 5 with (fail)
    go_quiet (fail)
    have HO9 := Lib.hid (Kd.R_drewN HO.out nq)
    have HB9 := Lib.hid (pw_below_drewN HB.out nq)
    generalize wr.drewN nq = w9 at HO9 HB9 ⊢
    clear x0 z0 z1 z2 z3 z4
    go_wp2
    go_roundw
    case rel => exact ⟨i + 1, by go_num, h, by rw [HI.out]; exact HO9.out, HB9.out⟩
    case measure => exact meas_one h
  ·
   obtain rfl : i = L.length := by omega
   rw [withI_end] at hO
   have h' : ¬ ((L.length : Int) < (L.length : Int)) := by omega
   obtain ⟨⟨y0, y1⟩, -, u0, u1⟩ := HX.out _ hB
   have HR := Lib.hid hO
   have hg := HG.out
   have HB9 := Lib.hid (((HB3.out.trans (hB.mono (by omega))).setCell (p := ⟨b + 1 + 1, 0, none⟩) (show b ≤ b + 1 + 1 by omega) (.slice A5 L.length c5)).setCell (p := ⟨b + 1 + 1, 1, none⟩) (show b ≤ b + 1 + 1 by omega) (.int .i64 last))
   have e3 := (hB.block _ (blk_lt H3.out)).trans H3.out
   have p0 : wr.cell? ⟨b + 1 + 1, 0, none⟩ = some (.slice none 0 0) := by rw [blk_cell e3]; rfl
   have p1 : wr.cell? ⟨b + 1 + 1, 1, none⟩ = some (.int .i64 0) := by rw [blk_cell e3]; rfl
   have HT := Lib.hid (res_cells (.slice A5 L.length c5) (.int .i64 last) e3)
   clear e3
   have HRR := Lib.hid <| rfar2 (u := .slice A5 L.length c5) (u' := .int .i64 last) HR.out (show b + 1 + 1 < w3.heap.size by omega)
   clear hB hO h hg
   go_wp2
   obtain ⟨t0, t1⟩ := HT.out
   have hB9 := HB9.out
   have hR9 := HRR.out
   generalize (wr.setCell ⟨b + 1 + 1, 0, none⟩ (.slice A5 L.length c5)).setCell ⟨b + 1 + 1, 1, none⟩ (.int .i64 last) = w9 at t0 t1 hB9 hR9 ⊢
   refine bodyPost_ret (v := .agg #[.slice A5 L.length c5, .int .i64 last]) (by simp [results, Tryz.results145, go_sem, t0, t1, hu30]) rfl ⟨A5, c5, rfl, by rw [HW0.out]; exact hB9, w3.heap.size, by rw [HW0.out]; have := HG.out; omega, hR9⟩
end Go.Proofs.YtnpeeiikdcankaaGreat.Tw

namespace Go.Proofs.YtnpeeiikdcankaaGreat.Tw
open Go Go.RowKit Go.Shelf Go.Proofs Go.Proofs.YtnpeeiikdcankaaGreat Go.Proofs.YtnpeeiikdcankaaGreatW.PrintWords Go.Proofs.YtnpeeiikdcankaaGreat.Ext Go.Proofs.YtnpeeiikdcankaaGreat.X Go.Proofs.YtnpeeiikdcankaaGreat.Pu
theorem two_blocks (w : World) (o1 o2 : Obj) : ((w.alloc o1).alloc o2).heap[w.heap.size]? = some o1 ∧ ((w.alloc o1).alloc o2).heap[w.heap.size + 1]? = some o2 ∧ Below w.heap.size w ((w.alloc o1).alloc o2) := by
 have s1 : (w.alloc o1).heap.size = w.heap.size + 1 := Array.size_push _
 refine ⟨?_, ?_, ?_⟩
 · rw [heap_alloc_old _ _ _ (by omega), heap_alloc_new]
 · rw [← s1, heap_alloc_new]
 · exact ((Below.refl _ w).alloc (Nat.le_refl _) _).alloc (by omega) _
set_option maxHeartbeats 4000000 in
set_option maxRecDepth 1000000 in
theorem rset_calls (L : List RN) (last : Int) (v : Value) (n : Int) (data : ByteArray) (w : World) (h : RAt w v L last) (hl : L.length ≤ 1000000) :
  Calls Tryz.prog 111 #[v, .int .i64 n, .string data] w fun e w' => ∃ v', e = .returned (.tuple #[v', .int .i64 (setRE L n data)]) ∧ RAt w' v' (setS L n data) last ∧ Below w.heap.size w w' := by
 obtain ⟨A, c, rfl, hle, hC⟩ := h
 have hu30 := Tryz.underlying30
 have hu106 := Tryz.underlying106
 obtain ⟨ka, hka⟩ := (r07_at L n last (by omega)).rounds
 have HAT := Lib.hid (fun W h => linhayref07_At.calls ka A c L last n _ _ _ _ _ W h hle hka)
 have HM := Lib.hid (fun W => linhayref07_may.calls 5 (atR L n).f3 data (mayE (atR L n).f3 data) W (r07_may (atR L n).f3 data))
 have HWI := Lib.hid (fun W h => rwith_own L last (.agg #[.slice A L.length c, .int .i64 last]) (setX L n data) W h hl)
 obtain ⟨k1, k2, k3⟩ := two_blocks w (.cells #[.slice A L.length c, .int .i64 last] 30) (.cells #[.slice none 0 0, .int .i64 0] 30)
 have HK := Lib.hid (And.intro k1 (And.intro k2 k3))
 have HC := Lib.hid hC
 unfold setX at HWI
 simp only [] at HWI
 have HS : Hid ((setRE L n data = 0 → setS L n data = withL L (setX L n data)) ∧ (setRE L n data ≠ 0 → setS L n data = L)) := Lib.hid ⟨fun e => if_pos e, fun e => if_neg e⟩
 have HRE : Hid (setRE L n data = if (atR L n).f3 = 0 then 5 else if (atR L n).f3 = 1 then 8 else mayE (atR L n).f3 data) := Lib.hid rfl
 unfold setX at HS
 generalize setS L n data = SS at *
 generalize setRE L n data = re at *
 generalize mayE (atR L n).f3 data = me at *
 generalize atR L n = q at *
 obtain ⟨q0, q1, q2, q3, q4⟩ := q
 simp only [] at HAT HM HWI HS HRE ⊢
 clear hC k1 k2 k3 hka
 go_enter Tryz.func111, Tryz.ntmps111
 go_upto_region 1 with (fail)
 generalize (w.alloc (.cells #[.slice A L.length c, .int .i64 last] 30)).alloc (.cells #[.slice none 0 0, .int .i64 0] 30) = w2 at HK ⊢
 have HR1 := Lib.hid HK.out.1
 have HR2 := Lib.hid HK.out.2.1
 have HB2 := Lib.hid HK.out.2.2
 clear HK
 generalize hb0 : w.heap.size = b at HR1 HR2 ⊢
 have HW0 := Lib.hid hb0
 clear hb0
 have HX := Lib.hid (fun (W : World) (hb : Below w2.heap.size w2 W) => show (W.cell? ⟨b, 0, none⟩ = some (.slice A L.length c) ∧ W.cell? ⟨b, 1, none⟩ = some (.int .i64 last)) ∧ (W.cell? ⟨b + 1, 0, none⟩ = some (.slice none 0 0) ∧ W.cell? ⟨b + 1, 1, none⟩ = some (.int .i64 0)) ∧ (W.frozen? ⟨b + 1, 0, none⟩ = false ∧ W.frozen? ⟨b + 1, 1, none⟩ = false) by
  have e1 := (hb.block _ (blk_lt HR1.out)).trans HR1.out
  have e2 := (hb.block _ (blk_lt HR2.out)).trans HR2.out
  exact ⟨⟨by rw [blk_cell e1]; rfl, by rw [blk_cell e1]; rfl⟩, ⟨by rw [blk_cell e2]; rfl, by rw [blk_cell e2]; rfl⟩, blk_frozen e2 0, blk_frozen e2 1⟩)
 have HCT := Lib.hid (fun (W : World) (hb : Below w2.heap.size w2 W) => Kd.C_below HC.out (HB2.out.trans (hb.mono HB2.out.size)))
 obtain ⟨⟨x0, x1⟩, -, -⟩ := HX.out _ (Below.refl _ _)
 go_upto_region 2 with (go_at_call 68; refine (HAT.out _ (HCT.out _ (Below.refl _ _))).mono ?_; rintro e w3 ⟨rfl, hb3⟩; have HB3 := Lib.hid hb3; clear hb3 x0 x1)
 have HB4 := Lib.hid (HB3.out.alloc HB3.out.size (.cells #[.int .i64 q0, .int .i64 q1, .string q2, .int .i64 q3, .string q4] 106))
 have H4 := Lib.hid (heap_alloc_new w3 (.cells #[.int .i64 q0, .int .i64 q1, .string q2, .int .i64 q3, .string q4] 106))
 generalize w3.alloc (.cells #[.int .i64 q0, .int .i64 q1, .string q2, .int .i64 q3, .string q4] 106) = w4 at HB4 H4 ⊢
 have HG4 := Lib.hid HB3.out.size
 generalize w3.heap.size = g4 at H4 HG4 ⊢
 have y3 : w4.cell? ⟨g4, 3, none⟩ = some (.int .i64 q3) := by rw [blk_cell H4.out]; rfl
 obtain ⟨⟨x0, x1⟩, ⟨r0, r1⟩, f0, f1⟩ := HX.out _ HB4.out
 by_cases e0 : q3 = 0
 ·
  subst e0
  have hre : re = 5 := by rw [HRE.out, if_pos rfl]
  have hSS := HS.out.2 (by rw [hre]; decide)
  have HRS := Lib.hid (And.intro hre hSS)
  clear hre hSS HS HRE HM HWI HAT
  go_wp2
  obtain ⟨hre, hSS⟩ := HRS.out
  have e3 := (HB4.out.block _ (blk_lt HR2.out)).trans HR2.out
  have hT := res_cells (.slice A L.length c) (.int .i64 last) e3
  have hB9 : Below w.heap.size w ((w4.setCell ⟨b + 1, 0, none⟩ (.slice A L.length c)).setCell ⟨b + 1, 1, none⟩ (.int .i64 last)) := ((HB2.out.trans (HB4.out.mono HB2.out.size)).setCell (p := ⟨b + 1, 0, none⟩) (by rw [HW0.out]; exact Nat.le_succ b) (.slice A L.length c)).setCell (p := ⟨b + 1, 1, none⟩) (by rw [HW0.out]; exact Nat.le_succ b) (.int .i64 last)
  generalize (w4.setCell ⟨b + 1, 0, none⟩ (.slice A L.length c)).setCell ⟨b + 1, 1, none⟩ (.int .i64 last) = w9 at hT hB9 ⊢
  obtain ⟨t0, t1⟩ := hT
  refine bodyPost_ret (v := .tuple #[.agg #[.slice A L.length c, .int .i64 last], .int .i64 5]) (by simp [results, Tryz.results111, go_sem, t0, t1, hu30]) rfl ⟨.agg #[.slice A L.length c, .int .i64 last], by rw [hre], by rw [hSS]; exact ⟨A, c, rfl, hle, Kd.C_below HC.out hB9⟩, hB9⟩
 ·
  have b0 : (q3 == 0) = false := beq_eq_false_iff_ne.2 e0
  by_cases e1 : q3 = 1
  ·
   subst e1
   have hre : re = 8 := by rw [HRE.out, if_neg (by decide), if_pos rfl]
   have hSS := HS.out.2 (by rw [hre]; decide)
   have HRS := Lib.hid (And.intro hre hSS)
   clear hre hSS HS HRE HM HWI HAT
   go_wp2
   obtain ⟨hre, hSS⟩ := HRS.out
   have e3 := (HB4.out.block _ (blk_lt HR2.out)).trans HR2.out
   have hT := res_cells (.slice A L.length c) (.int .i64 last) e3
   have hB9 : Below w.heap.size w ((w4.setCell ⟨b + 1, 0, none⟩ (.slice A L.length c)).setCell ⟨b + 1, 1, none⟩ (.int .i64 last)) := ((HB2.out.trans (HB4.out.mono HB2.out.size)).setCell (p := ⟨b + 1, 0, none⟩) (by rw [HW0.out]; exact Nat.le_succ b) (.slice A L.length c)).setCell (p := ⟨b + 1, 1, none⟩) (by rw [HW0.out]; exact Nat.le_succ b) (.int .i64 last)
   generalize (w4.setCell ⟨b + 1, 0, none⟩ (.slice A L.length c)).setCell ⟨b + 1, 1, none⟩ (.int .i64 last) = w9 at hT hB9 ⊢
   obtain ⟨t0, t1⟩ := hT
   refine bodyPost_ret (v := .tuple #[.agg #[.slice A L.length c, .int .i64 last], .int .i64 8]) (by simp [results, Tryz.results111, go_sem, t0, t1, hu30]) rfl ⟨.agg #[.slice A L.length c, .int .i64 last], by rw [hre], by rw [hSS]; exact ⟨A, c, rfl, hle, Kd.C_below HC.out hB9⟩, hB9⟩
  ·
   have b1 : (q3 == 1) = false := beq_eq_false_iff_ne.2 e1
   by_cases e2 : me = 0
   ·
    subst e2
    have hre : re = 0 := by rw [HRE.out, if_neg e0, if_neg e1]
    have hSS := HS.out.1 hre
    have HRS := Lib.hid (And.intro hre hSS)
    clear hre hSS HS HRE HAT e0 e1
    go_upto_region 9 with (go_at_call 106; refine (HM.out _).mono ?_; rintro e w5 ⟨rfl, hd5⟩; have HB5 := Lib.hid (HB4.out.trans (hd5.below.mono HB4.out.size)); have H5 := Lib.hid ((hd5.below.block _ (blk_lt H4.out)).trans H4.out); clear hd5 x0 x1 r0 r1 f0 f1 y3; obtain ⟨⟨x0, x1⟩, ⟨r0, r1⟩, f0, f1⟩ := HX.out _ HB5.out)
    have y4 : w5.cell? ⟨g4, 4, none⟩ = some (.string q4) := by rw [blk_cell H5.out]; rfl
    have u4 := blk_frozen H5.out 4
    have HB6 := Lib.hid (HB5.out.setCell (p := ⟨g4, 4, none⟩) HG4.out (.string data))
    have H6 : Hid ((w5.setCell ⟨g4, 4, none⟩ (.string data)).heap[g4]? = some (.cells #[.int .i64 q0, .int .i64 q1, .string q2, .int .i64 q3, .string data] 106 (0, 0))) := Lib.hid (by
     rw [setCell_eq_setRow w5 g4 4 _ _ _ (.string data) H5.out, setRow_heap w5 _ _ _ _ _ H5.out]; rfl)
    go_upto_region 10 with (fail)
    generalize w5.setCell ⟨g4, 4, none⟩ (.string data) = w6 at HB6 H6 ⊢
    clear x0 x1 r0 r1 f0 f1 y4 u4
    obtain ⟨⟨x0, x1⟩, -, -⟩ := HX.out _ HB6.out
    have y0 : w6.cell? ⟨g4, 0, none⟩ = some (.int .i64 q0) := by rw [blk_cell H6.out]; rfl
    have y1 : w6.cell? ⟨g4, 1, none⟩ = some (.int .i64 q1) := by rw [blk_cell H6.out]; rfl
    have y2 : w6.cell? ⟨g4, 2, none⟩ = some (.string q2) := by rw [blk_cell H6.out]; rfl
    have y3 : w6.cell? ⟨g4, 3, none⟩ = some (.int .i64 q3) := by rw [blk_cell H6.out]; rfl
    have y4 : w6.cell? ⟨g4, 4, none⟩ = some (.string data) := by rw [blk_cell H6.out]; rfl
    go_wp2_with (go_at_call 145; refine (HWI.out _ ⟨A, c, rfl, hle, HCT.out _ HB6.out⟩).mono ?_; rintro e w7 ⟨A7, c7, rfl, hb7, B7, hB7, hR7⟩; have HB7 := Lib.hid (HB6.out.trans (hb7.mono HB6.out.size)); have HR7 := Lib.hid hR7; have HBB := Lib.hid (Nat.lt_of_le_of_lt HB6.out.size hB7); clear hR7 hB7 hb7 x0 x1; obtain ⟨⟨x0, x1⟩, ⟨r0, r1⟩, f0, f1⟩ := HX.out _ HB7.out)
    have hlt2 := blk_lt HR2.out
    have hRR := Kd.R_reads (rfar2 (u := .slice A7 L.length c7) (u' := .int .i64 last) HR7.out (show b + 1 < B7 by have := HBB.out; omega))
    obtain ⟨hre, hSS⟩ := HRS.out
    have e3 := (HB7.out.block _ (blk_lt HR2.out)).trans HR2.out
    have hT := res_cells (.slice A7 L.length c7) (.int .i64 last) e3
    have hB9 : Below w.heap.size w ((w7.setCell ⟨b + 1, 0, none⟩ (.slice A7 L.length c7)).setCell ⟨b + 1, 1, none⟩ (.int .i64 last)) := ((HB2.out.trans (HB7.out.mono HB2.out.size)).setCell (p := ⟨b + 1, 0, none⟩) (by rw [HW0.out]; exact Nat.le_succ b) (.slice A7 L.length c7)).setCell (p := ⟨b + 1, 1, none⟩) (by rw [HW0.out]; exact Nat.le_succ b) (.int .i64 last)
    generalize (w7.setCell ⟨b + 1, 0, none⟩ (.slice A7 L.length c7)).setCell ⟨b + 1, 1, none⟩ (.int .i64 last) = w9 at hT hB9 hRR ⊢
    obtain ⟨t0, t1⟩ := hT
    refine bodyPost_ret (v := .tuple #[.agg #[.slice A7 L.length c7, .int .i64 last], .int .i64 0]) (by simp [results, Tryz.results111, go_sem, t0, t1, hu30]) rfl ⟨.agg #[.slice A7 L.length c7, .int .i64 last], by rw [hre], by rw [hSS]; exact (by obtain ⟨A9, c9, e9, h9, hC9⟩ := hRR; rw [withL_len] at e9; exact ⟨A9, c9, by rw [e9, withL_len], h9, hC9⟩), hB9⟩
   ·
    have hre : re = me := by rw [HRE.out, if_neg e0, if_neg e1]
    have hSS := HS.out.2 (by rw [hre]; exact e2)
    have b2 : (me != 0) = true := bne_iff_ne.2 e2
    have HRS := Lib.hid (And.intro hre hSS)
    clear hre hSS HS HRE HWI HAT e0 e1 e2
    go_wp2_with (go_at_call 106; refine (HM.out _).mono ?_; rintro e w5 ⟨rfl, hd5⟩; have HB5 := Lib.hid (HB4.out.trans (hd5.below.mono HB4.out.size)); clear hd5 x0 x1 r0 r1 f0 f1 y3; obtain ⟨⟨x0, x1⟩, ⟨r0, r1⟩, f0, f1⟩ := HX.out _ HB5.out)
    obtain ⟨hre, hSS⟩ := HRS.out
    have e3 := (HB5.out.block _ (blk_lt HR2.out)).trans HR2.out
    have hT := res_cells (.slice A L.length c) (.int .i64 last) e3
    have hB9 : Below w.heap.size w ((w5.setCell ⟨b + 1, 0, none⟩ (.slice A L.length c)).setCell ⟨b + 1, 1, none⟩ (.int .i64 last)) := ((HB2.out.trans (HB5.out.mono HB2.out.size)).setCell (p := ⟨b + 1, 0, none⟩) (by rw [HW0.out]; exact Nat.le_succ b) (.slice A L.length c)).setCell (p := ⟨b + 1, 1, none⟩) (by rw [HW0.out]; exact Nat.le_succ b) (.int .i64 last)
    generalize (w5.setCell ⟨b + 1, 0, none⟩ (.slice A L.length c)).setCell ⟨b + 1, 1, none⟩ (.int .i64 last) = w9 at hT hB9 ⊢
    obtain ⟨t0, t1⟩ := hT
    refine bodyPost_ret (v := .tuple #[.agg #[.slice A L.length c, .int .i64 last], .int .i64 me]) (by simp [results, Tryz.results111, go_sem, t0, t1, hu30]) rfl ⟨.agg #[.slice A L.length c, .int .i64 last], by rw [hre], by rw [hSS]; exact ⟨A, c, rfl, hle, Kd.C_below HC.out hB9⟩, hB9⟩
end Go.Proofs.YtnpeeiikdcankaaGreat.Tw

namespace Go.Proofs.YtnpeeiikdcankaaGreat.Tw
open Go Go.RowKit Go.Shelf Go.Proofs Go.Proofs.YtnpeeiikdcankaaGreat Go.Proofs.YtnpeeiikdcankaaGreatW.PrintWords Go.Proofs.YtnpeeiikdcankaaGreat.Ext Go.Proofs.YtnpeeiikdcankaaGreat.X Go.Proofs.YtnpeeiikdcankaaGreat.Pu

theorem beginE_ok {s : ByteArray} (h : beginE s = 0) : s.size ≤ 1024 ∧ s.toList ≠ [] := by
 unfold beginE at h
 split at h
 · cases h
 ·
  split at h
  · cases h
  · exact ⟨by omega, by assumption⟩
def findF (T : Tr) (last : Bool) (k : Nat) (s : ByteArray) : Option (Int × Int) :=
 if beginE s = 0 then (walkF T last k 1 0 (partsB s)).bind fun r => if r.2 = 0 then some (r.1, 0) else some (0, r.2) else some (0, beginE s)
theorem Wk.made {w : World} {p : Nat} {l : List ByteArray} {A : Option Addr} {c : Nat} (hr : Kd.C Kd.string w A l.length l) (hc : l.length ≤ c) :
  Wk (w.alloc (.cells #[pT p, .int .i64 1, .int .i64 0, .slice A l.length c] 191)) w.heap.size p 1 0 l A c :=
 ⟨World.alloc_heap_new w _, Kd.C_below hr ((Below.refl _ w).alloc (Nat.le_refl _) _), hc⟩
set_option maxHeartbeats 4000000 in
set_option maxRecDepth 1000000 in
theorem seekFind_calls (p : Nat) (T : Tr) (s : ByteArray) (last : Bool) (k : Nat) (R : Int × Int) (w : World) (hT : TreeAt w p T) (hO : TrOK T) (hR : findF T last k s = some R) :
  Calls Tryz.prog 156 #[pT p, .string s, .bool last] w fun e w' => e = .returned (.tuple #[.int .i64 R.1, .int .i64 R.2]) ∧ Below w.heap.size w w' := by
 have HBG := Lib.hid (fun W => begin_calls p s W)
 unfold findF at hR
 by_cases h0 : beginE s = 0
 ·
  rw [if_pos h0] at hR
  rw [h0] at HBG
  obtain ⟨hz, -⟩ := beginE_ok h0
  obtain ⟨r, hr, hR⟩ := Option.bind_eq_some_iff.1 hR
  have HP := Lib.hid (fun W => path_Parts.calls s (partsB s) W (by rw [path_Parts.f, if_pos (by omega)]; rfl))
  have hpl := partsB_len' s
  have HW := Lib.hid (fun W g A c h1 h2 h3 => walk_calls w.heap.size w g p T hT hO last k 1 (partsB s) A c r W h1 h2 h3 wf1 (by omega) (fun x hx => Nat.le_trans (partsB_sz s x hx) (by omega)) hr)
  have HR := Lib.hid hR
  clear hT hR hr h0
  generalize partsB s = l at HP HW hpl
  obtain ⟨rn, re⟩ := r
  simp only [] at HR
  go_enter Tryz.func156, Tryz.ntmps156
  go_upto_region 5 with (first | (go_at_call 134; refine (HBG.out _).mono ?_; rintro e w2 ⟨rfl, rfl⟩) | (go_at_call 135; refine (HP.out _).mono ?_; rintro e w3 ⟨v, rfl, ho, hb3⟩; obtain ⟨A3, c3, rfl, hl3, hC3⟩ := Kd.R_reads ho; have HC3 := Lib.hid hC3; have HB3 := Lib.hid hb3; have HL3 := Lib.hid hl3; clear ho hC3 hb3 hl3))
  have hk := Wk.made (p := p) HC3.out HL3.out
  have hB : Below w.heap.size w (w3.alloc (.cells #[pT p, .int .i64 1, .int .i64 0, .slice A3 l.length c3] 191)) := HB3.out.alloc HB3.out.size _
  have hg : w.heap.size ≤ w3.heap.size := HB3.out.size
  generalize w3.alloc (.cells #[pT p, .int .i64 1, .int .i64 0, .slice A3 l.length c3] 191) = w4 at hk hB ⊢
  generalize w3.heap.size = g at hk hg ⊢
  have HWK := Lib.hid (HW.out w4 g A3 c3 hk hB hg)
  clear hk hB HW HC3 HB3 HL3
  by_cases he : re = 0
  ·
   subst he
   rw [if_pos rfl] at HR
   go_upto_region 8 with (go_at_call 137; refine HWK.out.mono ?_; rintro e w5 ⟨rfl, hw5⟩)
   obtain ⟨hq, hb5⟩ := hw5
   obtain ⟨h5, l5, A5, c5, hk5⟩ := hq rfl
   obtain ⟨c0, c1, c2, c3⟩ := hk5.cells
   have HB5 := Lib.hid hb5
   have hR := Option.some.inj HR.out
   subst hR
   clear hk5 hq hb5
   go_wp2
   go_ret2
   exact ⟨rfl, HB5.out⟩
  ·
   rw [if_neg he] at HR
   have b3 : (re != 0) = true := bne_iff_ne.2 he
   have hR := Option.some.inj HR.out
   subst hR
   clear he
   go_wp2_with (go_at_call 137; refine HWK.out.mono ?_; rintro e w5 ⟨rfl, hw5⟩)
   go_ret2
   exact ⟨rfl, hw5.2⟩
 ·
  rw [if_neg h0] at hR
  have hR := Option.some.inj hR
  subst hR
  have b3 : (beginE s != 0) = true := bne_iff_ne.2 h0
  generalize beginE s = e0 at HBG b3
  clear h0 hT
  go_enter Tryz.func156, Tryz.ntmps156
  go_wp2_with (first | (go_at_call 134; refine (HBG.out _).mono ?_; rintro e w2 ⟨rfl, rfl⟩))
  go_ret2
  exact ⟨rfl, Below.refl _ _⟩
end Go.Proofs.YtnpeeiikdcankaaGreat.Tw

namespace Go.Proofs.YtnpeeiikdcankaaGreat.Tw
open Go Go.RowKit Go.Shelf Go.Proofs Go.Proofs.YtnpeeiikdcankaaGreat Go.Proofs.YtnpeeiikdcankaaGreatW.PrintWords Go.Proofs.YtnpeeiikdcankaaGreat.Ext Go.Proofs.YtnpeeiikdcankaaGreat.X Go.Proofs.YtnpeeiikdcankaaGreat.Pu

set_option maxHeartbeats 4000000 in
set_option maxRecDepth 1000000 in
theorem cloneS_calls (A : Option Addr) (c : Nat) (l : List ByteArray) (w : World) (hr : Kd.C Kd.string w A l.length l) (hc : l.length ≤ c) (hl : l.length < 4294967296) :
  Calls Tryz.prog 136 #[.slice A l.length c] w fun e w' => ∃ v, e = .returned v ∧ Kd.R Kd.string 9 w' w.heap.size (fun _ => True) v l ∧ Below w.heap.size w w' := by
 have hq := fun W => Lib.run_eql_slice_nil (P := Tryz.prog) W 186 9 A l.length c 0 0 Tryz.underlying186
 have HR := Lib.hid hr
 have HRE := Lib.hid (R_empty Kd.string 9 w w.heap.size (Nat.le_refl _))
 have HB := Lib.hid ((Below.refl w.heap.size w).alloc (Nat.le_refl _) (.cells #[] 9))
 cases A with
 | none =>
  have h0 : l = [] := by
   cases l with
   | nil => rfl
   | cons a b => obtain ⟨ad, e, _⟩ := hr.2.2 (by simp); cases e
  subst h0
  clear hr HR hq
  have hq := fun W => Lib.run_eql_slice_nil (P := Tryz.prog) W 186 9 none 0 c 0 0 Tryz.underlying186
  simp only [Option.isNone_none] at hq
  go_enter Tryz.func136, Tryz.ntmps136
  go_wp2
  go_ret
  exact ⟨_, rfl, Kd.R_nil _ _ _ _ _, Below.refl _ _⟩
 | some ad =>
  clear hr
  simp only [Option.isNone_some] at hq
  go_enter Tryz.func136, Tryz.ntmps136
  go_wp2_with ((with_reducible refine gate_builtin (b := .append) (xs := #[.tmp 5, .tmp 6]) rfl ?_); at_builtin; refine Kd.R_append_rows Kd.string (w0 := w) w.heap.size rfl (.tmp 5) (.tmp 6) 186 9 (.string ⟨#[]⟩) 16 rfl Tryz.underlying186 infoS rfl (by decide) (by omega) _ [] l _ _ _ (fun _ => True) (fun _ => False) rfl rfl HRE.out (Kd.C_below HR.out HB.out) (fun _ _ h => h) (fun _ h => h.elim) (fun _ _ => trivial) HB.out (by simp) (by simp; omega) ?_; intro v1 w1 ho hb hg hat)
  go_ret
  exact ⟨_, rfl, ho, hb⟩

abbrev R3 := Int × ByteArray × Int
def noS (e : Int) : R3 := (0, ⟨#[]⟩, e)
def spotF (T : Tr) (k : Nat) (s : ByteArray) : Option R3 :=
 if beginE s = 0 then
  match (partsB s).getLast? with
  | none => some (noS 6)
  | some z => if z.toList = [46, 46] then some (noS 6) else (walkF T true k 1 0 (partsB s).dropLast).bind fun r =>
    if r.2 = 0 then (if (T.node r.1).kind = 1 then (if Sp.check z.data.toList = 0 then some (r.1, z, 0) else some (noS (Sp.check z.data.toList))) else some (noS 7)) else some (noS r.2)
 else some (noS (beginE s))
theorem walkF_wf {T : Tr} (hO : TrOK T) (last : Bool) : ∀ (k : Nat) (a h : Int) (l : List ByteArray) (R : Int × Int), wf a → walkF T last k a h l = some R → wf R.1 := by
 intro k
 induction k with
 | zero => intro a h l R _ hR; simp [walkF] at hR
 | succ k ih =>
  intro a h l R ha hR
  cases l with
  | nil => simp only [walkF, Option.some.injEq] at hR; subst hR; exact ha
  | cons s l =>
   simp only [walkF] at hR
   split at hR
   · cases hR; exact ha
   ·
    split at hR
    · exact ih _ _ _ _ (hO.wf_up a) hR
    ·
     split at hR
     · cases hR; exact ha
     ·
      split at hR
      · exact ih _ _ _ _ (hO.wf_down a s) hR
      ·
       split at hR
       · cases hR; exact ha
       ·
        refine ih _ _ _ _ ?_ hR
        split
        · exact wf1
        · exact ha
set_option maxHeartbeats 8000000 in
set_option maxRecDepth 1000000 in
theorem spot_calls (p : Nat) (T : Tr) (s : ByteArray) (k : Nat) (R : R3) (w : World) (hT : TreeAt w p T) (hO : TrOK T) (hR : spotF T k s = some R) :
  Calls Tryz.prog 93 #[pT p, .string s] w fun e w' => e = .returned (.tuple #[.int .i64 R.1, .string R.2.1, .int .i64 R.2.2]) ∧ Below w.heap.size w w' := by
 have HBG := Lib.hid (fun W => begin_calls p s W)
 unfold spotF at hR
 by_cases h0 : beginE s = 0
 ·
  rw [if_pos h0] at hR
  rw [h0] at HBG
  obtain ⟨hz, -⟩ := beginE_ok h0
  have HP := Lib.hid (fun W => path_Parts.calls s (partsB s) W (by rw [path_Parts.f, if_pos (by omega)]; rfl))
  have hpl := partsB_len' s
  have hps := partsB_sz s
  generalize partsB s = l at hR HP hpl hps
  clear h0
  rcases List.eq_nil_or_concat l with rfl | ⟨ini, z, rfl⟩
  ·
   have hR := Option.some.inj hR
   subst hR
   go_enter Tryz.func93, Tryz.ntmps93
   go_wp2_with (first | (go_at_call 134; refine (HBG.out _).mono ?_; rintro e w2 ⟨rfl, rfl⟩) | (go_at_call 135; refine (HP.out _).mono ?_; rintro e w3 ⟨v, rfl, ho, hb3⟩; obtain ⟨A3, c3, rfl, hl3, hC3⟩ := Kd.R_reads ho; clear ho hC3))
   go_ret3
   exact ⟨rfl, hb3⟩
  ·
   rw [List.concat_eq_append] at *
   rw [List.getLast?_concat, List.dropLast_concat] at hR
   simp only [] at hR
   have hlen : (ini ++ [z]).length = ini.length + 1 := by simp
   by_cases hdd : z.toList = [46, 46]
   ·
    rw [if_pos hdd] at hR
    have hR := Option.some.inj hR
    subst hR
    have b2 : (z.toList == [46, 46]) = true := by rw [hdd]; rfl
    go_enter Tryz.func93, Tryz.ntmps93
    go_upto_region 6 with (first | (go_at_call 134; refine (HBG.out _).mono ?_; rintro e w2 ⟨rfl, rfl⟩) | (go_at_call 135; refine (HP.out _).mono ?_; rintro e w3 ⟨v, rfl, ho, hb3⟩; obtain ⟨A3, c3, rfl, hl3, hC3⟩ := Kd.R_reads ho; have HC3 := Lib.hid hC3; clear ho hC3))
    obtain ⟨ad, eA, x0⟩ := Kd.at_string HC3.out (ini.length : Int) (by omega) (by simp; omega)
    have e0 : rdOf ByteArray.empty (ini ++ [z]) (ini.length : Int) = z := by simp [rdOf]
    rw [e0, Int.toNat_natCast] at x0
    subst eA
    have d0 : decide ((ini.length : Int) < 0) = false := decide_eq_false (by omega)
    have i0 : (0 : Int) ≤ (ini.length : Int) := by omega
    have i1 : (ini.length : Int) < (ini.length : Int) + 1 := by omega
    have i2 : (ini.length : Int) ≤ (ini.length : Int) + 1 := by omega
    clear e0
    go_wp2
    go_ret3
    exact ⟨rfl, hb3⟩
   ·
    rw [if_neg hdd] at hR
    have b2 : (z.toList == [46, 46]) = false := by simpa using hdd
    clear hdd
    obtain ⟨r, hr, hR⟩ := Option.bind_eq_some_iff.1 hR
    have hwr := walkF_wf hO true k 1 0 ini r wf1 hr
    have HW := Lib.hid (fun w4 (hT4 : TreeAt w4 p T) W g A c h1 h2 h3 => walk_calls w4.heap.size w4 g p T hT4 hO true k 1 ini A c r W h1 h2 h3 wf1 (by simp at hpl; omega) (fun x hx => Nat.le_trans (hps x (List.mem_append_left _ hx)) (by omega)) hr)
    have HT := Lib.hid hT
    have HR := Lib.hid hR
    have hzz : z.size < 4294967281 := by have := hps z (by simp); omega
    have HCK := Lib.hid (fun W => name_Check.calls z (Sp.check z.data.toList) W (by rw [name_Check.f, if_pos hzz]))
    have HKD := Lib.hid (fun W (h : TreeAt W p T) => kind_calls p T r.1 W h hwr)
    have hini : ini.length < 4294967296 := by simp at hpl; omega
    clear hT hR hr hps hwr
    obtain ⟨rn, re⟩ := r
    simp only [] at HR HKD
    go_enter Tryz.func93, Tryz.ntmps93
    go_upto_region 6 with (first | (go_at_call 134; refine (HBG.out _).mono ?_; rintro e w2 ⟨rfl, rfl⟩) | (go_at_call 135; refine (HP.out _).mono ?_; rintro e w3 ⟨v, rfl, ho, hb3⟩; obtain ⟨A3, c3, rfl, hl3, hC3⟩ := Kd.R_reads ho; have HC3 := Lib.hid hC3; clear ho hC3))
    obtain ⟨ad, eA, x0⟩ := Kd.at_string HC3.out (ini.length : Int) (by omega) (by simp; omega)
    have e0 : rdOf ByteArray.empty (ini ++ [z]) (ini.length : Int) = z := by simp [rdOf]
    rw [e0, Int.toNat_natCast] at x0
    subst eA
    have d0 : decide ((ini.length : Int) < 0) = false := decide_eq_false (by omega)
    have i0 : (0 : Int) ≤ (ini.length : Int) := by omega
    have i1 : (ini.length : Int) < (ini.length : Int) + 1 := by omega
    have i2 : (ini.length : Int) ≤ (ini.length : Int) + 1 := by omega
    clear e0
    have X0 := Lib.hid x0
    have HB3 := Lib.hid hb3
    have hct := Kd.C_take (m := ini.length) HC3.out (by simp)
    rw [List.take_left] at hct
    have HCT := Lib.hid hct
    clear hct hb3
    go_upto_region 9 with (go_at_call 136; refine (cloneS_calls _ _ ini _ HCT.out (by simp at hl3; omega) hini).mono ?_; rintro e w4 ⟨v4, rfl, ho4, hb4⟩; obtain ⟨A4, c4, rfl, hl4, hC4⟩ := Kd.R_reads ho4; have HC4 := Lib.hid hC4; have HB4 := Lib.hid (HB3.out.trans (hb4.mono HB3.out.size)); have x4 := pw_cell_below hb4 X0.out; clear ho4 hC4 hb4)
    have hk := Wk.made (p := p) HC4.out hl4
    have hB : Below w4.heap.size w4 (w4.alloc (.cells #[pT p, .int .i64 1, .int .i64 0, .slice A4 ini.length c4] 191)) := (Below.refl _ w4).alloc (Nat.le_refl _) _
    have hg : w4.heap.size ≤ w4.heap.size := Nat.le_refl _
    generalize w4.alloc (.cells #[pT p, .int .i64 1, .int .i64 0, .slice A4 ini.length c4] 191) = w5 at hk hB ⊢
    have HWK := Lib.hid (HW.out w4 (HT.out.below HB4.out) w5 w4.heap.size A4 c4 hk hB hg)
    have X4 := Lib.hid x4
    clear hk hB hg HW HC4 x0 x4 hl4 HCT
    generalize hgg : w4.heap.size = g at HWK ⊢
    have HG := Lib.hid hgg
    clear hgg
    by_cases he : re = 0
    ·
     subst he
     rw [if_pos rfl] at HR
     by_cases hkd : (T.node rn).kind = 1
     ·
      rw [if_pos hkd] at HR
      rw [hkd] at HKD
      clear hkd
      generalize Sp.check z.data.toList = ck at HR HCK
      by_cases hc0 : ck = 0
      ·
       subst hc0
       rw [if_pos rfl] at HR
       have hR := Option.some.inj HR.out
       subst hR
       go_upto_region 17 with (first | (go_at_call 137; refine HWK.out.mono ?_; rintro e w6 ⟨rfl, hw6⟩; obtain ⟨hq, hb6⟩ := hw6; obtain ⟨h6, l6, A6, c6, hk6⟩ := hq rfl; have y6 := pw_cell_below hb6 X4.out; obtain ⟨c0, c1, c2, c3⟩ := hk6.cells; have HK6 := Lib.hid hk6; have HB6 := Lib.hid (HB4.out.trans (hb6.mono HB4.out.size)); clear hk6 hq) | (go_at_call 69; refine (HKD.out _ (HT.out.below HB6.out)).mono ?_; rintro e w7 ⟨rfl, hb7⟩; have y7 := pw_cell_below hb7 y6; have c17 := pw_cell_below hb7 c1; have HB7 := Lib.hid (HB6.out.trans (hb7.mono HB6.out.size))) | (go_at_call 98; refine (HCK.out _).mono ?_; rintro e w8 ⟨rfl, hb8⟩; have y8 := pw_cell_below hb8 y7; have c18 := pw_cell_below hb8 c17; have HB8 := Lib.hid (HB7.out.trans (hb8.mono HB7.out.size))))
       clear hb6 hb7 hb8 y6 y7 c0 c1 c2 c3 c17
       go_quiet (fail)
       go_wp2
       go_ret3
       exact ⟨rfl, pw_below_drewN HB8.out nq⟩
      ·
       rw [if_neg hc0] at HR
       have b6 : (ck != 0) = true := bne_iff_ne.2 hc0
       have hR := Option.some.inj HR.out
       subst hR
       clear hc0
       go_wp2_with (first | (go_at_call 137; refine HWK.out.mono ?_; rintro e w6 ⟨rfl, hw6⟩; obtain ⟨hq, hb6⟩ := hw6; obtain ⟨h6, l6, A6, c6, hk6⟩ := hq rfl; have y6 := pw_cell_below hb6 X4.out; obtain ⟨c0, c1, c2, c3⟩ := hk6.cells; have HK6 := Lib.hid hk6; have HB6 := Lib.hid (HB4.out.trans (hb6.mono HB4.out.size)); clear hk6 hq) | (go_at_call 69; refine (HKD.out _ (HT.out.below HB6.out)).mono ?_; rintro e w7 ⟨rfl, hb7⟩; have y7 := pw_cell_below hb7 y6; have c17 := pw_cell_below hb7 c1; have HB7 := Lib.hid (HB6.out.trans (hb7.mono HB6.out.size))) | (go_at_call 98; refine (HCK.out _).mono ?_; rintro e w8 ⟨rfl, hb8⟩; have y8 := pw_cell_below hb8 y7; have c18 := pw_cell_below hb8 c17; have HB8 := Lib.hid (HB7.out.trans (hb8.mono HB7.out.size))))
       go_ret3
       exact ⟨rfl, HB8.out⟩
     ·
      rw [if_neg hkd] at HR
      have b5 : ((T.node rn).kind != 1) = true := bne_iff_ne.2 hkd
      generalize (T.node rn).kind = kd at HKD b5
      have hR := Option.some.inj HR.out
      subst hR
      clear hkd
      go_wp2_with (first | (go_at_call 137; refine HWK.out.mono ?_; rintro e w6 ⟨rfl, hw6⟩; obtain ⟨hq, hb6⟩ := hw6; obtain ⟨h6, l6, A6, c6, hk6⟩ := hq rfl; have y6 := pw_cell_below hb6 X4.out; obtain ⟨c0, c1, c2, c3⟩ := hk6.cells; have HK6 := Lib.hid hk6; have HB6 := Lib.hid (HB4.out.trans (hb6.mono HB4.out.size)); clear hk6 hq) | (go_at_call 69; refine (HKD.out _ (HT.out.below HB6.out)).mono ?_; rintro e w7 ⟨rfl, hb7⟩; have y7 := pw_cell_below hb7 y6; have c17 := pw_cell_below hb7 c1; have HB7 := Lib.hid (HB6.out.trans (hb7.mono HB6.out.size))))
      go_ret3
      exact ⟨rfl, HB7.out⟩
    ·
     rw [if_neg he] at HR
     have b4 : (re != 0) = true := bne_iff_ne.2 he
     have hR := Option.some.inj HR.out
     subst hR
     clear he
     go_wp2_with (go_at_call 137; refine HWK.out.mono ?_; rintro e w6 ⟨rfl, hw6⟩)
     go_ret3
     exact ⟨rfl, HB4.out.trans (hw6.2.mono HB4.out.size)⟩
 ·
  rw [if_neg h0] at hR
  have hR := Option.some.inj hR
  subst hR
  have b3 : (beginE s != 0) = true := bne_iff_ne.2 h0
  generalize beginE s = e0 at HBG b3
  clear h0 hT
  go_enter Tryz.func93, Tryz.ntmps93
  go_wp2_with (first | (go_at_call 134; refine (HBG.out _).mono ?_; rintro e w2 ⟨rfl, rfl⟩))
  go_ret3
  exact ⟨rfl, Below.refl _ _⟩
end Go.Proofs.YtnpeeiikdcankaaGreat.Tw
