/- linhaylaw10.FsNone, walked: it returns true. -/
import Derived.Test.YtnpeeiikdcankaaQF0
import Derived.Test.YtnpeeiikdcankaaQF1
import Derived.Deep.QuietTactic
import Derived.BigQuiet
import Derived.Maps.AppendAt
import Derived.Laws.EntriesVeiled
set_option linter.unusedVariables false
set_option linter.unusedSimpArgs false

set_option maxHeartbeats 8000000
set_option maxRecDepth 1000000
namespace Go.Proofs.Ytnpeeiikdcankaa.Tw
open Go Go.RowKit Go.Shelf Go.Proofs Go.Proofs.Ytnpeeiikdcankaa Go.Proofs.YtnpeeiikdcankaaW.PrintWords Go.Proofs.Ytnpeeiikdcankaa.Ext Go.Proofs.Ytnpeeiikdcankaa.X Go.Proofs.Ytnpeeiikdcankaa.Pu
def roomRE (L : List RN) (n td : Int) (z : ByteArray) : Bool × Int :=
 if inR L td z = 0 then (false, 0) else if inR L td z = n then (true, 0) else
  if (atR L (inR L td z)).f3 = 1 ∧ (atR L n).f3 ≠ 1 then (false, 8) else
   if (atR L n).f3 = 1 ∧ (atR L (inR L td z)).f3 ≠ 1 then (false, 7) else (false, cutRE L td z)
theorem roomE_eq {L : List RN} {last : Int} (h : GoodL L last) (n td : Int) (z : ByteArray) : roomE (trOf L last) n td z = roomRE L n td z := by
 unfold roomE roomRE
 rw [node_of h td, cutE_eq h, node_of h n]
 simp only [find_ents h td z]
 rw [node_of h (inR L td z)]
 simp only [in_dec h]
def movRE (L : List RN) (fr : Int) (s : ByteArray) (td : Int) (z : ByteArray) (ins : Bool) : Int :=
 if dirE (atR L fr).f3 ≠ 0 then dirE (atR L fr).f3 else if dirE (atR L td).f3 ≠ 0 then dirE (atR L td).f3 else
  if inR L fr s = 0 then 5 else if Sp.check z.data.toList ≠ 0 then Sp.check z.data.toList else
   if (atR L (inR L fr s)).f3 = 1 ∧ ins = true then 14 else
    if (roomRE L (inR L fr s) td z).1 = true then 0 else (roomRE L (inR L fr s) td z).2
theorem movE_eq {L : List RN} {last : Int} (h : GoodL L last) (fr : Int) (s : ByteArray) (td : Int) (z : ByteArray) (ins : Bool) : movE (trOf L last) fr s td z ins = movRE L fr s td z ins := by
 unfold movE movRE
 rw [node_of h fr, node_of h td]
 simp only [find_ents h fr s]
 rw [node_of h (inR L fr s), roomE_eq h]
 simp only [in_dec h]
theorem movRE_zero {L : List RN} {fr : Int} {s : ByteArray} {td : Int} {z : ByteArray} {ins : Bool} (h : movRE L fr s td z ins = 0) :
  (atR L fr).f3 = 1 ∧ (atR L td).f3 = 1 ∧ inR L fr s ≠ 0 ∧ Sp.check z.data.toList = 0 ∧ ((atR L (inR L fr s)).f3 = 1 → ins = false) ∧ ((roomRE L (inR L fr s) td z).1 = true ∨ (roomRE L (inR L fr s) td z).2 = 0) := by
 unfold movRE at h
 split at h
 · rename_i g; exact absurd h g
 ·
  rename_i g1
  split at h
  · rename_i g; exact absurd h g
  ·
   rename_i g2
   split at h
   · cases h
   ·
    rename_i g3
    split at h
    · rename_i g; exact absurd h g
    ·
     rename_i g4
     split at h
     · cases h
     ·
      rename_i g5
      refine ⟨dirE_zero (Decidable.byContradiction fun e => g1 e), dirE_zero (Decidable.byContradiction fun e => g2 e), g3, Decidable.byContradiction fun e => g4 e, fun hk => ?_, ?_⟩
      ·
       cases ins with
       | true => exact absurd ⟨hk, rfl⟩ g5
       | false => rfl
      ·
       split at h
       · exact .inl (by assumption)
       · exact .inr h
theorem ins_ex {L : List RN} {last : Int} (h : GoodL L last) (hM : GoodM L) (n : Int) : ∀ m, (atR L m).f3 ≠ 0 → ∃ k r, insF (trOf L last) k m n = some r := by
 obtain ⟨d, -, hd⟩ := hM.rank
 have key : ∀ (q : Nat) (m : Int), d m < q → (atR L m).f3 ≠ 0 → ∃ k r, insF (trOf L last) k m n = some r := by
  intro q
  induction q with
  | zero => intro m hq; omega
  | succ q ih =>
   intro m hq hm
   by_cases e1 : m = n
   · exact ⟨1, true, by simp [insF, e1]⟩
   ·
    by_cases e2 : m = 1
    · exact ⟨1, false, by unfold insF; rw [if_neg e1, if_pos e2]⟩
    ·
     obtain ⟨r, hr, hrm, hra⟩ := at_kind hm
     have hlt := hd r hr (by rw [hrm]; exact e2)
     rw [hrm] at hlt
     obtain ⟨k, b, hk⟩ := ih r.f1 (by omega) (by rw [h.up r hr]; decide)
     refine ⟨k + 1, b, ?_⟩
     unfold insF
     rw [if_neg e1, if_neg e2, node_of h, hra]
     exact hk
 exact fun m hm => key (d m + 1) m (by omega) hm
theorem insF_mono {T : Tr} : ∀ (k : Nat) (m n : Int) (r : Bool), insF T k m n = some r → insF T (k + 1) m n = some r
 | 0, m, n, r, h => by simp [insF] at h
 | k + 1, m, n, r, h => by
  unfold insF at h ⊢
  by_cases e1 : m = n
  · rw [if_pos e1] at h ⊢; exact h
  ·
   by_cases e2 : m = 1
   · rw [if_neg e1, if_pos e2] at h ⊢; exact h
   ·
    rw [if_neg e1, if_neg e2] at h ⊢
    exact insF_mono k _ n r h
theorem insF_le {T : Tr} {k k' : Nat} {m n : Int} {r : Bool} (h : insF T k m n = some r) (hk : k ≤ k') : insF T k' m n = some r := by
 induction hk with
 | refl => exact h
 | step _ ih => exact insF_mono _ _ _ _ ih
theorem insF_det {T : Tr} {k k' : Nat} {m n : Int} {r r' : Bool} (h : insF T k m n = some r) (h' : insF T k' m n = some r') : r = r' := by
 have h1 := insF_le h (Nat.le_max_left k k')
 have h2 := insF_le h' (Nat.le_max_right k k')
 rw [h1] at h2
 exact Option.some.inj h2
theorem mov_rank {L : List RN} {last : Int} (h : GoodL L last) (hM : GoodM L) {n td : Int} {x : RN} {M : List RN} (hx : x.f0 = n) (hxd : x.f1 = td) (hn1 : n ≠ 1) (hM1 : ∀ r ∈ M, r ∈ L) (hsub : ∀ k, insF (trOf L last) k td n ≠ some true) :
  ∃ d : Int → Nat, ∀ r ∈ withL M x, r.f0 ≠ 1 → d r.f1 < d r.f0 := by
 obtain ⟨d, -, hd⟩ := hM.rank
 let sub : Int → Prop := fun m => ∃ k, insF (trOf L last) k m n = some true
 classical
 have hnn : sub n := ⟨1, by simp [insF]⟩
 have hstep : ∀ r ∈ L, r.f0 ≠ 1 → r.f0 ≠ n → (sub r.f0 ↔ sub r.f1) := by
  intro r hr h1 h2
  have hup : ((trOf L last).node r.f0).up = r.f1 := by rw [node_of h, at_mem h hr]
  constructor
  ·
   rintro ⟨k, hk⟩
   cases k with
   | zero => simp [insF] at hk
   | succ k =>
    unfold insF at hk
    rw [if_neg h2, if_neg h1, hup] at hk
    exact ⟨k, hk⟩
  ·
   rintro ⟨k, hk⟩
   refine ⟨k + 1, ?_⟩
   unfold insF
   rw [if_neg h2, if_neg h1, hup]
   exact hk
 refine ⟨fun m => if sub m then d m + d td + 1 else d m, fun r hr h1 => ?_⟩
 rcases withL_mem hr with rfl | ⟨hr, hne⟩
 ·
  have ht : ¬ sub td := fun ⟨k, hk⟩ => hsub k hk
  simp only [hx, hxd]
  rw [if_pos hnn, if_neg ht]
  omega
 ·
  rw [hx] at hne
  have hlt := hd r (hM1 r hr) h1
  have hs := hstep r (hM1 r hr) h1 hne
  by_cases e : sub r.f0
  ·
   simp only [if_pos e, if_pos (hs.1 e)]
   omega
  ·
   simp only [if_neg e, if_neg (fun q => e (hs.2 q))]
   exact hlt
theorem up_ne {L : List RN} {last : Int} (hM : GoodM L) {r : RN} (hr : r ∈ L) (h1 : r.f0 ≠ 1) : r.f1 ≠ r.f0 := by
 obtain ⟨d, -, hd⟩ := hM.rank
 intro e
 have := hd r hr h1
 rw [e] at this
 omega
def movX (L : List RN) (n td : Int) (z : ByteArray) : RN := { atR L n with f1 := td, f2 := z }
theorem mov_core {L : List RN} {last : Int} (h : GoodL L last) (hM : GoodM L) {r : RN} (hr : r ∈ L) (h1 : r.f0 ≠ 1) {td : Int} (htd : (atR L td).f3 = 1) (hnt : td ≠ r.f0) {z : ByteArray} (hz : Sp.check z.data.toList = 0) (hfree : inR L td z = 0)
  (hrk : ∃ d : Int → Nat, ∀ q ∈ withL L (movX L r.f0 td z), q.f0 ≠ 1 → d q.f1 < d q.f0) (T2 T3 : Tr) (e2 : T2 = mvB (trOf L last) r.f0 td) (e3 : T3 = mvC T2 r.f1 r.f2) :
  GoodL (withL L (movX L r.f0 td z)) last ∧ GoodM (withL L (movX L r.f0 td z)) ∧ mvD T3 td r.f0 z = trOf (withL L (movX L r.f0 td z)) last ∧
   (T2.cnt = L.length ∧ T3.cnt = L.length) ∧ (T2.node r.f1).ents = entsOf L r.f1 ∧ (T3.node td).ents = (if td = r.f1 then cutEn (entsOf L r.f1) r.f2 else entsOf L td) ∧ (findE (T3.node td).ents z).2 = false := by
 have hra := at_mem h hr
 have hx : movX L r.f0 td z = ⟨r.f0, td, z, r.f3, r.f4⟩ := by unfold movX; rw [hra]
 rw [hx] at hrk ⊢
 have hmem : ∃ q ∈ L, q.f0 = (⟨r.f0, td, z, r.f3, r.f4⟩ : RN).f0 := ⟨r, hr, rfl⟩
 have hno := inR_none h (d := td) (s := z) (by rw [hfree]; decide)
 have hG : GoodL (withL L ⟨r.f0, td, z, r.f3, r.f4⟩) last := h.with h1 hmem (by show (atR L r.f0).f3 = r.f3; rw [hra]) (h.data r hr) htd (fun q hq hn q1 q2 => hno q hq q1 q2)
 have hGM : GoodM (withL L ⟨r.f0, td, z, r.f3, r.f4⟩) := hM.with hG hz (hM.link r hr) (hM.kind r hr) (hM.dirs r hr) hrk
 have hfn := up_ne (last := last) hM hr h1
 have hk1 : (atR L r.f1).f3 = 1 := h.up r hr
 have hlf := tr_get_live (last := last) h (m := r.f1) (by rw [hk1]; decide)
 have hlt := tr_get_live (last := last) h (m := td) (by rw [htd]; decide)
 have hln : (trOf L last).get r.f0 = some (ndOf L r) := by rw [tr_get, find_of h hr]; rfl
 have n2f : T2.node r.f1 = (trOf L last).node r.f1 := by rw [e2]; exact node_set_ne hfn
 have n2t : T2.node td = (trOf L last).node td := by rw [e2]; exact node_set_ne hnt
 have g2 : ∀ m, T2.get m = if m = r.f0 then some { (trOf L last).node r.f0 with up := td } else (trOf L last).get m := by intro m; rw [e2]; rfl
 have g3 : ∀ m, T3.get m = if m = r.f1 then some { T2.node r.f1 with ents := cutEn (T2.node r.f1).ents r.f2 } else T2.get m := by intro m; rw [e3]; rfl
 have c2 : T2.cnt = L.length := by
  rw [e2]
  show (if ((trOf L last).get r.f0).isSome then L.length else L.length + 1) = _
  rw [hln]; rfl
 have c3 : T3.cnt = L.length := by
  rw [e3]
  show (if (T2.get r.f1).isSome then T2.cnt else T2.cnt + 1) = _
  rw [g2, if_neg hfn, hlf, Option.isSome_some, if_pos rfl, c2]
 have E2 : (T2.node r.f1).ents = entsOf L r.f1 := by rw [n2f, node_of h]
 have N3 : T3.node td = if td = r.f1 then { T2.node r.f1 with ents := cutEn (T2.node r.f1).ents r.f2 } else (trOf L last).node td := by
  unfold Tr.node
  rw [g3]
  by_cases e : td = r.f1
  · rw [if_pos e, if_pos e]; rfl
  · rw [if_neg e, if_neg e, g2, if_neg hnt]
 have E3 : (T3.node td).ents = (if td = r.f1 then cutEn (entsOf L r.f1) r.f2 else entsOf L td) := by
  rw [N3]
  by_cases e : td = r.f1
  · rw [if_pos e, if_pos e, E2]
  · rw [if_neg e, if_neg e, node_of h]
 have hfz : ∀ e ∈ entsOf L td, e.f0 ≠ z := by
  intro e he
  obtain ⟨q, hq, hi, rfl⟩ := mem_ents.1 he
  obtain ⟨i1, i2⟩ := isIn_iff.1 hi
  exact hno q hq i1 i2
 have F3 : (findE (T3.node td).ents z).2 = false := by
  rw [E3]
  refine findE_nil' (fun e he => ?_)
  by_cases c : td = r.f1
  ·
   rw [if_pos c] at he
   rw [c] at hfz
   exact hfz e (cutEn_mem.1 he).1
  ·
   rw [if_neg c] at he
   exact hfz e he
 refine ⟨hG, hGM, ?_, ⟨c2, c3⟩, E2, E3, F3⟩

 have huq : ∀ q ∈ L, q.f0 = r.f0 → q = r := fun q hq e => by
  have q1 := find_of h hq
  have q2 := find_of h hr
  rw [e] at q1
  rw [q1] at q2
  exact Option.some.inj q2
 have hname : ∀ q ∈ L, q.f0 ≠ 1 → q.f1 = r.f1 → q.f2 = r.f2 → q = r := by
  intro q hq q1 q2 q3
  have := List.pairwise_iff_getElem.1 h.names
  obtain ⟨i, hi, rfl⟩ := List.mem_iff_getElem.1 hq
  obtain ⟨j, hj, rfl⟩ := List.mem_iff_getElem.1 hr
  rcases Nat.lt_trichotomy i j with c | c | c
  · exact absurd q3 (this i j hi hj c q2 q1 h1)
  · subst c; rfl
  · exact absurd q3.symm (this j i hj hi c q2.symm h1 q1)
 have hents : ∀ m, entsOf (withL L ⟨r.f0, td, z, r.f3, r.f4⟩) m = if m = td then insE (T3.node td).ents ⟨z, r.f0⟩ else if m = r.f1 then cutEn (entsOf L r.f1) r.f2 else entsOf L m := by
  intro m
  have hcm : ∀ (m : Int) (e : En), (∃ q ∈ L, q.f0 ≠ r.f0 ∧ isIn m q = true ∧ e = ⟨q.f2, q.f0⟩) ↔ (if m = r.f1 then e ∈ cutEn (entsOf L r.f1) r.f2 else e ∈ entsOf L m) := by
   intro m e
   by_cases c : m = r.f1
   ·
    rw [if_pos c, cutEn_mem, mem_ents]
    subst c
    constructor
    ·
     rintro ⟨q, hq, hn, hi, rfl⟩
     refine ⟨⟨q, hq, hi, rfl⟩, fun e => hn ?_⟩
     obtain ⟨i1, i2⟩ := isIn_iff.1 hi
     rw [hname q hq i2 i1 e]
    ·
     rintro ⟨⟨q, hq, hi, rfl⟩, hn⟩
     exact ⟨q, hq, fun e => hn (by rw [huq q hq e]), hi, rfl⟩
   ·
    rw [if_neg c, mem_ents]
    constructor
    ·
     rintro ⟨q, hq, hn, hi, rfl⟩
     exact ⟨q, hq, hi, rfl⟩
    ·
     rintro ⟨q, hq, hi, rfl⟩
     refine ⟨q, hq, fun e => c ?_, hi, rfl⟩
     rw [huq q hq e] at hi
     exact (isIn_iff.1 hi).1.symm
  by_cases c : m = td
  ·
   subst c
   rw [if_pos rfl]
   refine rt_ext (hG.rt m) (insE_rt _ _ ?_ ?_) (fun e => ?_)
   ·
    rw [E3]
    by_cases c2 : m = r.f1
    · rw [if_pos c2]; exact cutEn_rt (h.rt _) _
    · rw [if_neg c2]; exact h.rt _
   ·
    intro e he e2
    have := F3
    rw [findE_some he e2] at this
    cases this
   ·
    rw [ents_with hmem, hcm m e, insE_mem, E3]
    constructor
    ·
     rintro (⟨_, rfl⟩ | hh)
     · exact .inl rfl
     ·
      right
      by_cases c2 : m = r.f1
      · rw [if_pos c2] at hh ⊢; exact hh
      · rw [if_neg c2] at hh ⊢; exact hh
    ·
     rintro (rfl | hh)
     · exact .inl ⟨isIn_iff.2 ⟨rfl, h1⟩, rfl⟩
     ·
      right
      by_cases c2 : m = r.f1
      · rw [if_pos c2] at hh ⊢; exact hh
      · rw [if_neg c2] at hh ⊢; exact hh
  ·
   rw [if_neg c]
   have hi0 : ¬ isIn m (⟨r.f0, td, z, r.f3, r.f4⟩ : RN) = true := fun hi => c (isIn_iff.1 hi).1.symm
   by_cases c2 : m = r.f1
   ·
    rw [if_pos c2]
    refine rt_ext (hG.rt m) (cutEn_rt (h.rt _) _) (fun e => ?_)
    rw [ents_with hmem, hcm m e, if_pos c2]
    exact ⟨fun hh => hh.elim (fun q => absurd q.1 hi0) id, .inr⟩
   ·
    rw [if_neg c2]
    refine rt_ext (hG.rt m) (h.rt _) (fun e => ?_)
    rw [ents_with hmem, hcm m e, if_neg c2]
    exact ⟨fun hh => hh.elim (fun q => absurd q.1 hi0) id, .inr⟩
 refine Tr.ext (fun m => ?_) ?_ (by rw [e3, e2]; rfl)
 ·
  show (if m = td then some { T3.node td with ents := insE (T3.node td).ents ⟨z, r.f0⟩ } else T3.get m) = _
  rw [tr_get (L := withL L _), withL_find]
  by_cases c : m = td
  ·
   rw [if_pos c]
   obtain ⟨q, hq, hqm, hqa⟩ := at_kind (L := L) (n := td) (by rw [htd]; decide)
   have hfq := find_of h hq
   rw [hqm] at hfq
   have hqr : ¬ q.f0 = r.f0 := by rw [hqm]; exact hnt
   rw [c, hfq, Option.map_some, Option.map_some, if_neg hqr]
   have hT : T3.node td = ⟨q.f3, q.f1, q.f4, (T3.node td).ents⟩ := by
    rw [N3]
    by_cases c3 : td = r.f1
    · rw [if_pos c3, n2f, node_of h, ← c3, hqa]
    · rw [if_neg c3, node_of h, hqa]
   have k1 : (T3.node td).kind = q.f3 := by rw [hT]
   have k2 : (T3.node td).up = q.f1 := by rw [hT]
   have k3 : (T3.node td).data = q.f4 := by rw [hT]
   show some (⟨(T3.node td).kind, (T3.node td).up, (T3.node td).data, insE (T3.node td).ents ⟨z, r.f0⟩⟩ : Nd) = some ⟨q.f3, q.f1, q.f4, entsOf (withL L ⟨r.f0, td, z, r.f3, r.f4⟩) q.f0⟩
   rw [k1, k2, k3, hqm, hents, if_pos rfl]
  ·
   rw [if_neg c, g3]
   by_cases c2 : m = r.f1
   ·
    rw [if_pos c2, n2f, node_of h]
    obtain ⟨q, hq, hqm, hqa⟩ := at_kind (L := L) (n := r.f1) (by rw [hk1]; decide)
    have hfq := find_of h hq
    rw [hqm] at hfq
    have hqr : ¬ q.f0 = r.f0 := by rw [hqm]; exact hfn
    have hct : ¬ r.f1 = td := by rw [← c2]; exact c
    rw [c2, hfq, Option.map_some, Option.map_some, if_neg hqr]
    show some (⟨(atR L r.f1).f3, (atR L r.f1).f1, (atR L r.f1).f4, cutEn (entsOf L r.f1) r.f2⟩ : Nd) = some ⟨q.f3, q.f1, q.f4, entsOf (withL L ⟨r.f0, td, z, r.f3, r.f4⟩) q.f0⟩
    rw [hqm, hents, if_neg hct, if_pos rfl, hqa]
   ·
    rw [if_neg c2, g2]
    by_cases c3 : m = r.f0
    ·
     have hct : ¬ r.f0 = td := by rw [← c3]; exact c
     have hcf : ¬ r.f0 = r.f1 := by rw [← c3]; exact c2
     rw [if_pos c3, c3, find_of h hr, node_of h, hra, Option.map_some, Option.map_some, if_pos rfl]
     show some (⟨r.f3, td, r.f4, entsOf L r.f0⟩ : Nd) = some ⟨r.f3, td, r.f4, entsOf (withL L ⟨r.f0, td, z, r.f3, r.f4⟩) r.f0⟩
     rw [hents, if_neg hct, if_neg hcf]
    ·
     rw [if_neg c3, tr_get]
     cases hf : L.find? (fun r => r.f0 == m) with
     | none => rfl
     | some q =>
      have hqm : q.f0 = m := by simpa using List.find?_some hf
      have hqr : ¬ q.f0 = r.f0 := by rw [hqm]; exact c3
      rw [Option.map_some, Option.map_some, Option.map_some, if_neg hqr]
      show some (⟨q.f3, q.f1, q.f4, entsOf L q.f0⟩ : Nd) = some ⟨q.f3, q.f1, q.f4, entsOf (withL L ⟨r.f0, td, z, r.f3, r.f4⟩) q.f0⟩
      rw [hqm, hents, if_neg c, if_neg c2]
 ·
  show (if (T3.get td).isSome then T3.cnt else T3.cnt + 1) = (withL L _).length
  have : (T3.get td).isSome = true := by
   rw [g3]
   by_cases c : td = r.f1
   · rw [if_pos c]; rfl
   · rw [if_neg c, g2, if_neg hnt, hlt]; rfl
  rw [this, if_pos rfl, c3, withL_len]
theorem get_of {L : List RN} {last : Int} {n : Int} {x : Nd} (h : (trOf L last).get n = some x) : ∃ r ∈ L, x = ndOf L r := by
 unfold trOf at h
 obtain ⟨r, hr, rfl⟩ := Option.map_eq_some_iff.1 h
 exact ⟨r, List.mem_of_find?_eq_some hr, rfl⟩
theorem trOK {L : List RN} {last : Int} (h : GoodL L last) (hl : last ≤ 1000000) : TrOK (trOf L last) := by
 refine ⟨fun n x hx => ?_, fun n x hx => ?_, fun n x hx => ?_, fun n x hx e he => ?_, fun n x hx => ?_⟩
 ·
  obtain ⟨r, hr, rfl⟩ := get_of hx
  exact h.rt _
 ·
  obtain ⟨r, hr, rfl⟩ := get_of hx
  have h1 := ents_len L r.f0
  have h2 := h.len
  show (entsOf L r.f0).length < _
  omega
 ·
  obtain ⟨r, hr, rfl⟩ := get_of hx
  obtain ⟨q, hq, hqn, _⟩ := at_kind (L := L) (n := r.f1) (by rw [h.up r hr]; decide)
  have := h.num q hq
  exact wf_of (n := r.f1) (by omega)
 ·
  obtain ⟨r, hr, rfl⟩ := get_of hx
  obtain ⟨q, hq, _, rfl⟩ := mem_ents.1 (show e ∈ entsOf L r.f0 from he)
  have := h.num q hq
  exact wf_of (n := q.f0) (by omega)
 ·
  obtain ⟨r, hr, rfl⟩ := get_of hx
  exact h.data r hr
theorem node_len {L : List RN} {last : Int} (h : GoodL L last) (d : Int) : ((trOf L last).node d).ents.length < 4294967296 := by
 rw [node_of h]
 have := ents_len L d
 have := h.len
 show (entsOf L d).length < _
 omega
theorem node_rtL {L : List RN} {last : Int} (h : GoodL L last) (d : Int) : Rt ((trOf L last).node d).ents := by rw [node_of h]; exact h.rt d
theorem cnt_lt {L : List RN} {last : Int} (h : GoodL L last) : (trOf L last).cnt < 1000000 := by
 have := h.len
 show L.length < _
 omega
def cutS (L : List RN) (d : Int) (s : ByteArray) : List RN := if cutRE L d s = 0 then cutL L (inR L d s) else L
theorem tcut_calls (p B : Nat) (L : List RN) (last d : Int) (s : ByteArray) (w : World) (h : TreeB w p B (trOf L last)) (hG : GoodL L last) (hn : wf d) (hla : last ≤ 1000000) :
  Calls Try.prog 43 #[pT p, .int .i64 d, .string s] w fun e w' => e = .returned (.int .i64 (cutRE L d s)) ∧ TreeB w' p B (trOf (cutS L d s) last) ∧ Frm w w' p B := by
 have hO := trOK hG hla
 unfold cutS
 by_cases he : cutRE L d s = 0
 ·
  refine (cut_ok p B (trOf L last) d s w h hn (node_len hG d) (node_rtL hG d) (hO.wf_find d s) (cnt_lt hG) (by rw [cutE_eq hG]; exact he)).mono ?_
  rintro e w' ⟨rfl, hT, hF⟩
  rw [cutT_eq hG he] at hT
  rw [if_pos he, he]
  exact ⟨rfl, hT, hF⟩
 ·
  refine (cut_err p B (trOf L last) d s w h hn (node_len hG d) (node_rtL hG d) (hO.wf_find d s) (by rw [cutE_eq hG]; exact he)).mono ?_
  rintro e w' ⟨rfl, hb⟩
  rw [if_neg he, cutE_eq hG]
  exact ⟨rfl, h.below hb, Frm.ofBelow hb⟩
theorem good_cut {L : List RN} {last : Int} (hG : GoodL L last) (hM : GoodM L) (d : Int) (s : ByteArray) : GoodL (cutS L d s) last ∧ GoodM (cutS L d s) := by
 unfold cutS
 by_cases he : cutRE L d s = 0
 · rw [if_pos he]; exact cut_good hG hM he
 · rw [if_neg he]; exact ⟨hG, hM⟩
noncomputable def setS (L : List RN) (n : Int) (data : ByteArray) : List RN := if setRE L n data = 0 then withL L (setX L n data) else L
theorem tset_calls (p B : Nat) (L : List RN) (last n : Int) (data : ByteArray) (w : World) (h : TreeB w p B (trOf L last)) (hG : GoodL L last) (hM : GoodM L) (hn : wf n) :
  Calls Try.prog 38 #[pT p, .int .i64 n, .string data] w fun e w' => e = .returned (.int .i64 (setRE L n data)) ∧ TreeB w' p B (trOf (setS L n data) last) ∧ Frm w w' p B := by
 unfold setS
 by_cases he : setRE L n data = 0
 ·
  refine (set_ok p B (trOf L last) n data w h hn (cnt_lt hG) (by rw [setE_eq hG]; exact he)).mono ?_
  rintro e w' ⟨rfl, hT, hF⟩
  rw [setT_eq hG hM he] at hT
  rw [if_pos he, he]
  exact ⟨rfl, hT, hF⟩
 ·
  refine (set_err p B (trOf L last) n data w h hn (by rw [setE_eq hG]; exact he)).mono ?_
  rintro e w' ⟨rfl, hb⟩
  rw [if_neg he, setE_eq hG]
  exact ⟨rfl, h.below hb, Frm.ofBelow hb⟩
theorem good_set {L : List RN} {last : Int} (hG : GoodL L last) (hM : GoodM L) (n : Int) (data : ByteArray) : GoodL (setS L n data) last ∧ GoodM (setS L n data) := by
 unfold setS
 by_cases he : setRE L n data = 0
 · rw [if_pos he]; exact set_good hG hM he
 · rw [if_neg he]; exact ⟨hG, hM⟩
open Classical in
noncomputable def insV (L : List RN) (last td n : Int) : Bool := decide (∃ k, insF (trOf L last) k td n = some true)
theorem insV_true {L : List RN} {last td n : Int} (h : ∃ k, insF (trOf L last) k td n = some true) : insV L last td n = true := by classical exact decide_eq_true h
theorem insV_false {L : List RN} {last td n : Int} (h : ¬ ∃ k, insF (trOf L last) k td n = some true) : insV L last td n = false := by classical exact decide_eq_false h
noncomputable def movP (L : List RN) (last fr : Int) (s : ByteArray) (td : Int) (z : ByteArray) : Int := movRE L fr s td z (insV L last td (inR L fr s))
def roomL (L : List RN) (td : Int) (z : ByteArray) : List RN := if inR L td z = 0 then L else cutL L (inR L td z)
noncomputable def movM (L : List RN) (last fr : Int) (s : ByteArray) (td : Int) (z : ByteArray) : List RN :=
 if movP L last fr s td z = 0 ∧ (roomRE L (inR L fr s) td z).1 = false then withL (roomL L td z) (movX L (inR L fr s) td z) else L
theorem ins_dir {L : List RN} {last : Int} (h : GoodL L last) {n : Int} : ∀ (k : Nat) (m : Int), insF (trOf L last) k m n = some true → m ≠ n → (atR L m).f3 ≠ 0 → (atR L n).f3 = 1
 | 0, m, hk, _, _ => by simp [insF] at hk
 | k + 1, m, hk, hmn, hm => by
  unfold insF at hk
  rw [if_neg hmn] at hk
  by_cases e2 : m = 1
  · rw [if_pos e2] at hk; cases hk
  ·
   rw [if_neg e2] at hk
   obtain ⟨r, hr, hrm, hra⟩ := at_kind hm
   rw [node_of h, hra] at hk
   have hu := h.up r hr
   by_cases e : r.f1 = n
   · rw [← e]; exact hu
   · exact ins_dir h k r.f1 hk e (by rw [hu]; decide)
structure MovOK (L : List RN) (last fr : Int) (s : ByteArray) (td : Int) (z : ByteArray) (n : Int) : Prop where
 kf : (atR L fr).f3 = 1
 kt : (atR L td).f3 = 1
 ck : Sp.check z.data.toList = 0
 ins : (atR L n).f3 = 1 → ∃ k, insF (trOf L last) k td n = some false
 room : roomRE L n td z = (false, 0)
 good : GoodL (withL (roomL L td z) (movX L n td z)) last ∧ GoodM (withL (roomL L td z) (movX L n td z))
 one : mvA (trOf L last) td z = trOf (roomL L td z) last
 l1 : GoodL (roomL L td z) last
 core : ∀ T2 T3, T2 = mvB (trOf (roomL L td z) last) n td → T3 = mvC T2 fr s →
  mvD T3 td n z = trOf (withL (roomL L td z) (movX L n td z)) last ∧ (T2.cnt = (roomL L td z).length ∧ T3.cnt = (roomL L td z).length) ∧ (T2.node fr).ents = entsOf (roomL L td z) fr ∧ (T3.node td).ents = (if td = fr then cutEn (entsOf (roomL L td z) fr) s else entsOf (roomL L td z) td) ∧ (findE (T3.node td).ents z).2 = false
 mem : ∃ r ∈ roomL L td z, r.f0 = n ∧ r.f1 = fr ∧ r.f2 = s ∧ r.f0 ≠ 1
theorem mov_all {L : List RN} {last : Int} (h : GoodL L last) (hM : GoodM L) {fr : Int} {s : ByteArray} {td : Int} {z : ByteArray} (he : movP L last fr s td z = 0) (hs : (roomRE L (inR L fr s) td z).1 = false) : MovOK L last fr s td z (inR L fr s) := by
 obtain ⟨z1, z2, z3, z4, z5, z6⟩ := movRE_zero he
 have hroom : roomRE L (inR L fr s) td z = (false, 0) := by
  rcases z6 with e | e
  · rw [hs] at e; cases e
  · exact Prod.ext hs e
 obtain ⟨r, hr, hrn, hrd, hrs, hr1, hra⟩ := inR_mem h z3
 generalize inR L fr s = n at *
 have hnt : td ≠ n := by
  intro e
  by_cases k1 : (atR L n).f3 = 1
  ·
   have := z5 k1
   unfold insV at this
   rw [decide_eq_false_iff_not] at this
   exact this ⟨1, by simp [insF, e]⟩
  · rw [e] at z2; exact k1 z2
 have hsub : ∀ k, insF (trOf L last) k td n ≠ some true := by
  intro k hk
  by_cases k1 : (atR L n).f3 = 1
  ·
   have := z5 k1
   unfold insV at this
   rw [decide_eq_false_iff_not] at this
   exact this ⟨k, hk⟩
  · exact k1 (ins_dir h k td hk hnt (by rw [z2]; decide))
 have hins : (atR L n).f3 = 1 → ∃ k, insF (trOf L last) k td n = some false := by
  intro _
  obtain ⟨k, b, hk⟩ := ins_ex h hM n td (by rw [z2]; decide)
  cases b with
  | true => exact absurd hk (hsub k)
  | false => exact ⟨k, hk⟩
 have KEY : GoodL (roomL L td z) last ∧ GoodM (roomL L td z) ∧ r ∈ roomL L td z ∧ (atR (roomL L td z) td).f3 = 1 ∧ inR (roomL L td z) td z = 0 ∧ mvA (trOf L last) td z = trOf (roomL L td z) last ∧ ∀ q ∈ roomL L td z, q ∈ L := by
  unfold roomL mvA roomT
  rw [node_of h td]
  simp only [find_ents h td z, in_dec h]
  by_cases e : inR L td z = 0
  ·
   rw [if_pos e, if_pos e]
   exact ⟨h, hM, hr, z2, e, rfl, fun q hq => hq⟩
  ·
   rw [if_neg e, if_neg e]
   have hc : cutRE L td z = 0 ∧ inR L td z ≠ n := by
    unfold roomRE at hroom
    rw [if_neg e] at hroom
    split at hroom
    · cases hroom
    ·
     rename_i hne
     split at hroom
     · cases hroom
     ·
      split at hroom
      · cases hroom
      · exact ⟨(Prod.mk.inj hroom).2, hne⟩
   obtain ⟨c1, c2, c3⟩ := cutRE_zero hc.1
   obtain ⟨g1, g2⟩ := cut_good h hM hc.1
   obtain ⟨ro, hro, hon, hod, hos, ho1, _⟩ := inR_mem h e
   have hto : td ≠ inR L td z := by
    intro e2
    have := live_ents h hro ho1
    rw [hod, e2] at this
    exact this c3
   refine ⟨g1, g2, cutL_mem.2 ⟨hr, by rw [hrn]; exact fun e2 => hc.2 e2.symm⟩, by rw [cutL_at hto]; exact c1, ?_, cutT_eq h hc.1, fun q hq => (cutL_mem.1 hq).1⟩
   refine Decidable.byContradiction fun hne => ?_
   obtain ⟨q, hq, hqn, hqd, hqs, hq1, _⟩ := inR_mem g1 hne
   obtain ⟨hq2, hqo⟩ := cutL_mem.1 hq
   have hpw := List.pairwise_iff_getElem.1 h.names
   rw [← hon] at hqo
   obtain ⟨i, hi, rfl⟩ := List.mem_iff_getElem.1 hq2
   obtain ⟨j, hj, rfl⟩ := List.mem_iff_getElem.1 hro
   rcases Nat.lt_trichotomy i j with c | c | c
   · exact hpw i j hi hj c (hqd.trans hod.symm) hq1 ho1 (hqs.trans hos.symm)
   · subst c; exact hqo rfl
   · exact hpw j i hj hi c (hod.trans hqd.symm) ho1 hq1 (hos.trans hqs.symm)
 obtain ⟨g1, g2, g3, g4, g5, g6, g7⟩ := KEY
 have hxe : movX (roomL L td z) n td z = movX L n td z := by
  unfold movX
  rw [hra]
  have := at_mem g1 g3
  rw [hrn] at this
  rw [this]
 have hrk : ∃ d : Int → Nat, ∀ q ∈ withL (roomL L td z) (movX (roomL L td z) r.f0 td z), q.f0 ≠ 1 → d q.f1 < d q.f0 := by
  rw [hrn, hxe]
  exact mov_rank h hM (n := n) (td := td) (by show (atR L n).f0 = n; rw [hra]; exact hrn) rfl (by rw [← hrn]; exact hr1) g7 hsub
 have CORE := fun T2 T3 e2 e3 => mov_core g1 g2 g3 hr1 g4 (by rw [hrn]; exact hnt) z4 g5 hrk T2 T3 e2 e3
 rw [hrn, hrd, hrs, hxe] at CORE
 refine ⟨z1, z2, z4, hins, hroom, ?_, g6, g1, fun T2 T3 e2 e3 => (CORE T2 T3 e2 e3).2.2, ⟨r, g3, hrn, hrd, hrs, hr1⟩⟩
 have := CORE _ _ rfl rfl
 exact ⟨this.1, this.2.1⟩
theorem good_mov {L : List RN} {last : Int} (hG : GoodL L last) (hM : GoodM L) (fr : Int) (s : ByteArray) (td : Int) (z : ByteArray) : GoodL (movM L last fr s td z) last ∧ GoodM (movM L last fr s td z) := by
 unfold movM
 by_cases he : movP L last fr s td z = 0 ∧ (roomRE L (inR L fr s) td z).1 = false
 · rw [if_pos he]; exact (mov_all hG hM he.1 he.2).good
 · rw [if_neg he]; exact ⟨hG, hM⟩
theorem tmove_calls (p B : Nat) (L : List RN) (last fr : Int) (s : ByteArray) (td : Int) (z : ByteArray) (w : World) (h : TreeB w p B (trOf L last)) (hG : GoodL L last) (hM : GoodM L) (hf : wf fr) (ht : wf td) (hz : z.size < 4294967281) (hla : last ≤ 1000000) :
  Calls Try.prog 36 #[pT p, .int .i64 fr, .string s, .int .i64 td, .string z] w fun e w' => e = .returned (.int .i64 (movP L last fr s td z)) ∧ TreeB w' p B (trOf (movM L last fr s td z) last) ∧ Frm w w' p B := by
 have hO := trOK hG hla
 unfold movM
 by_cases he : movP L last fr s td z = 0 ∧ (roomRE L (inR L fr s) td z).1 = false
 ·
  rw [if_pos he, he.1]
  have M := mov_all hG hM he.1 he.2
  obtain ⟨k, hk⟩ : ∃ k, (atR L (inR L fr s)).f3 = 1 → insF (trOf L last) k td (inR L fr s) = some false := by
   by_cases k1 : (atR L (inR L fr s)).f3 = 1
   ·
    obtain ⟨k, hk⟩ := M.ins k1
    exact ⟨k, fun _ => hk⟩
   · exact ⟨0, fun h => absurd h k1⟩
  obtain ⟨c1, ⟨c2, c3⟩, c4, c5, c6⟩ := M.core _ _ rfl rfl
  obtain ⟨r, hr, hrn, hrd, hrs, hr1⟩ := M.mem
  have hfe : findE ((trOf L last).node fr).ents s = (inR L fr s, true) := by
   rw [node_of hG]
   show findE (entsOf L fr) s = _
   rw [find_ents hG]
   have := (movRE_zero he.1).2.2.1
   have := (inR_le hG fr s).1
   rw [decide_eq_true (by omega)]
  have hl1 := M.l1.len
  have hel := fun m => ents_len (roomL L td z) m
  refine (move_ok p B (trOf L last) (trOf (roomL L td z) last) _ _ fr s td z (inR L fr s) false k w h hO hf ht hz hfe (by rw [node_of hG]; exact M.kf) (by rw [node_of hG]; exact M.kt) M.ck (by rw [node_of hG]; exact hk) (by rw [roomE_eq hG]; exact M.room) (cnt_lt hG) M.one.symm rfl rfl
   (cnt_lt M.l1) (by rw [c2]; omega) (by rw [c3]; omega) (by rw [c4]; have := hel fr; omega) (by rw [c4]; exact M.l1.rt _) ?_ ?_ ?_ c6).mono ?_
  ·
   rw [c4]
   exact findE_some (mem_ents.2 ⟨r, hr, isIn_iff.2 ⟨hrd, hr1⟩, rfl⟩) hrs
  ·
   rw [c5]
   split
   ·
    have := cutEn_len (entsOf (roomL L td z) fr) s
    have := hel fr
    omega
   ·
    have := hel td
    omega
  ·
   rw [c5]
   split
   · exact cutEn_rt (M.l1.rt _) _
   · exact M.l1.rt _
  ·
   rintro e w' ⟨rfl, hT, hF⟩
   rw [c1] at hT
   exact ⟨rfl, hT, hF⟩
 ·
  rw [if_neg he]
  obtain ⟨k, ins, hk, hp⟩ : ∃ k ins, (dirE (atR L td).f3 = 0 → (atR L (inR L fr s)).f3 = 1 → insF (trOf L last) k td (inR L fr s) = some ins) ∧ movRE L fr s td z ins = movP L last fr s td z := by
   by_cases k2 : (atR L td).f3 = 1
   ·
    obtain ⟨k, b, hk⟩ := ins_ex hG hM (inR L fr s) td (by rw [k2]; decide)
    refine ⟨k, b, fun _ _ => hk, ?_⟩
    unfold movP
    congr 1
    cases b with
    | true => exact (insV_true ⟨k, hk⟩).symm
    | false =>
     refine (insV_false ?_).symm
     rintro ⟨k', hk'⟩
     have := insF_det hk hk'
     cases this
   · exact ⟨0, insV L last td (inR L fr s), fun h0 => absurd (dirE_zero h0) k2, rfl⟩
  refine (move_stay p B (trOf L last) fr s td z ins k w h hO hf ht hz (by rw [node_of hG fr, node_of hG td]; simp only [find_ents hG fr s]; rw [node_of hG]; exact hk) ?_).mono ?_
  ·
   unfold movS
   rw [movE_eq hG, hp, node_of hG fr]
   simp only [find_ents hG fr s]
   rw [roomE_eq hG]
   by_cases e1 : movP L last fr s td z = 0
   ·
    right
    cases hb : (roomRE L (inR L fr s) td z).1 with
    | true => rfl
    | false => exact absurd ⟨e1, hb⟩ he
   · exact .inl e1
  ·
   rintro e w' ⟨rfl, hb⟩
   rw [movE_eq hG, hp]
   exact ⟨rfl, h.below hb, Frm.ofBelow hb⟩
theorem beginE_ok {s : ByteArray} (h : beginE s = 0) : s.size ≤ 1024 ∧ s.toList ≠ [] := by
 unfold beginE at h
 split at h
 · cases h
 ·
  split at h
  · cases h
  · exact ⟨by omega, by assumption⟩
def findF (T : Tr) (last : Bool) (k : Nat) (s : ByteArray) : Option (Int × Int) :=
 if beginE s = 0 then (walkF T last k 1 0 (partsB s)).bind fun r => if r.2 = 0 then some (r.1, 0) else some (0, r.2) else some (0, beginE s)
theorem Wk.made {w : World} {p : Nat} {l : List ByteArray} {A : Option Addr} {c : Nat} (hr : Kd.C Kd.string w A l.length l) (hc : l.length ≤ c) :
  Wk (w.alloc (.cells #[pT p, .int .i64 1, .int .i64 0, .slice A l.length c] 80)) w.heap.size p 1 0 l A c :=
 ⟨World.alloc_heap_new w _, Kd.C_below hr ((Below.refl _ w).alloc (Nat.le_refl _) _), hc⟩
theorem seekFind_calls (p : Nat) (T : Tr) (s : ByteArray) (last : Bool) (k : Nat) (R : Int × Int) (w : World) (hT : TreeAt w p T) (hO : TrOK T) (hR : findF T last k s = some R) :
  Calls Try.prog 71 #[pT p, .string s, .bool last] w fun e w' => e = .returned (.tuple #[.int .i64 R.1, .int .i64 R.2]) ∧ Below w.heap.size w w' := by
 have HBG := qh (fun W => begin_calls p s W)
 unfold findF at hR
 by_cases h0 : beginE s = 0
 ·
  rw [if_pos h0] at hR
  rw [h0] at HBG
  obtain ⟨hz, -⟩ := beginE_ok h0
  obtain ⟨r, hr, hR⟩ := Option.bind_eq_some_iff.1 hR
  have HP := qh (fun W => path_Parts.calls s (partsB s) W (by rw [path_Parts.f, if_pos (by omega)]; rfl))
  have hpl := partsB_len' s
  have HW := qh (fun W g A c h1 h2 h3 => walk_calls w.heap.size w g p T hT hO last k 1 (partsB s) A c r W h1 h2 h3 wf1 (by omega) (fun x hx => Nat.le_trans (partsB_sz s x hx) (by omega)) hr)
  have HR := qh hR
  clear hT hR hr h0
  generalize partsB s = l at HP HW hpl
  obtain ⟨rn, re⟩ := r
  simp only [] at HR
  go_enter Try.func71, Try.ntmps71
  go_upto_region 5 with (first | (go_at_call 45; refine (HBG.out _).mono ?_; rintro e w2 ⟨rfl, rfl⟩) | (go_at_call 46; refine (HP.out _).mono ?_; rintro e w3 ⟨v, rfl, ho, hb3⟩; obtain ⟨A3, c3, rfl, hl3, hC3⟩ := Kd.R_reads ho; have HC3 := qh hC3; have HB3 := qh hb3; have HL3 := qh hl3; clear ho hC3 hb3 hl3))
  have hk := Wk.made (p := p) HC3.out HL3.out
  have hB : Below w.heap.size w (w3.alloc (.cells #[pT p, .int .i64 1, .int .i64 0, .slice A3 l.length c3] 80)) := HB3.out.alloc HB3.out.size _
  have hg : w.heap.size ≤ w3.heap.size := HB3.out.size
  generalize w3.alloc (.cells #[pT p, .int .i64 1, .int .i64 0, .slice A3 l.length c3] 80) = w4 at hk hB ⊢
  generalize w3.heap.size = g at hk hg ⊢
  have HWK := qh (HW.out w4 g A3 c3 hk hB hg)
  clear hk hB HW HC3 HB3 HL3
  by_cases he : re = 0
  ·
   subst he
   rw [if_pos rfl] at HR
   go_upto_region 8 with (go_at_call 48; refine HWK.out.mono ?_; rintro e w5 ⟨rfl, hw5⟩)
   obtain ⟨hq, hb5⟩ := hw5
   obtain ⟨h5, l5, A5, c5, hk5⟩ := hq rfl
   obtain ⟨c0, c1, c2, c3⟩ := hk5.cells
   have HB5 := qh hb5
   have hR := Option.some.inj HR.out
   subst hR
   clear hk5 hq hb5
   go_wp2
   go_ret2
   exact ⟨rfl, HB5.out⟩
  ·
   rw [if_neg he] at HR
   have b3 : (re != 0) = true := bne_iff_ne.2 he
   have hR := Option.some.inj HR.out
   subst hR
   clear he
   go_wp2_with (go_at_call 48; refine HWK.out.mono ?_; rintro e w5 ⟨rfl, hw5⟩)
   go_ret2
   exact ⟨rfl, hw5.2⟩
 ·
  rw [if_neg h0] at hR
  have hR := Option.some.inj hR
  subst hR
  have b3 : (beginE s != 0) = true := bne_iff_ne.2 h0
  generalize beginE s = e0 at HBG b3
  clear h0 hT
  go_enter Try.func71, Try.ntmps71
  go_wp2_with (first | (go_at_call 45; refine (HBG.out _).mono ?_; rintro e w2 ⟨rfl, rfl⟩))
  go_ret2
  exact ⟨rfl, Below.refl _ _⟩
theorem cloneS_calls (A : Option Addr) (c : Nat) (l : List ByteArray) (w : World) (hr : Kd.C Kd.string w A l.length l) (hc : l.length ≤ c) (hl : l.length < 4294967296) :
  Calls Try.prog 47 #[.slice A l.length c] w fun e w' => ∃ v, e = .returned v ∧ Kd.R Kd.string 9 w' w.heap.size (fun _ => True) v l ∧ Below w.heap.size w w' := by
 have hq := fun W => Lib.run_eql_slice_nil (P := Try.prog) W 75 9 A l.length c 0 0 Try.underlying75
 have HR := qh hr
 have HRE := qh (R_empty Kd.string 9 w w.heap.size (Nat.le_refl _))
 have HB := qh ((Below.refl w.heap.size w).alloc (Nat.le_refl _) (.cells #[] 9))
 cases A with
 | none =>
  have h0 : l = [] := by
   cases l with
   | nil => rfl
   | cons a b => obtain ⟨ad, e, _⟩ := hr.2.2 (by simp); cases e
  subst h0
  clear hr HR hq
  have hq := fun W => Lib.run_eql_slice_nil (P := Try.prog) W 75 9 none 0 c 0 0 Try.underlying75
  simp only [Option.isNone_none] at hq
  go_enter Try.func47, Try.ntmps47
  go_wp2
  go_ret
  exact ⟨_, rfl, Kd.R_nil _ _ _ _ _, Below.refl _ _⟩
 | some ad =>
  clear hr
  simp only [Option.isNone_some] at hq
  go_enter Try.func47, Try.ntmps47
  go_wp2_with ((with_reducible refine gate_builtin (b := .append) (xs := #[.tmp 5, .tmp 6]) rfl ?_); at_builtin; refine Kd.R_append_rows Kd.string (w0 := w) w.heap.size rfl (.tmp 5) (.tmp 6) 75 9 (.string ⟨#[]⟩) 16 rfl Try.underlying75 infoS rfl (by decide) (by omega) _ [] l _ _ _ (fun _ => True) (fun _ => False) rfl rfl HRE.out (Kd.C_below HR.out HB.out) (fun _ _ h => h) (fun _ h => h.elim) (fun _ _ => trivial) HB.out (by simp) (by simp; omega) ?_; intro v1 w1 ho hb hg hat)
  go_ret
  exact ⟨_, rfl, ho, hb⟩
abbrev R3 := Int × ByteArray × Int
def noS (e : Int) : R3 := (0, ⟨#[]⟩, e)
def spotF (T : Tr) (k : Nat) (s : ByteArray) : Option R3 :=
 if beginE s = 0 then
  match (partsB s).getLast? with
  | none => some (noS 6)
  | some z => if z.toList = [46, 46] then some (noS 6) else (walkF T true k 1 0 (partsB s).dropLast).bind fun r =>
    if r.2 = 0 then (if (T.node r.1).kind = 1 then (if Sp.check z.data.toList = 0 then some (r.1, z, 0) else some (noS (Sp.check z.data.toList))) else some (noS 7)) else some (noS r.2)
 else some (noS (beginE s))
theorem walkF_wf {T : Tr} (hO : TrOK T) (last : Bool) : ∀ (k : Nat) (a h : Int) (l : List ByteArray) (R : Int × Int), wf a → walkF T last k a h l = some R → wf R.1 := by
 intro k
 induction k with
 | zero => intro a h l R _ hR; simp [walkF] at hR
 | succ k ih =>
  intro a h l R ha hR
  cases l with
  | nil => simp only [walkF, Option.some.injEq] at hR; subst hR; exact ha
  | cons s l =>
   simp only [walkF] at hR
   split at hR
   · cases hR; exact ha
   ·
    split at hR
    · exact ih _ _ _ _ (hO.wf_up a) hR
    ·
     split at hR
     · cases hR; exact ha
     ·
      split at hR
      · exact ih _ _ _ _ (hO.wf_down a s) hR
      ·
       split at hR
       · cases hR; exact ha
       ·
        refine ih _ _ _ _ ?_ hR
        split
        · exact wf1
        · exact ha
theorem spot_calls (p : Nat) (T : Tr) (s : ByteArray) (k : Nat) (R : R3) (w : World) (hT : TreeAt w p T) (hO : TrOK T) (hR : spotF T k s = some R) :
  Calls Try.prog 35 #[pT p, .string s] w fun e w' => e = .returned (.tuple #[.int .i64 R.1, .string R.2.1, .int .i64 R.2.2]) ∧ Below w.heap.size w w' := by
 have HBG := qh (fun W => begin_calls p s W)
 unfold spotF at hR
 by_cases h0 : beginE s = 0
 ·
  rw [if_pos h0] at hR
  rw [h0] at HBG
  obtain ⟨hz, -⟩ := beginE_ok h0
  have HP := qh (fun W => path_Parts.calls s (partsB s) W (by rw [path_Parts.f, if_pos (by omega)]; rfl))
  have hpl := partsB_len' s
  have hps := partsB_sz s
  generalize partsB s = l at hR HP hpl hps
  clear h0
  rcases List.eq_nil_or_concat l with rfl | ⟨ini, z, rfl⟩
  ·
   have hR := Option.some.inj hR
   subst hR
   go_enter Try.func35, Try.ntmps35
   go_wp2_with (first | (go_at_call 45; refine (HBG.out _).mono ?_; rintro e w2 ⟨rfl, rfl⟩) | (go_at_call 46; refine (HP.out _).mono ?_; rintro e w3 ⟨v, rfl, ho, hb3⟩; obtain ⟨A3, c3, rfl, hl3, hC3⟩ := Kd.R_reads ho; clear ho hC3))
   go_ret3
   exact ⟨rfl, hb3⟩
  ·
   rw [List.concat_eq_append] at *
   rw [List.getLast?_concat, List.dropLast_concat] at hR
   simp only [] at hR
   have hlen : (ini ++ [z]).length = ini.length + 1 := by simp
   by_cases hdd : z.toList = [46, 46]
   ·
    rw [if_pos hdd] at hR
    have hR := Option.some.inj hR
    subst hR
    have b2 : (z.toList == [46, 46]) = true := by rw [hdd]; rfl
    go_enter Try.func35, Try.ntmps35
    go_upto_region 6 with (first | (go_at_call 45; refine (HBG.out _).mono ?_; rintro e w2 ⟨rfl, rfl⟩) | (go_at_call 46; refine (HP.out _).mono ?_; rintro e w3 ⟨v, rfl, ho, hb3⟩; obtain ⟨A3, c3, rfl, hl3, hC3⟩ := Kd.R_reads ho; have HC3 := qh hC3; clear ho hC3))
    obtain ⟨ad, eA, x0⟩ := Kd.at_string HC3.out (ini.length : Int) (by omega) (by simp; omega)
    have e0 : rdOf ByteArray.empty (ini ++ [z]) (ini.length : Int) = z := by simp [rdOf]
    rw [e0, Int.toNat_natCast] at x0
    subst eA
    have d0 : decide ((ini.length : Int) < 0) = false := decide_eq_false (by omega)
    have i0 : (0 : Int) ≤ (ini.length : Int) := by omega
    have i1 : (ini.length : Int) < (ini.length : Int) + 1 := by omega
    have i2 : (ini.length : Int) ≤ (ini.length : Int) + 1 := by omega
    clear e0
    go_wp2
    go_ret3
    exact ⟨rfl, hb3⟩
   ·
    rw [if_neg hdd] at hR
    have b2 : (z.toList == [46, 46]) = false := by simpa using hdd
    clear hdd
    obtain ⟨r, hr, hR⟩ := Option.bind_eq_some_iff.1 hR
    have hwr := walkF_wf hO true k 1 0 ini r wf1 hr
    have HW := qh (fun w4 (hT4 : TreeAt w4 p T) W g A c h1 h2 h3 => walk_calls w4.heap.size w4 g p T hT4 hO true k 1 ini A c r W h1 h2 h3 wf1 (by simp at hpl; omega) (fun x hx => Nat.le_trans (hps x (List.mem_append_left _ hx)) (by omega)) hr)
    have HT := qh hT
    have HR := qh hR
    have hzz : z.size < 4294967281 := by have := hps z (by simp); omega
    have HCK := qh (fun W => name_Check.calls z (Sp.check z.data.toList) W (by rw [name_Check.f, if_pos hzz]))
    have HKD := qh (fun W (h : TreeAt W p T) => kind_calls p T r.1 W h hwr)
    have hini : ini.length < 4294967296 := by simp at hpl; omega
    clear hT hR hr hps hwr
    obtain ⟨rn, re⟩ := r
    simp only [] at HR HKD
    go_enter Try.func35, Try.ntmps35
    go_upto_region 6 with (first | (go_at_call 45; refine (HBG.out _).mono ?_; rintro e w2 ⟨rfl, rfl⟩) | (go_at_call 46; refine (HP.out _).mono ?_; rintro e w3 ⟨v, rfl, ho, hb3⟩; obtain ⟨A3, c3, rfl, hl3, hC3⟩ := Kd.R_reads ho; have HC3 := qh hC3; clear ho hC3))
    obtain ⟨ad, eA, x0⟩ := Kd.at_string HC3.out (ini.length : Int) (by omega) (by simp; omega)
    have e0 : rdOf ByteArray.empty (ini ++ [z]) (ini.length : Int) = z := by simp [rdOf]
    rw [e0, Int.toNat_natCast] at x0
    subst eA
    have d0 : decide ((ini.length : Int) < 0) = false := decide_eq_false (by omega)
    have i0 : (0 : Int) ≤ (ini.length : Int) := by omega
    have i1 : (ini.length : Int) < (ini.length : Int) + 1 := by omega
    have i2 : (ini.length : Int) ≤ (ini.length : Int) + 1 := by omega
    clear e0
    have X0 := qh x0
    have HB3 := qh hb3
    have hct := Kd.C_take (m := ini.length) HC3.out (by simp)
    rw [List.take_left] at hct
    have HCT := qh hct
    clear hct hb3
    go_upto_region 9 with (go_at_call 47; refine (cloneS_calls _ _ ini _ HCT.out (by simp at hl3; omega) hini).mono ?_; rintro e w4 ⟨v4, rfl, ho4, hb4⟩; obtain ⟨A4, c4, rfl, hl4, hC4⟩ := Kd.R_reads ho4; have HC4 := qh hC4; have HB4 := qh (HB3.out.trans (hb4.mono HB3.out.size)); have x4 := pw_cell_below hb4 X0.out; clear ho4 hC4 hb4)
    have hk := Wk.made (p := p) HC4.out hl4
    have hB : Below w4.heap.size w4 (w4.alloc (.cells #[pT p, .int .i64 1, .int .i64 0, .slice A4 ini.length c4] 80)) := (Below.refl _ w4).alloc (Nat.le_refl _) _
    have hg : w4.heap.size ≤ w4.heap.size := Nat.le_refl _
    generalize w4.alloc (.cells #[pT p, .int .i64 1, .int .i64 0, .slice A4 ini.length c4] 80) = w5 at hk hB ⊢
    have HWK := qh (HW.out w4 (HT.out.below HB4.out) w5 w4.heap.size A4 c4 hk hB hg)
    have X4 := qh x4
    clear hk hB hg HW HC4 x0 x4 hl4 HCT
    generalize hgg : w4.heap.size = g at HWK ⊢
    have HG := qh hgg
    clear hgg
    by_cases he : re = 0
    ·
     subst he
     rw [if_pos rfl] at HR
     by_cases hkd : (T.node rn).kind = 1
     ·
      rw [if_pos hkd] at HR
      rw [hkd] at HKD
      clear hkd
      generalize Sp.check z.data.toList = ck at HR HCK
      by_cases hc0 : ck = 0
      ·
       subst hc0
       rw [if_pos rfl] at HR
       have hR := Option.some.inj HR.out
       subst hR
       go_upto_region 17 with (first | (go_at_call 48; refine HWK.out.mono ?_; rintro e w6 ⟨rfl, hw6⟩; obtain ⟨hq, hb6⟩ := hw6; obtain ⟨h6, l6, A6, c6, hk6⟩ := hq rfl; have y6 := pw_cell_below hb6 X4.out; obtain ⟨c0, c1, c2, c3⟩ := hk6.cells; have HK6 := qh hk6; have HB6 := qh (HB4.out.trans (hb6.mono HB4.out.size)); clear hk6 hq) | (go_at_call 42; refine (HKD.out _ (HT.out.below HB6.out)).mono ?_; rintro e w7 ⟨rfl, hb7⟩; have y7 := pw_cell_below hb7 y6; have c17 := pw_cell_below hb7 c1; have HB7 := qh (HB6.out.trans (hb7.mono HB6.out.size))) | (go_at_call 49; refine (HCK.out _).mono ?_; rintro e w8 ⟨rfl, hb8⟩; have y8 := pw_cell_below hb8 y7; have c18 := pw_cell_below hb8 c17; have HB8 := qh (HB7.out.trans (hb8.mono HB7.out.size))))
       clear hb6 hb7 hb8 y6 y7 c0 c1 c2 c3 c17
       go_quiet (fail)
       go_wp2
       go_ret3
       exact ⟨rfl, pw_below_drewN HB8.out nq⟩
      ·
       rw [if_neg hc0] at HR
       have b6 : (ck != 0) = true := bne_iff_ne.2 hc0
       have hR := Option.some.inj HR.out
       subst hR
       clear hc0
       go_wp2_with (first | (go_at_call 48; refine HWK.out.mono ?_; rintro e w6 ⟨rfl, hw6⟩; obtain ⟨hq, hb6⟩ := hw6; obtain ⟨h6, l6, A6, c6, hk6⟩ := hq rfl; have y6 := pw_cell_below hb6 X4.out; obtain ⟨c0, c1, c2, c3⟩ := hk6.cells; have HK6 := qh hk6; have HB6 := qh (HB4.out.trans (hb6.mono HB4.out.size)); clear hk6 hq) | (go_at_call 42; refine (HKD.out _ (HT.out.below HB6.out)).mono ?_; rintro e w7 ⟨rfl, hb7⟩; have y7 := pw_cell_below hb7 y6; have c17 := pw_cell_below hb7 c1; have HB7 := qh (HB6.out.trans (hb7.mono HB6.out.size))) | (go_at_call 49; refine (HCK.out _).mono ?_; rintro e w8 ⟨rfl, hb8⟩; have y8 := pw_cell_below hb8 y7; have c18 := pw_cell_below hb8 c17; have HB8 := qh (HB7.out.trans (hb8.mono HB7.out.size))))
       go_ret3
       exact ⟨rfl, HB8.out⟩
     ·
      rw [if_neg hkd] at HR
      have b5 : ((T.node rn).kind != 1) = true := bne_iff_ne.2 hkd
      generalize (T.node rn).kind = kd at HKD b5
      have hR := Option.some.inj HR.out
      subst hR
      clear hkd
      go_wp2_with (first | (go_at_call 48; refine HWK.out.mono ?_; rintro e w6 ⟨rfl, hw6⟩; obtain ⟨hq, hb6⟩ := hw6; obtain ⟨h6, l6, A6, c6, hk6⟩ := hq rfl; have y6 := pw_cell_below hb6 X4.out; obtain ⟨c0, c1, c2, c3⟩ := hk6.cells; have HK6 := qh hk6; have HB6 := qh (HB4.out.trans (hb6.mono HB4.out.size)); clear hk6 hq) | (go_at_call 42; refine (HKD.out _ (HT.out.below HB6.out)).mono ?_; rintro e w7 ⟨rfl, hb7⟩; have y7 := pw_cell_below hb7 y6; have c17 := pw_cell_below hb7 c1; have HB7 := qh (HB6.out.trans (hb7.mono HB6.out.size))))
      go_ret3
      exact ⟨rfl, HB7.out⟩
    ·
     rw [if_neg he] at HR
     have b4 : (re != 0) = true := bne_iff_ne.2 he
     have hR := Option.some.inj HR.out
     subst hR
     clear he
     go_wp2_with (go_at_call 48; refine HWK.out.mono ?_; rintro e w6 ⟨rfl, hw6⟩)
     go_ret3
     exact ⟨rfl, HB4.out.trans (hw6.2.mono HB4.out.size)⟩
 ·
  rw [if_neg h0] at hR
  have hR := Option.some.inj hR
  subst hR
  have b3 : (beginE s != 0) = true := bne_iff_ne.2 h0
  generalize beginE s = e0 at HBG b3
  clear h0 hT
  go_enter Try.func35, Try.ntmps35
  go_wp2_with (first | (go_at_call 45; refine (HBG.out _).mono ?_; rintro e w2 ⟨rfl, rfl⟩))
  go_ret3
  exact ⟨rfl, Below.refl _ _⟩
theorem walk_nil (T : Tr) (lst : Bool) (k : Nat) (a h : Int) : walkF T lst (k + 1) a h [] = some (a, 0) := rfl
theorem walk_cons (T : Tr) (lst : Bool) (k : Nat) (a h : Int) (s : ByteArray) (l : List ByteArray) : walkF T lst (k + 1) a h (s :: l) =
  if (T.node a).kind ≠ 1 then some (a, 7)
  else if s.toList = [46, 46] then walkF T lst k (T.node a).up h l
  else if (downT T a s).2 ≠ 0 then some (a, (downT T a s).2)
  else if (T.node (downT T a s).1).kind ≠ 3 ∨ (l = [] ∧ lst = false) then walkF T lst k (downT T a s).1 h l
  else if 40 ≤ h then some (a, 10)
  else walkF T lst k (if slashB (T.node (downT T a s).1).data = true then 1 else a) (h + 1) (partsB (T.node (downT T a s).1).data ++ l) := rfl
end Go.Proofs.Ytnpeeiikdcankaa.Tw

namespace Go.Sort
end Go.Sort
namespace Go.Proofs.Ytnpeeiikdcankaa.Tw
open Go Go.RowKit Go.Shelf Go.Proofs Go.Proofs.Ytnpeeiikdcankaa Go.Proofs.YtnpeeiikdcankaaW.PrintWords Go.Proofs.Ytnpeeiikdcankaa.Ext Go.Proofs.Ytnpeeiikdcankaa.X Go.Proofs.Ytnpeeiikdcankaa.Pu Go.Sort
end Go.Proofs.Ytnpeeiikdcankaa.Tw

namespace Go.Proofs.Ytnpeeiikdcankaa.Tw
open Go Go.RowKit Go.Shelf Go.Proofs Go.Proofs.Ytnpeeiikdcankaa Go.Proofs.YtnpeeiikdcankaaW.PrintWords Go.Proofs.Ytnpeeiikdcankaa.Ext Go.Proofs.Ytnpeeiikdcankaa.X Go.Proofs.Ytnpeeiikdcankaa.Pu
theorem root_at {L : List RN} {last : Int} (h : GoodL L last) : (atR L 1).f0 = 1 ∧ (atR L 1).f1 = 1 ∧ (atR L 1).f3 = 1 := by
 obtain ⟨r, hr, h0, h1, h3⟩ := h.root
 have := at_mem h hr
 rw [h0] at this
 rw [this]
 exact ⟨h0, h1, h3⟩
structure But (w w' : World) (k : Nat) : Prop where
 g : w.grownBy w' (some k)
 no : ∀ a s, a.block = k → w.cell? a ≠ some (.string s)
theorem But.cell {w w' : World} {k : Nat} (h : But w w' k) {a : Addr} {v : Value} (hne : a.block ≠ k) (hc : w.cell? a = some v) : w'.cell? a = some v := by
 have hlt := block_lt_of_cell hc
 rw [← hc]
 unfold World.cell?
 rw [h.g.block _ hlt (fun e => hne (Option.some.inj e))]
theorem add_block (ad : Addr) (n : Nat) : (ad.add n).block = ad.block := by unfold Addr.add; split <;> rfl
theorem EntsAt.but {w w' : World} {k : Nat} {s : Value} {l : List En} (h : EntsAt w s l) (hb : But w w' k) : EntsAt w' s l := by
 obtain ⟨A, c, e1, e2, hC⟩ := h
 refine ⟨A, c, e1, e2, hC.1, hC.2.1, fun hn => ?_⟩
 obtain ⟨ad, eA, hc⟩ := hC.2.2 hn
 refine ⟨ad, eA, fun j q hj => ?_⟩
 obtain ⟨cs, hl, hK, hq⟩ := hc j q hj
 obtain rfl := k91_open hK
 have hne : ad.block ≠ k := fun e => hb.no _ _ ((add_block ad _).trans e) (hq 0 _ rfl)
 exact ⟨_, hl, k91_mk _ _, fun i u hu => hb.cell (by rw [add_block]; exact hne) (hq i u hu)⟩
theorem RAt.but {w w' : World} {k : Nat} {v : Value} {L : List RN} {last : Int} (h : RAt w v L last) (hb : But w w' k) : RAt w' v L last := by
 obtain ⟨A, c, e1, e2, hC⟩ := h
 refine ⟨A, c, e1, e2, hC.1, hC.2.1, fun hn => ?_⟩
 obtain ⟨ad, eA, hc⟩ := hC.2.2 hn
 refine ⟨ad, eA, fun j q hj => ?_⟩
 obtain ⟨cs, hl, hK, hq⟩ := hc j q hj
 obtain rfl := k9001_open hK
 have hne : ad.block ≠ k := fun e => hb.no _ _ ((add_block ad _).trans e) (hq 2 _ rfl)
 exact ⟨_, hl, k9001_mk _ _, fun i u hu => hb.cell (by rw [add_block]; exact hne) (hq i u hu)⟩
theorem TreeB.but {w w' : World} {p B k : Nat} {T : Tr} (h : TreeB w p B T) (hb : But w w' k) (hp : p ≠ k) (hB : B ≠ k) : TreeB w' p B T := by
 obtain ⟨sv, D, h⟩ := h
 exact ⟨sv, D, (hb.g.block _ (blk_lt h.ptr) (fun e => hp (Option.some.inj e))).trans h.ptr, h.map.kept hb.g (fun e => hB (Option.some.inj e)), h.cnt, h.has, h.at_, fun n x hn hx => EntsAt.but (h.ents n x hn hx) hb⟩
def IsI (u : Value) : Prop := ∃ m : Int, u = .int .i64 m
def OwnN (w : World) (base : Nat) (v : Value) (l : List Int) : Prop :=
 (v = .slice none 0 0 ∧ l = []) ∨
 ∃ g cap cur, v = .slice (some ⟨g, 0, none⟩) l.length cap ∧ base ≤ g ∧ w.heap[g]? = some (.cells cur 3 (0, 0)) ∧ l.length ≤ cap ∧ cap ≤ maxLen ∧ cur.size = cap ∧ cur.toList.take l.length = l.map (Value.int .i64) ∧ ∀ u ∈ cur.toList, IsI u
theorem infoI : (Try.prog.info? 3).map (fun i => (i.zero, i.size, i.bytes)) = some (some (.int .i64 0), 1, 8) := by kernel_rfl
theorem OwnN.made (W : World) (base : Nat) (hb : base ≤ W.heap.size) : OwnN (W.alloc (.cells #[] 3)) base (.slice (some ⟨W.heap.size, 0, none⟩) 0 0) [] :=
 .inr ⟨W.heap.size, 0, #[], rfl, hb, heap_alloc_new W _, Nat.le_refl _, by simp [maxLen], rfl, rfl, by simp⟩
theorem OwnN.toR {w : World} {base : Nat} {v : Value} {l : List Int} (h : OwnN w base v l) : Kd.R (Kd.int .i64) 3 w base (fun _ => True) v l := by
 refine Kd.R_of_own ?_ (fun _ _ => trivial)
 refine ⟨by simp [encs], ?_⟩
 rcases h with ⟨rfl, rfl⟩ | ⟨g, cap, cur, rfl, hb, hh, hle, hm, hc, ht, _⟩
 · exact .inl ⟨rfl, rfl⟩
 ·
  refine .inr ⟨g, cap, cur, rfl, hb, hh, hle, hm, by omega, ?_⟩
  rw [Nat.mul_one, ht]; rfl
theorem OwnN.step {w w' : World} {base : Nat} {v : Value} {l : List Int} (h : OwnN w base v l) (hs : ∀ k cur, k < w.heap.size → w.heap[k]? = some (.cells cur 3 (0, 0)) → w'.heap[k]? = w.heap[k]?) : OwnN w' base v l := by
 rcases h with h | ⟨g, cap, cur, e, hb, hh, r⟩
 · exact .inl h
 · exact .inr ⟨g, cap, cur, e, hb, (hs g cur (blk_lt hh) hh).trans hh, r⟩
theorem OwnN.below {w w' : World} {base : Nat} {v : Value} {l : List Int} (h : OwnN w base v l) (hb : Below w.heap.size w w') : OwnN w' base v l := h.step (fun k _ hk _ => hb.block k hk)
theorem OwnN.frm {w w' : World} {p B base : Nat} {T : Tr} {v : Value} {l : List Int} (h : OwnN w base v l) (hT : TreeB w p B T) (hf : Frm w w' p B) : OwnN w' base v l := by
 obtain ⟨hp, es, clock, hB⟩ := hT.two
 refine h.step (fun k cur hk hh => hf.block k hk ?_ ?_)
 ·
  rintro rfl
  rw [hp] at hh
  injection hh with hh
  injection hh with _ hh
  exact absurd hh (by decide)
 ·
  rintro rfl
  rw [hB] at hh
  cases hh
theorem OwnN.but {w w' : World} {k base : Nat} {v : Value} {l : List Int} {cs : Array Value} {t : TypeId} {fr : Nat × Nat} (h : OwnN w base v l) (hk : w.heap[k]? = some (.cells cs t fr)) (ht : t ≠ 3) (hb : But w w' k) : OwnN w' base v l := by
 refine h.step (fun j cur hj hh => hb.g.block j hj ?_)
 intro e
 obtain rfl : j = k := Option.some.inj e
 rw [hk] at hh
 injection hh with hh
 injection hh with _ hh
 exact ht hh
theorem OwnN.noS {w : World} {base : Nat} {v : Value} {l : List Int} (h : OwnN w base v l) (k : Nat) (hk : v.ownBlock = some k) : ∀ a s, a.block = k → w.cell? a ≠ some (.string s) := by
 rcases h with ⟨rfl, _⟩ | ⟨g, cap, cur, rfl, hb, hh, hle, hm, hc, ht, ha⟩
 · cases hk
 ·
  injection hk with hk
  change g = k at hk
  subst hk
  rintro ⟨b, o, sp⟩ s rfl
  simp only [World.cell?, hh]
  split
  · simp
  ·
   intro e
   obtain ⟨m, hm⟩ := ha _ (List.mem_of_getElem? (by simpa using e))
   cases hm
theorem drewAlloc (w : World) (o : Obj) (row : Option Nat) : w.grownBy (w.drew.alloc o) row := ⟨rfl, rfl, rfl, by simp, fun k hk _ => heap_alloc_old w.drew o k hk⟩
theorem zero_is (n : Nat) : ∀ u ∈ (Builtin.zeroCells (Value.cells (.int .i64 0)) n).toList, IsI u := by
 intro u hu
 simp only [Builtin.zeroCells] at hu
 simp at hu
 obtain ⟨_, hu⟩ := hu
 have : u = .int .i64 0 := by simp [Value.cells, Nat.mod_one] at hu; exact hu.2.symm
 exact ⟨0, this⟩
theorem OwnN.append {W : World} {base : Nat} {v : Value} {l : List Int} (h : OwnN W base v l) (x : Int) (ty : TypeId) (hb : base ≤ W.heap.size) (hl : l.length < 1000000) :
  ∃ v' w', (Builtin.append_ #[83, 83] ty #[v, .slice (some ⟨W.heap.size, 0, none⟩) 1 1]).run Try.prog (W.alloc (.cells #[.int .i64 x] 3)) = .ok v' w' ∧ OwnN w' base v' (l ++ [x]) ∧ W.grownBy w' v.ownBlock := by
 obtain ⟨i0, hi, hz0, hz1, hz2⟩ := info_parts infoI
 have ht := Try.underlying83
 have hnews := cell_one_new W (.int .i64 x) 3
 have h1 : ∀ u ∈ [Value.int .i64 x], u.oneCell' = true := by intro u hu; rw [List.mem_singleton.1 hu]; rfl
 have hgr := World.grownBy_alloc W (.cells #[.int .i64 x] 3)
 rcases h with ⟨rfl, rfl⟩ | ⟨g, cap, cur, rfl, hbg, hh, hle, hm, hc, htk, ha⟩
 ·
  have hr := run_append_nil (P := Try.prog) (W.alloc (.cells #[.int .i64 x] 3)) 83 ty 3 i0 (.int .i64 0) ht hi hz0 ⟨W.heap.size, 0, none⟩ 1 1 [.int .i64 x] (by rw [hz1]; rfl) hnews (by omega) (by omega) (by rw [hz2]; omega)
  refine ⟨_, _, hr, .inr ⟨_, _, _, rfl, ?_, heap_alloc_new _ _, ?_, ?_, ?_, ?_, ?_⟩, ?_⟩
  ·
   show base ≤ (W.alloc _).heap.size
   simp; omega
  · exact grownCap_ge _ 1 0 _
  · exact grownCap_le_maxLen _ 1 0 _ (by simp [maxLen])
  ·
   have := grownCap_ge (W.alloc (.cells #[.int .i64 x] 3)) 1 0 3
   simp only [Array.size_append, List.size_toArray, size_zeroCells]
   simp [Value.cells]
   omega
  · simp
  ·
   intro u hu
   rw [Array.toList_append] at hu
   rcases List.mem_append.1 hu with hu | hu
   · exact ⟨x, by simpa using hu⟩
   · exact zero_is _ u hu
  · exact World.grownBy.trans (hgr _) (drewAlloc _ _ _)
 ·
  have hg' : (W.alloc (.cells #[.int .i64 x] 3)).heap[g]? = some (.cells cur 3 (0, 0)) := (heap_alloc_old W _ g (blk_lt hh)).trans hh
  have hgr := World.grownBy_alloc W (.cells #[.int .i64 x] 3) (some g)
  by_cases hroom : l.length + 1 ≤ cap
  ·
   have hr := run_append_room (P := Try.prog) (W.alloc (.cells #[.int .i64 x] 3)) 83 ty 3 i0 ht hi g l.length cap cur hg' ⟨W.heap.size, 0, none⟩ 1 1 [.int .i64 x] (by rw [hz1]; rfl) hnews h1 hroom (by rw [hz1]; simp; omega)
   rw [hz1, Nat.mul_one] at hr
   refine ⟨_, _, hr, .inr ⟨g, cap, _, by simp, hbg, setRow_heap _ g cur _ _ _ hg', by simpa using hroom, hm, ?_, ?_, ?_⟩, ?_⟩
   ·
    have hcl : cur.toList.length = cap := by simpa using hc
    simp only [List.size_toArray, List.length_append, List.length_take, List.length_drop, hcl, List.length_singleton]
    omega
   ·
    rw [htk, List.map_append, List.length_append]
    have e : (l.map (Value.int .i64) ++ [Value.int .i64 x]).length = l.length + 1 := by simp
    show List.take (l.length + 1) (l.map (Value.int .i64) ++ [Value.int .i64 x] ++ _) = _
    rw [← e]
    exact List.take_left
   ·
    intro u hu
    simp only [List.mem_append] at hu
    rcases hu with (hu | hu) | hu
    · exact ha u (List.mem_of_mem_take hu)
    · exact ⟨x, by simpa using hu⟩
    · exact ha u (List.mem_of_mem_drop hu)
   · exact hgr.trans ⟨rfl, rfl, rfl, by simp [World.setRow], fun k hk hne => setRow_other _ g k _ (fun e => hne (by simp [e]))⟩
  ·
   have holds : ∀ j u, (l.map (Value.int .i64))[j]? = some u → (W.alloc (.cells #[.int .i64 x] 3)).cell? ((⟨g, 0, none⟩ : Addr).add j) = some u := by
    intro j u hu
    rw [← htk, List.getElem?_take] at hu
    have hadd : (⟨g, 0, none⟩ : Addr).add j = ⟨g, j, none⟩ := by simp [Addr.add_lit]
    rw [hadd, cell_of_row _ g j cur _ (0, 0) hg']
    split at hu
    · simpa using hu
    · cases hu
   have hle2 : l.length ≤ cap := hle
   have hr := run_append_grow (P := Try.prog) (W.alloc (.cells #[.int .i64 x] 3)) 83 ty 3 i0 (.int .i64 0) ht hi hz0 ⟨g, 0, none⟩ l.length cap (l.map (Value.int .i64)) (by rw [hz1]; simp) holds ⟨W.heap.size, 0, none⟩ 1 1 [.int .i64 x] (by rw [hz1]; rfl) hnews (by omega) (by omega) (growslice_fits (by omega) (by rw [hz2]; omega))
   refine ⟨_, _, hr, .inr ⟨_, grownCap (W.alloc (.cells #[.int .i64 x] 3)) (l.length + 1) cap 3, _, by simp, ?_, heap_alloc_new _ _, ?_, ?_, ?_, ?_, ?_⟩, ?_⟩
   ·
    show base ≤ (W.alloc _).heap.size
    simp; omega
   · simpa using grownCap_ge _ (l.length + 1) cap _
   · exact grownCap_le_maxLen _ (l.length + 1) cap _ (by simp [maxLen]; omega)
   ·
    have := grownCap_ge (W.alloc (.cells #[.int .i64 x] 3)) (l.length + 1) cap 3
    simp only [Array.size_append, List.size_toArray, size_zeroCells]
    simp [Value.cells]
    omega
   ·
    rw [Array.toList_append, Array.toList_append]
    have e : (l.map (Value.int .i64) ++ [Value.int .i64 x]).length = l.length + 1 := by simp
    show List.take (l ++ [x]).length (l.map (Value.int .i64) ++ [Value.int .i64 x] ++ _) = _
    rw [List.length_append, List.map_append]
    show List.take (l.length + 1) _ = _
    rw [← e]
    exact List.take_left
   ·
    intro u hu
    rw [Array.toList_append, Array.toList_append] at hu
    simp only [List.mem_append] at hu
    rcases hu with (hu | hu) | hu
    ·
     obtain ⟨m, _, rfl⟩ := List.mem_map.1 hu
     exact ⟨m, rfl⟩
    · exact ⟨x, by simpa using hu⟩
    · exact zero_is _ u hu
   · exact hgr.trans (drewAlloc _ _ _)
theorem OwnN.blk {w : World} {base : Nat} {v : Value} {l : List Int} (h : OwnN w base v l) (k : Nat) (hk : v.ownBlock = some k) : base ≤ k ∧ ∃ cur, w.heap[k]? = some (.cells cur 3 (0, 0)) := by
 rcases h with ⟨rfl, _⟩ | ⟨g, cap, cur, rfl, hb, hh, _⟩
 · cases hk
 ·
  injection hk with hk
  change g = k at hk
  subst hk
  exact ⟨hb, cur, hh⟩
section
variable {ops : Array Oper} {rest : List Oper} {o : Oper} {a : Act} {Q : Exit → Act → World → Prop}
end
theorem three_set {w : World} {k : Nat} {v0 v1 v2 u0 u1 u2 : Value} {t : TypeId} (h : w.heap[k]? = some (.cells #[v0, v1, v2] t (0, 0))) : (((w.setCell ⟨k, 0, none⟩ u0).setCell ⟨k, 1, none⟩ u1).setCell ⟨k, 2, none⟩ u2).heap[k]? = some (.cells #[u0, u1, u2] t (0, 0)) := by
 have k1 : (w.setCell ⟨k, 0, none⟩ u0).heap[k]? = some (.cells #[u0, v1, v2] t (0, 0)) := by rw [setCell_eq_setRow w _ 0 _ _ _ _ h, setRow_heap w _ _ _ _ _ h]; rfl
 have k2 : ((w.setCell ⟨k, 0, none⟩ u0).setCell ⟨k, 1, none⟩ u1).heap[k]? = some (.cells #[u0, u1, v2] t (0, 0)) := by rw [setCell_eq_setRow _ _ 1 _ _ _ _ k1, setRow_heap _ _ _ _ _ _ k1]; rfl
 rw [setCell_eq_setRow _ _ 2 _ _ _ _ k2, setRow_heap _ _ _ _ _ _ k2]; rfl
def sizeT (T : Tr) (n : Int) : Int := ((T.node n).data.size : Int) + ((T.node n).ents.length : Int)
def stT (T : Tr) (R : Int × Int) : Int × Int × Int := if R.2 = 0 then (R.1, (T.node R.1).kind, sizeT T R.1) else (0, 0, 0)
abbrev v3 (x : Int × Int × Int) : Value := .agg #[.int .i64 x.1, .int .i64 x.2.1, .int .i64 x.2.2]
theorem stat_calls (p : Nat) (T : Tr) (s : ByteArray) (last : Bool) (k : Nat) (R : Int × Int) (w : World) (hT : TreeAt w p T) (hO : TrOK T) (hw : wf R.1) (hR : findF T last k s = some R) :
  Calls Try.prog 56 #[pT p, .string s, .bool last] w fun e w' => e = .returned (.tuple #[v3 (stT T R), .int .i64 R.2]) ∧ Below w.heap.size w w' := by
 have HF := qh (fun W h => seekFind_calls p T s last k R W h hO hR)
 have HK := qh (fun W h => kind_calls p T R.1 W h hw)
 have HD := qh (fun W h => data_calls p T R.1 W h hw)
 have HL := qh (fun W h => list_calls p T R.1 W h hw (hO.small.node R.1))
 have hdz := hO.sz R.1
 have hlz := hO.small.node R.1
 have HT := qh hT
 have HST := qh (show stT T R = if R.2 = 0 then (R.1, (T.node R.1).kind, ((T.node R.1).data.size : Int) + ((T.node R.1).ents.length : Int)) else (0, 0, 0) from rfl)
 generalize stT T R = st at *
 obtain ⟨n, e⟩ := R
 simp only [] at *
 generalize T.node n = nd at *
 obtain ⟨kd, up, dt, es⟩ := nd
 simp only [] at *
 clear hT hO hw hR
 have hu := Try.underlying62
 have HB0 := qh ((Below.refl w.heap.size w).alloc (Nat.le_refl _) (.cells #[.int .i64 0, .int .i64 0, .int .i64 0] 62))
 have HX0 := qh (heap_alloc_new w (.cells #[.int .i64 0, .int .i64 0, .int .i64 0] 62))
 by_cases he : e = 0
 ·
  subst he
  have hst := HST.out
  rw [if_pos rfl] at hst
  subst hst
  clear HST
  go_enter Try.func56, Try.ntmps56
  go_upto_region 4 with (go_at_call 71; refine (HF.out _ (HT.out.below HB0.out)).mono ?_; rintro e w2 ⟨rfl, hb2⟩)
  have HB2 := qh (HB0.out.trans (hb2.mono HB0.out.size))
  have H2 := qh ((hb2.block _ (blk_lt HX0.out)).trans HX0.out)
  have HT2 := qh (HT.out.below HB2.out)
  clear hb2
  go_wp2_with (first
   | (go_at_call 42; refine (HK.out _ HT2.out).mono ?_; rintro e w3 ⟨rfl, hb3⟩)
   | (go_at_call 67; refine (HD.out _ (HT2.out.below hb3)).mono ?_; rintro e w4 ⟨rfl, hb4⟩)
   | (go_at_call 40; refine (HL.out _ ((HT2.out.below hb3).below hb4)).mono ?_; rintro e w5 ⟨v, rfl, ho, hb5⟩; obtain ⟨A5, c5, rfl, hl5, hC5⟩ := Kd.R_reads ho; have HB5 := qh (hb3.trans ((hb4.mono hb3.size).trans (hb5.mono (Nat.le_trans hb3.size hb4.size)))); have h5 := (HB5.out.block _ (blk_lt H2.out)).trans H2.out; have x0 : w5.cell? ⟨w.heap.size, 0, none⟩ = some (.int .i64 0) := (by rw [blk_cell h5]; rfl); have x1 : w5.cell? ⟨w.heap.size, 1, none⟩ = some (.int .i64 0) := (by rw [blk_cell h5]; rfl); have x2 : w5.cell? ⟨w.heap.size, 2, none⟩ = some (.int .i64 0) := (by rw [blk_cell h5]; rfl); have f0 := blk_frozen h5 0; have f1 := blk_frozen h5 1; have f2 := blk_frozen h5 2; have H5 := qh h5; clear h5 ho hC5 hb3 hb4 hb5))
  have H9 := qh (three_set (u0 := .int .i64 n) (u1 := .int .i64 kd) (u2 := .int .i64 ((dt.size : Int) + (es.length : Int))) H5.out)
  have HB9 := qh ((((HB2.out.trans (HB5.out.mono HB2.out.size)).setCell (p := ⟨w.heap.size, 0, none⟩) (Nat.le_refl _) (.int .i64 n)).setCell (p := ⟨w.heap.size, 1, none⟩) (Nat.le_refl _) (.int .i64 kd)).setCell (p := ⟨w.heap.size, 2, none⟩) (Nat.le_refl _) (.int .i64 ((dt.size : Int) + (es.length : Int))))
  clear x0 x1 x2
  generalize ((w5.setCell ⟨w.heap.size, 0, none⟩ (.int .i64 n)).setCell ⟨w.heap.size, 1, none⟩ (.int .i64 kd)).setCell ⟨w.heap.size, 2, none⟩ (.int .i64 ((dt.size : Int) + (es.length : Int))) = w9 at H9 HB9 ⊢
  have c0 : w9.cell? ⟨w.heap.size, 0, none⟩ = some (.int .i64 n) := by rw [blk_cell H9.out]; rfl
  have c1 : w9.cell? ⟨w.heap.size, 1, none⟩ = some (.int .i64 kd) := by rw [blk_cell H9.out]; rfl
  have c2 : w9.cell? ⟨w.heap.size, 2, none⟩ = some (.int .i64 ((dt.size : Int) + (es.length : Int))) := by rw [blk_cell H9.out]; rfl
  refine bodyPost_ret (v := .tuple #[.agg #[.int .i64 n, .int .i64 kd, .int .i64 ((dt.size : Int) + (es.length : Int))], .int .i64 0]) (by simp [results, Try.results56, go_sem, c0, c1, c2, hu]) rfl ⟨rfl, HB9.out⟩
 ·
  have hst := HST.out
  rw [if_neg he] at hst
  subst hst
  have he' : (e != 0) = true := bne_iff_ne.2 he
  clear HST he
  go_enter Try.func56, Try.ntmps56
  go_upto_region 3 with (go_at_call 71; refine (HF.out _ (HT.out.below HB0.out)).mono ?_; rintro e w2 ⟨rfl, hb2⟩)
  have h2 := (hb2.block _ (blk_lt HX0.out)).trans HX0.out
  have hB2 := HB0.out.trans (hb2.mono HB0.out.size)
  have x0 : w2.cell? ⟨w.heap.size, 0, none⟩ = some (.int .i64 0) := by rw [blk_cell h2]; rfl
  have x1 : w2.cell? ⟨w.heap.size, 1, none⟩ = some (.int .i64 0) := by rw [blk_cell h2]; rfl
  have x2 : w2.cell? ⟨w.heap.size, 2, none⟩ = some (.int .i64 0) := by rw [blk_cell h2]; rfl
  have f0 := blk_frozen h2 0
  have f1 := blk_frozen h2 1
  have f2 := blk_frozen h2 2
  have H3 := qh (three_set (u0 := .int .i64 0) (u1 := .int .i64 0) (u2 := .int .i64 0) h2)
  have HB3 := qh (((hB2.setCell (p := ⟨w.heap.size, 0, none⟩) (Nat.le_refl _) (.int .i64 0)).setCell (p := ⟨w.heap.size, 1, none⟩) (Nat.le_refl _) (.int .i64 0)).setCell (p := ⟨w.heap.size, 2, none⟩) (Nat.le_refl _) (.int .i64 0))
  clear h2 hB2 hb2
  go_wp2
  generalize ((w2.setCell ⟨w.heap.size, 0, none⟩ (.int .i64 0)).setCell ⟨w.heap.size, 1, none⟩ (.int .i64 0)).setCell ⟨w.heap.size, 2, none⟩ (.int .i64 0) = w9 at H3 HB3 ⊢
  have c0 : w9.cell? ⟨w.heap.size, 0, none⟩ = some (.int .i64 0) := by rw [blk_cell H3.out]; rfl
  have c1 : w9.cell? ⟨w.heap.size, 1, none⟩ = some (.int .i64 0) := by rw [blk_cell H3.out]; rfl
  have c2 : w9.cell? ⟨w.heap.size, 2, none⟩ = some (.int .i64 0) := by rw [blk_cell H3.out]; rfl
  refine bodyPost_ret (v := .tuple #[.agg #[.int .i64 0, .int .i64 0, .int .i64 0], .int .i64 e]) (by simp [results, Try.results56, go_sem, c0, c1, c2, hu]) rfl ⟨rfl, HB3.out⟩
theorem pstat_calls (p : Nat) (T : Tr) (s : ByteArray) (k : Nat) (R : Int × Int) (w : World) (hT : TreeAt w p T) (hO : TrOK T) (hw : wf R.1) (hR : findF T true k s = some R) :
  Calls Try.prog 37 #[pT p, .string s] w fun e w' => e = .returned (.tuple #[v3 (stT T R), .int .i64 R.2]) ∧ Below w.heap.size w w' := by
 have HS := qh (fun W h => stat_calls p T s true k R W h hO hw hR)
 have HT := qh hT
 have hu := Try.underlying62
 have HB0 := qh ((Below.refl w.heap.size w).alloc (Nat.le_refl _) (.cells #[.int .i64 0, .int .i64 0, .int .i64 0] 62))
 have HX0 := qh (heap_alloc_new w (.cells #[.int .i64 0, .int .i64 0, .int .i64 0] 62))
 generalize stT T R = st at *
 obtain ⟨a0, a1, a2⟩ := st
 generalize R.2 = e at *
 clear hT hO hw hR
 go_enter Try.func37, Try.ntmps37
 go_wp2_with (go_at_call 56; refine (HS.out _ (HT.out.below HB0.out)).mono ?_; rintro e w5 ⟨rfl, hb5⟩; have h5 := (hb5.block _ (blk_lt HX0.out)).trans HX0.out; have x0 : w5.cell? ⟨w.heap.size, 0, none⟩ = some (.int .i64 0) := (by rw [blk_cell h5]; rfl); have x1 : w5.cell? ⟨w.heap.size, 1, none⟩ = some (.int .i64 0) := (by rw [blk_cell h5]; rfl); have x2 : w5.cell? ⟨w.heap.size, 2, none⟩ = some (.int .i64 0) := (by rw [blk_cell h5]; rfl); have f0 := blk_frozen h5 0; have f1 := blk_frozen h5 1; have f2 := blk_frozen h5 2; have H5 := qh h5; have HB5 := qh (HB0.out.trans (hb5.mono HB0.out.size)); clear h5 hb5)
 have H9 := qh (three_set (u0 := .int .i64 a0) (u1 := .int .i64 a1) (u2 := .int .i64 a2) H5.out)
 have HB9 := qh (((HB5.out.setCell (p := ⟨w.heap.size, 0, none⟩) (Nat.le_refl _) (.int .i64 a0)).setCell (p := ⟨w.heap.size, 1, none⟩) (Nat.le_refl _) (.int .i64 a1)).setCell (p := ⟨w.heap.size, 2, none⟩) (Nat.le_refl _) (.int .i64 a2))
 clear x0 x1 x2
 generalize ((w5.setCell ⟨w.heap.size, 0, none⟩ (.int .i64 a0)).setCell ⟨w.heap.size, 1, none⟩ (.int .i64 a1)).setCell ⟨w.heap.size, 2, none⟩ (.int .i64 a2) = w9 at H9 HB9 ⊢
 have c0 : w9.cell? ⟨w.heap.size, 0, none⟩ = some (.int .i64 a0) := by rw [blk_cell H9.out]; rfl
 have c1 : w9.cell? ⟨w.heap.size, 1, none⟩ = some (.int .i64 a1) := by rw [blk_cell H9.out]; rfl
 have c2 : w9.cell? ⟨w.heap.size, 2, none⟩ = some (.int .i64 a2) := by rw [blk_cell H9.out]; rfl
 refine bodyPost_ret (v := .tuple #[.agg #[.int .i64 a0, .int .i64 a1, .int .i64 a2], .int .i64 e]) (by simp [results, Try.results37, go_sem, c0, c1, c2, hu]) rfl ⟨rfl, HB9.out⟩
def OnlyV (W : World) (v : Value) (kind e : Int) : Prop := ∃ g h : Nat, v = .func (.func 44) #[] #[.pointer (some ⟨g, 0, none⟩), .pointer (some ⟨h, 0, none⟩)] ∧ W.heap[g]? = some (.cells #[.int .i64 kind] 3 (0, 0)) ∧ W.heap[h]? = some (.cells #[.int .i64 e] 26 (0, 0))
theorem OnlyV.below {w W : World} {v : Value} {kind e : Int} (h : OnlyV w v kind e) (hb : Below w.heap.size w W) : OnlyV W v kind e := by
 obtain ⟨g, k, rfl, h1, h2⟩ := h
 exact ⟨g, k, rfl, (hb.block _ (blk_lt h1)).trans h1, (hb.block _ (blk_lt h2)).trans h2⟩
theorem only_calls (kind e : Int) (w : World) : Calls Try.prog 33 #[.int .i64 kind, .int .i64 e] w fun r w' => ∃ v, r = .returned v ∧ OnlyV w' v kind e ∧ Below w.heap.size w w' := by
 go_enter Try.func33, Try.ntmps33
 go_wp2
 go_ret
 have h1 := heap_alloc_new w (.cells #[.int .i64 kind] 3)
 have h2 := heap_alloc_new (w.alloc (.cells #[.int .i64 kind] 3)) (.cells #[.int .i64 e] 26)
 have e2 : (w.alloc (.cells #[.int .i64 kind] 3)).heap.size = w.heap.size + 1 := Array.size_push _
 rw [e2] at h2
 refine ⟨_, rfl, ⟨_, _, rfl, (heap_alloc_old _ _ _ (blk_lt h1)).trans h1, h2⟩, ?_⟩
 exact ((Below.refl w.heap.size w).alloc (Nat.le_refl _) _).alloc (by rw [e2]; omega) _
theorem only1_calls (k kind e : Int) (g h : Nat) (w : World) (h1 : w.heap[g]? = some (.cells #[.int .i64 kind] 3 (0, 0))) (h2 : w.heap[h]? = some (.cells #[.int .i64 e] 26 (0, 0))) :
  Calls Try.prog 44 #[.int .i64 k, .pointer (some ⟨g, 0, none⟩), .pointer (some ⟨h, 0, none⟩)] w fun r w' => r = .returned (.int .i64 (if k = kind then 0 else e)) ∧ Below w.heap.size w w' := by
 have x1 : w.cell? ⟨g, 0, none⟩ = some (.int .i64 kind) := by rw [blk_cell h1]; rfl
 have x2 : w.cell? ⟨h, 0, none⟩ = some (.int .i64 e) := by rw [blk_cell h2]; rfl
 by_cases hk : k = kind
 ·
  subst hk
  rw [if_pos rfl]
  go_enter Try.func44, Try.ntmps44
  go_wp2
  go_ret
  exact ⟨rfl, Below.refl _ _⟩
 ·
  rw [if_neg hk]
  have hk' : (k != kind) = true := bne_iff_ne.2 hk
  clear hk
  go_enter Try.func44, Try.ntmps44
  go_wp2
  go_ret
  exact ⟨rfl, Below.refl _ _⟩
def StrV (W : World) (v : Value) (l : List ByteArray) : Prop := ∃ A c, v = .slice A l.length c ∧ l.length ≤ c ∧ Kd.C Kd.string W A l.length l
theorem StrV.below {w W : World} {v : Value} {l : List ByteArray} (h : StrV w v l) (hb : Below w.heap.size w W) : StrV W v l := by
 obtain ⟨A, c, rfl, h1, h2⟩ := h
 exact ⟨A, c, rfl, h1, Kd.C_below h2 hb⟩
theorem node_rt {T : Tr} (hO : TrOK T) (n : Int) : Rt (T.node n).ents := by
 unfold Tr.node
 cases hx : T.get n with
 | none => exact List.Pairwise.nil
 | some x => exact hO.sorted n x hx
end Go.Proofs.Ytnpeeiikdcankaa.Tw

namespace Go.Proofs.Ytnpeeiikdcankaa.Tw
open Go Go.RowKit Go.Proofs Go.Proofs.Ytnpeeiikdcankaa Go.Proofs.YtnpeeiikdcankaaW.PrintWords Go.Proofs.Ytnpeeiikdcankaa.Ext Go.Proofs.Ytnpeeiikdcankaa.X Go.Proofs.Ytnpeeiikdcankaa.Pu
theorem walk_rng {L : List RN} {last : Int} (hG : GoodL L last) (hM : GoodM L) (lst : Bool) : ∀ (k : Nat) (a h : Int) (l : List ByteArray) (R : Int × Int), walkF (trOf L last) lst k a h l = some R → (atR L a).f3 ≠ 0 → R.2 = 0 → (atR L R.1).f3 ≠ 0 := by
 intro k
 induction k with
 | zero => intro a h l R hw; cases hw
 | succ k ih =>
  intro a h l R hw ha hR
  cases l with
  | nil =>
   rw [walk_nil] at hw
   obtain rfl := Option.some.inj hw
   exact ha
  | cons s l =>
   rw [walk_cons, node_of hG a] at hw
   simp only [] at hw
   split at hw
   · obtain rfl := Option.some.inj hw; cases hR
   rename_i hk
   have hk1 : (atR L a).f3 = 1 := by simpa using hk
   split at hw
   ·
    obtain ⟨r, hr, _, hat⟩ := at_kind ha
    refine ih _ _ _ _ hw ?_ hR
    rw [hat, hG.up r hr]
    decide
   split at hw
   ·
    rename_i h3
    obtain rfl := Option.some.inj hw
    exact absurd hR h3
   rename_i h3
   have hd : (atR L (downT (trOf L last) a s).1).f3 ≠ 0 := by
    rw [downT_of hG] at h3 ⊢
    split at h3
    ·
     rename_i hc
     rw [if_pos hc]
     split at h3
     · simp at h3
     ·
      rename_i h0
      rw [if_neg h0]
      obtain ⟨r, hr, _, _, _, _, hat⟩ := inR_mem hG h0
      rw [show (inR L a s, (0 : Int)).1 = inR L a s from rfl, hat]
      have := hM.kind r hr
      omega
    ·
     rename_i hc
     simp at h3
     exact absurd h3 hc
   split at hw
   · exact ih _ _ _ _ hw hd hR
   split at hw
   · obtain rfl := Option.some.inj hw; cases hR
   refine ih _ _ _ _ hw ?_ hR
   split
   ·
    obtain ⟨r, hr, h1, _, h2⟩ := hG.root
    rw [← h1, at_mem hG hr, h2]
    decide
   · exact ha
theorem find_rng {L : List RN} {last : Int} (hG : GoodL L last) (hM : GoodM L) {lst : Bool} {k : Nat} {s : ByteArray} {R : Int × Int} (h : findF (trOf L last) lst k s = some R) : (R.2 = 0 → 1 ≤ R.1 ∧ R.1 ≤ last) ∧ (R.2 ≠ 0 → R.1 = 0) := by
 have hroot : (atR L 1).f3 ≠ 0 := by
  obtain ⟨r, hr, h1, _, h2⟩ := hG.root
  rw [← h1, at_mem hG hr, h2]
  decide
 unfold findF at h
 split at h
 ·
  obtain ⟨q, hq, hr⟩ := Option.bind_eq_some_iff.1 h
  split at hr
  ·
   rename_i h0
   obtain rfl := Option.some.inj hr
   refine ⟨fun _ => ?_, fun h => absurd rfl h⟩
   obtain ⟨r, hr, h1, _⟩ := at_kind (walk_rng hG hM lst k 1 0 (partsB s) q hq hroot h0)
   have := hG.num r hr
   omega
  ·
   rename_i h0
   obtain rfl := Option.some.inj hr
   exact ⟨fun h => absurd h h0, fun _ => rfl⟩
 ·
  rename_i h0
  obtain rfl := Option.some.inj h
  exact ⟨fun h => absurd h h0, fun _ => rfl⟩
theorem find_wf {L : List RN} {last : Int} (hG : GoodL L last) (hM : GoodM L) (hla : last ≤ 1000000) {lst : Bool} {k : Nat} {s : ByteArray} {R : Int × Int} (h : findF (trOf L last) lst k s = some R) : wf R.1 := by
 obtain ⟨h1, h2⟩ := find_rng hG hM h
 by_cases h0 : R.2 = 0
 ·
  have := h1 h0
  exact wf_of (by omega)
 ·
  rw [h2 h0]
  exact wf0
section
variable {L : List RN} {last : Int} {s : ByteArray} {lst : Bool} {R : Int × Int}
end
end Go.Proofs.Ytnpeeiikdcankaa.Tw

namespace Go.Proofs.Ytnpeeiikdcankaa.Tw
open Go Go.RowKit Go.Shelf Go.Proofs Go.Proofs.Ytnpeeiikdcankaa Go.Proofs.YtnpeeiikdcankaaW.PrintWords Go.Proofs.Ytnpeeiikdcankaa.Ext Go.Proofs.Ytnpeeiikdcankaa.X Go.Proofs.Ytnpeeiikdcankaa.Pu
theorem walk_ex (T : Tr) (lst : Bool) : ∀ (d : Nat) (l : List ByteArray) (a h : Int), (40 - h).toNat ≤ d → ∃ k R, walkF T lst k a h l = some R := by
 intro d
 induction d with
 | zero =>
  intro l
  induction l with
  | nil => exact fun a h _ => ⟨1, _, rfl⟩
  | cons s l ih =>
   intro a h hd
   have h40 : 40 ≤ h := by omega
   obtain ⟨k1, R1, e1⟩ := ih (T.node a).up h hd
   obtain ⟨k2, R2, e2⟩ := ih (downT T a s).1 h hd
   by_cases c1 : (T.node a).kind ≠ 1
   · exact ⟨1, _, by unfold walkF; rw [if_pos c1]⟩
   ·
    by_cases c2 : s.toList = [46, 46]
    · exact ⟨k1 + 1, R1, by unfold walkF; rw [if_neg c1, if_pos c2, e1]⟩
    ·
     by_cases c3 : (downT T a s).2 ≠ 0
     · exact ⟨1, _, by unfold walkF; rw [if_neg c1, if_neg c2, if_pos c3]⟩
     ·
      by_cases c4 : (T.node (downT T a s).1).kind ≠ 3 ∨ (l = [] ∧ lst = false)
      · exact ⟨k2 + 1, R2, by unfold walkF; rw [if_neg c1, if_neg c2, if_neg c3, if_pos c4, e2]⟩
      · exact ⟨1, _, by unfold walkF; rw [if_neg c1, if_neg c2, if_neg c3, if_neg c4, if_pos h40]⟩
 | succ d ihd =>
  intro l
  induction l with
  | nil => exact fun a h _ => ⟨1, _, rfl⟩
  | cons s l ih =>
   intro a h hd
   obtain ⟨k1, R1, e1⟩ := ih (T.node a).up h hd
   obtain ⟨k2, R2, e2⟩ := ih (downT T a s).1 h hd
   by_cases c1 : (T.node a).kind ≠ 1
   · exact ⟨1, _, by unfold walkF; rw [if_pos c1]⟩
   ·
    by_cases c2 : s.toList = [46, 46]
    · exact ⟨k1 + 1, R1, by unfold walkF; rw [if_neg c1, if_pos c2, e1]⟩
    ·
     by_cases c3 : (downT T a s).2 ≠ 0
     · exact ⟨1, _, by unfold walkF; rw [if_neg c1, if_neg c2, if_pos c3]⟩
     ·
      by_cases c4 : (T.node (downT T a s).1).kind ≠ 3 ∨ (l = [] ∧ lst = false)
      · exact ⟨k2 + 1, R2, by unfold walkF; rw [if_neg c1, if_neg c2, if_neg c3, if_pos c4, e2]⟩
      ·
       by_cases c5 : 40 ≤ h
       · exact ⟨1, _, by unfold walkF; rw [if_neg c1, if_neg c2, if_neg c3, if_neg c4, if_pos c5]⟩
       ·
        obtain ⟨k3, R3, e3⟩ := ihd (partsB (T.node (downT T a s).1).data ++ l) (if slashB (T.node (downT T a s).1).data = true then 1 else a) (h + 1) (by omega)
        exact ⟨k3 + 1, R3, by unfold walkF; rw [if_neg c1, if_neg c2, if_neg c3, if_neg c4, if_neg c5, e3]⟩
theorem spot_ex (T : Tr) (s : ByteArray) : ∃ k R, spotF T k s = some R := by
 unfold spotF
 by_cases h0 : beginE s = 0
 ·
  simp only [if_pos h0]
  cases hl : (partsB s).getLast? with
  | none => exact ⟨0, _, rfl⟩
  | some z =>
   simp only []
   by_cases h1 : z.toList = [46, 46]
   · exact ⟨0, _, if_pos h1⟩
   ·
    obtain ⟨k, R, e⟩ := walk_ex T true 40 (partsB s).dropLast 1 0 (by decide)
    refine ⟨k, ?_⟩
    rw [if_neg h1, e]
    simp only [Option.bind_some]
    split
    ·
     split
     ·
      split
      · exact ⟨_, rfl⟩
      · exact ⟨_, rfl⟩
     · exact ⟨_, rfl⟩
    · exact ⟨_, rfl⟩
 · exact ⟨0, _, if_neg h0⟩
theorem find_ex (T : Tr) (lst : Bool) (s : ByteArray) : ∃ k R, findF T lst k s = some R := by
 unfold findF
 by_cases h0 : beginE s = 0
 ·
  obtain ⟨k, R, e⟩ := walk_ex T lst 40 (partsB s) 1 0 (by decide)
  refine ⟨k, ?_⟩
  rw [if_pos h0, e]
  simp only [Option.bind_some]
  split
  · exact ⟨_, rfl⟩
  · exact ⟨_, rfl⟩
 · exact ⟨0, _, if_neg h0⟩
noncomputable def spotV (L : List RN) (last : Int) (s : ByteArray) : R3 := @Classical.epsilon R3 ⟨noS 0⟩ (fun R => ∃ k, spotF (trOf L last) k s = some R)
noncomputable def findV (L : List RN) (last : Int) (lst : Bool) (s : ByteArray) : Int × Int := @Classical.epsilon (Int × Int) ⟨(0, 0)⟩ (fun R => ∃ k, findF (trOf L last) lst k s = some R)
theorem spotV_spec {L : List RN} {last : Int} (hG : GoodL L last) (hM : GoodM L) (s : ByteArray) : ∃ k, spotF (trOf L last) k s = some (spotV L last s) := by
 obtain ⟨k, R, h⟩ := spot_ex (trOf L last) s
 exact @Classical.epsilon_spec R3 (fun R => ∃ k, spotF (trOf L last) k s = some R) ⟨R, k, h⟩
theorem findV_spec {L : List RN} {last : Int} (hG : GoodL L last) (hM : GoodM L) (lst : Bool) (s : ByteArray) : ∃ k, findF (trOf L last) lst k s = some (findV L last lst s) := by
 obtain ⟨k, R, h⟩ := find_ex (trOf L last) lst s
 exact @Classical.epsilon_spec (Int × Int) (fun R => ∃ k, findF (trOf L last) lst k s = some R) ⟨R, k, h⟩
theorem spotF_wf {T : Tr} (hO : TrOK T) {k : Nat} {s : ByteArray} {R : R3} (h : spotF T k s = some R) : wf R.1 ∧ R.2.1.size ≤ 1024 := by
 unfold spotF at h
 by_cases h0 : beginE s = 0
 ·
  rw [if_pos h0] at h
  have hz := (beginE_ok h0).1
  cases hl : (partsB s).getLast? with
  | none => rw [hl] at h; cases h; exact ⟨wf0, Nat.zero_le _⟩
  | some z =>
   rw [hl] at h
   have hzm : z ∈ partsB s := List.mem_of_getLast? hl
   have hzz := partsB_sz s z hzm
   simp only [] at h
   split at h
   · cases h; exact ⟨wf0, Nat.zero_le _⟩
   ·
    obtain ⟨r, hr, h⟩ := Option.bind_eq_some_iff.1 h
    have hwr := walkF_wf hO true k 1 0 _ r wf1 hr
    split at h
    ·
     split at h
     ·
      split at h
      · cases h; exact ⟨hwr, by show z.size ≤ 1024; omega⟩
      · cases h; exact ⟨wf0, Nat.zero_le _⟩
     · cases h; exact ⟨wf0, Nat.zero_le _⟩
    · cases h; exact ⟨wf0, Nat.zero_le _⟩
 ·
  rw [if_neg h0] at h
  cases h
  exact ⟨wf0, Nat.zero_le _⟩
abbrev Op3 := List RN × Int × Int
noncomputable def mkP (L : List RN) (last : Int) (s : ByteArray) (kind : Int) (data : ByteArray) : Op3 :=
 if (spotV L last s).2.2 ≠ 0 then (L, last, (spotV L last s).2.2) else
  (putL L last (spotV L last s).1 (spotV L last s).2.1 kind data, putN L last (spotV L last s).1 (spotV L last s).2.1 kind data, putRE L (spotV L last s).1 (spotV L last s).2.1 kind data)
def mayK (dir : Bool) (k : Int) : Int := if dir = true then (if k = 1 then 0 else 7) else (if k = 1 then 8 else 0)
noncomputable def cutP (L : List RN) (last : Int) (s : ByteArray) (dir : Bool) : Op3 :=
 if (spotV L last s).2.2 ≠ 0 then (L, last, (spotV L last s).2.2) else
  if inR L (spotV L last s).1 (spotV L last s).2.1 = 0 then (L, last, 5) else
   if mayK dir (atR L (inR L (spotV L last s).1 (spotV L last s).2.1)).f3 ≠ 0 then (L, last, mayK dir (atR L (inR L (spotV L last s).1 (spotV L last s).2.1)).f3) else
    (cutS L (spotV L last s).1 (spotV L last s).2.1, last, cutRE L (spotV L last s).1 (spotV L last s).2.1)
noncomputable def renP (L : List RN) (last : Int) (a b : ByteArray) : Op3 :=
 if (spotV L last a).2.2 ≠ 0 then (L, last, (spotV L last a).2.2) else if (spotV L last b).2.2 ≠ 0 then (L, last, (spotV L last b).2.2) else
  (movM L last (spotV L last a).1 (spotV L last a).2.1 (spotV L last b).1 (spotV L last b).2.1, last, movP L last (spotV L last a).1 (spotV L last a).2.1 (spotV L last b).1 (spotV L last b).2.1)
noncomputable def wrP (L : List RN) (last : Int) (s data : ByteArray) : Op3 :=
 if (findV L last true s).2 = 0 then (setS L (findV L last true s).1 data, last, setRE L (findV L last true s).1 data) else
  if (findV L last true s).2 ≠ 5 then (L, last, (findV L last true s).2) else
   if (spotV L last s).2.2 ≠ 0 then (L, last, (spotV L last s).2.2) else
    if inR L (spotV L last s).1 (spotV L last s).2.1 ≠ 0 then (L, last, 5) else
     (putL L last (spotV L last s).1 (spotV L last s).2.1 2 data, putN L last (spotV L last s).1 (spotV L last s).2.1 2 data, putRE L (spotV L last s).1 (spotV L last s).2.1 2 data)
noncomputable def doP (L : List RN) (last k : Int) (a b : ByteArray) : Op3 :=
 if k = 1 then mkP L last a 1 ⟨#[]⟩ else if k = 2 then cutP L last a true else if k = 3 then mkP L last a 3 b else if k = 4 then cutP L last a false else if k = 5 then renP L last a b else if k = 6 then wrP L last a b else (L, last, 2)
structure Fine (L : List RN) (last : Int) (o : Op3) : Prop where
 good : GoodL o.1 o.2.1
 goodm : GoodM o.1
 lst : o.2.1 ≤ last + 1
 same : o.2.2 ≠ 0 → o.1 = L ∧ o.2.1 = last
theorem fine_err {L : List RN} {last e : Int} (hG : GoodL L last) (hM : GoodM L) : Fine L last (L, last, e) := ⟨hG, hM, by show last ≤ last + 1; omega, fun _ => ⟨rfl, rfl⟩⟩
theorem fine_put {L : List RN} {last d : Int} {s : ByteArray} {kind : Int} {data : ByteArray} (hG : GoodL L last) (hM : GoodM L) : Fine L last (putL L last d s kind data, putN L last d s kind data, putRE L d s kind data) := by
 refine ⟨good_put hG, goodM_put hG hM, ?_, fun h => ?_⟩
 ·
  show putN L last d s kind data ≤ last + 1
  unfold putN
  split
  · omega
  · omega
 ·
  show putL L last d s kind data = L ∧ putN L last d s kind data = last
  unfold putL putN
  rw [if_neg h, if_neg h]
  exact ⟨rfl, rfl⟩
theorem fine_mk {L : List RN} {last : Int} (hG : GoodL L last) (hM : GoodM L) (s : ByteArray) (kind : Int) (data : ByteArray) : Fine L last (mkP L last s kind data) := by
 unfold mkP
 split
 · exact fine_err hG hM
 · exact fine_put hG hM
theorem fine_cut {L : List RN} {last : Int} (hG : GoodL L last) (hM : GoodM L) (s : ByteArray) (dir : Bool) : Fine L last (cutP L last s dir) := by
 unfold cutP
 split
 · exact fine_err hG hM
 ·
  split
  · exact fine_err hG hM
  ·
   split
   · exact fine_err hG hM
   ·
    have := good_cut hG hM (spotV L last s).1 (spotV L last s).2.1
    refine ⟨this.1, this.2, by show last ≤ last + 1; omega, fun h => ⟨?_, rfl⟩⟩
    show cutS _ _ _ = L
    unfold cutS
    rw [if_neg h]
theorem fine_ren {L : List RN} {last : Int} (hG : GoodL L last) (hM : GoodM L) (a b : ByteArray) : Fine L last (renP L last a b) := by
 unfold renP
 split
 · exact fine_err hG hM
 ·
  split
  · exact fine_err hG hM
  ·
   have := good_mov hG hM (spotV L last a).1 (spotV L last a).2.1 (spotV L last b).1 (spotV L last b).2.1
   refine ⟨this.1, this.2, by show last ≤ last + 1; omega, fun h => ⟨?_, rfl⟩⟩
   show movM _ _ _ _ _ _ = L
   unfold movM
   rw [if_neg (fun q => h q.1)]
theorem fine_wr {L : List RN} {last : Int} (hG : GoodL L last) (hM : GoodM L) (s data : ByteArray) : Fine L last (wrP L last s data) := by
 unfold wrP
 split
 ·
  have := good_set hG hM (findV L last true s).1 data
  refine ⟨this.1, this.2, by show last ≤ last + 1; omega, fun h => ⟨?_, rfl⟩⟩
  show setS _ _ _ = L
  unfold setS
  rw [if_neg h]
 ·
  split
  · exact fine_err hG hM
  ·
   split
   · exact fine_err hG hM
   ·
    split
    · exact fine_err hG hM
    · exact fine_put hG hM
theorem fine_do {L : List RN} {last : Int} (hG : GoodL L last) (hM : GoodM L) (k : Int) (a b : ByteArray) : Fine L last (doP L last k a b) := by
 unfold doP
 split
 · exact fine_mk hG hM _ _ _
 ·
  split
  · exact fine_cut hG hM _ _
  ·
   split
   · exact fine_mk hG hM _ _ _
   ·
    split
    · exact fine_cut hG hM _ _
    ·
     split
     · exact fine_ren hG hM _ _
     ·
      split
      · exact fine_wr hG hM _ _
      · exact fine_err hG hM
def Left (p B : Nat) (w : World) (o : Op3) (e : Ending) (w' : World) : Prop := e = .returned (.int .i64 o.2.2) ∧ TreeB w' p B (trOf o.1 o.2.1) ∧ Frm w w' p B
theorem left_err {p B : Nat} {w w' : World} {L : List RN} {last e : Int} (h : TreeB w p B (trOf L last)) (hb : Below w.heap.size w w') : Left p B w (L, last, e) (.returned (.int .i64 e)) w' := ⟨rfl, h.below hb, Frm.ofBelow hb⟩
theorem put9_calls (p B : Nat) (L : List RN) (last : Int) (s : ByteArray) (kind : Int) (data : ByteArray) (w : World) (h : TreeB w p B (trOf L last)) (hG : GoodL L last) (hM : GoodM L) (hla : last < 1000000) :
  Calls Try.prog 31 #[pT p, .string s, .int .i64 kind, .string data] w (Left p B w (mkP L last s kind data)) := by
 have hO := trOK hG (by omega)
 obtain ⟨k, hk⟩ := spotV_spec hG hM s
 obtain ⟨hw, hz⟩ := spotF_wf hO hk
 have HP := qh (fun W h => spot_calls p (trOf L last) s k _ W h hO hk)
 have HU := qh (fun W h => tput_calls p B L last (spotV L last s).1 (spotV L last s).2.1 kind data W h hG hw (by omega) hla)
 have HT := qh h
 unfold mkP
 generalize putA L last (spotV L last s).1 (spotV L last s).2.1 kind data = pa at *
 generalize putRE L (spotV L last s).1 (spotV L last s).2.1 kind data = pe at *
 generalize hpl : putL L last (spotV L last s).1 (spotV L last s).2.1 kind data = pl at *
 generalize hpn : putN L last (spotV L last s).1 (spotV L last s).2.1 kind data = pn at *
 generalize spotV L last s = R at *
 obtain ⟨d, z, e⟩ := R
 simp only [] at *
 clear h hO hG hM hla hk hw hz hpl hpn
 by_cases he : e = 0
 ·
  subst he
  rw [if_neg (by simp)]
  go_enter Try.func31, Try.ntmps31
  go_wp2_with (first
   | (go_at_call 35; refine (HP.out _ HT.out.at_).mono ?_; rintro e w3 ⟨rfl, hb3⟩)
   | (go_at_call 41; refine (HU.out _ (HT.out.below hb3)).mono ?_; rintro e w6 ⟨rfl, hT6, hf6⟩))
  go_ret
  exact ⟨rfl, hT6, (Frm.ofBelow hb3).trans hf6⟩
 ·
  rw [if_pos he]
  have b1 : (e != 0) = true := bne_iff_ne.2 he
  clear he
  go_enter Try.func31, Try.ntmps31
  go_wp2_with (go_at_call 35; refine (HP.out _ HT.out.at_).mono ?_; rintro e w3 ⟨rfl, hb3⟩)
  go_ret
  exact left_err HT.out hb3
theorem mkdir9_calls (p B : Nat) (L : List RN) (last : Int) (s : ByteArray) (w : World) (h : TreeB w p B (trOf L last)) (hG : GoodL L last) (hM : GoodM L) (hla : last < 1000000) :
  Calls Try.prog 20 #[pT p, .string s] w (Left p B w (mkP L last s 1 ⟨#[]⟩)) := by
 have HP := qh (put9_calls p B L last s 1 ⟨#[]⟩ w h hG hM hla)
 generalize mkP L last s 1 ⟨#[]⟩ = o at *
 clear h hG hM hla
 go_enter Try.func20, Try.ntmps20
 go_wp2_with (go_at_call 31; refine HP.out.mono ?_; rintro e w3 ⟨rfl, hT, hF⟩)
 go_ret
 exact ⟨rfl, hT, hF⟩
theorem symlink9_calls (p B : Nat) (L : List RN) (last : Int) (data s : ByteArray) (w : World) (h : TreeB w p B (trOf L last)) (hG : GoodL L last) (hM : GoodM L) (hla : last < 1000000) :
  Calls Try.prog 24 #[pT p, .string data, .string s] w (Left p B w (mkP L last s 3 data)) := by
 have HP := qh (put9_calls p B L last s 3 data w h hG hM hla)
 generalize mkP L last s 3 data = o at *
 clear h hG hM hla
 go_enter Try.func24, Try.ntmps24
 go_wp2_with (go_at_call 31; refine HP.out.mono ?_; rintro e w3 ⟨rfl, hT, hF⟩)
 go_ret
 exact ⟨rfl, hT, hF⟩
theorem rename9_calls (p B : Nat) (L : List RN) (last : Int) (a b : ByteArray) (w : World) (h : TreeB w p B (trOf L last)) (hG : GoodL L last) (hM : GoodM L) (hla : last < 1000000) :
  Calls Try.prog 26 #[pT p, .string a, .string b] w (Left p B w (renP L last a b)) := by
 have hO := trOK hG (by omega)
 obtain ⟨k, hk⟩ := spotV_spec hG hM a
 obtain ⟨hw, hz⟩ := spotF_wf hO hk
 obtain ⟨k2, hk2⟩ := spotV_spec hG hM b
 obtain ⟨hw2, hz2⟩ := spotF_wf hO hk2
 have HP := qh (fun W h => spot_calls p (trOf L last) a k _ W h hO hk)
 have HP2 := qh (fun W h => spot_calls p (trOf L last) b k2 _ W h hO hk2)
 have HU := qh (fun W h => tmove_calls p B L last (spotV L last a).1 (spotV L last a).2.1 (spotV L last b).1 (spotV L last b).2.1 W h hG hM hw hw2 (by omega) (by omega))
 have HT := qh h
 unfold renP
 generalize movP L last (spotV L last a).1 (spotV L last a).2.1 (spotV L last b).1 (spotV L last b).2.1 = pe at *
 generalize hpl : movM L last (spotV L last a).1 (spotV L last a).2.1 (spotV L last b).1 (spotV L last b).2.1 = pl at *
 generalize spotV L last a = R at *
 generalize spotV L last b = R2 at *
 obtain ⟨d, z, e⟩ := R
 obtain ⟨d2, z2, e2⟩ := R2
 simp only [] at *
 clear h hO hG hM hla hk hw hz hk2 hw2 hz2 hpl
 have tk1 : True := trivial
 by_cases he : e = 0
 ·
  subst he
  rw [if_neg (by simp)]
  by_cases he2 : e2 = 0
  ·
   subst he2
   rw [if_neg (by simp)]
   go_enter Try.func26, Try.ntmps26
   go_upto_region 2 with (go_at_call 35; refine (HP.out _ HT.out.at_).mono ?_; rintro e w3 ⟨rfl, hb3⟩)
   go_wp2_with (first
    | (go_at_call 35; refine (HP2.out _ (HT.out.below hb3).at_).mono ?_; rintro e w4 ⟨rfl, hb4⟩)
    | (go_at_call 36; refine (HU.out _ ((HT.out.below hb3).below hb4)).mono ?_; rintro e w6 ⟨rfl, hT6, hf6⟩))
   go_ret
   exact ⟨rfl, hT6, (Frm.ofBelow (hb3.trans (hb4.mono hb3.size))).trans hf6⟩
  ·
   rw [if_pos he2]
   have b1 : (e2 != 0) = true := bne_iff_ne.2 he2
   clear he2
   go_enter Try.func26, Try.ntmps26
   go_upto_region 2 with (go_at_call 35; refine (HP.out _ HT.out.at_).mono ?_; rintro e w3 ⟨rfl, hb3⟩)
   go_wp2_with (go_at_call 35; refine (HP2.out _ (HT.out.below hb3).at_).mono ?_; rintro e w4 ⟨rfl, hb4⟩)
   go_ret
   exact left_err HT.out (hb3.trans (hb4.mono hb3.size))
 ·
  rw [if_pos he]
  have b1 : (e != 0) = true := bne_iff_ne.2 he
  clear he
  go_enter Try.func26, Try.ntmps26
  go_wp2_with (go_at_call 35; refine (HP.out _ HT.out.at_).mono ?_; rintro e w3 ⟨rfl, hb3⟩)
  go_ret
  exact left_err HT.out hb3
theorem unlink1_calls (k : Int) (w : World) : Calls Try.prog 34 #[.int .i64 k] w fun r w' => r = .returned (.int .i64 (if k = 1 then 8 else 0)) ∧ Below w.heap.size w w' := by
 by_cases hk : k = 1
 ·
  subst hk
  rw [if_pos rfl]
  go_enter Try.func34, Try.ntmps34
  go_wp2
  go_ret
  exact ⟨rfl, Below.refl _ _⟩
 ·
  rw [if_neg hk]
  have hk' : (k == 1) = false := beq_eq_false_iff_ne.2 hk
  clear hk
  go_enter Try.func34, Try.ntmps34
  go_wp2
  go_ret
  exact ⟨rfl, Below.refl _ _⟩
theorem cutR_calls (p B : Nat) (L : List RN) (last : Int) (s : ByteArray) (v : Value) (w : World) (h : TreeB w p B (trOf L last)) (hG : GoodL L last) (hM : GoodM L) (hla : last < 1000000) (hv : OnlyV w v 1 7) :
  Calls Try.prog 32 #[pT p, .string s, v] w (Left p B w (cutP L last s true)) := by
 have hO := trOK hG (by omega)
 obtain ⟨k, hk⟩ := spotV_spec hG hM s
 obtain ⟨hw, hz⟩ := spotF_wf hO hk
 have HP := qh (fun W h => spot_calls p (trOf L last) s k _ W h hO hk)
 have HL := qh (fun W h => list_calls p (trOf L last) (spotV L last s).1 W h hw (hO.small.node _))
 have HE := qh (fun A c W h hc => find_calls A c ((trOf L last).node (spotV L last s).1).ents (spotV L last s).2.1 W h hc (hO.small.node _) (node_rt hO _))
 rw [node_of hG (spotV L last s).1] at HE HL
 simp only [find_ents hG (spotV L last s).1 (spotV L last s).2.1] at HE
 have hwn := hO.wf_find (spotV L last s).1 (spotV L last s).2.1
 rw [node_of hG (spotV L last s).1] at hwn
 simp only [find_ents hG (spotV L last s).1 (spotV L last s).2.1] at hwn
 have HK := qh (fun W h => kind_calls p (trOf L last) (inR L (spotV L last s).1 (spotV L last s).2.1) W h hwn)
 rw [node_of hG (inR L (spotV L last s).1 (spotV L last s).2.1)] at HK
 simp only [] at HK HL
 have HU := qh (fun W h => tcut_calls p B L last (spotV L last s).1 (spotV L last s).2.1 W h hG hw (by omega))
 have HT := qh h
 have hin := inR_le hG (spotV L last s).1 (spotV L last s).2.1
 obtain ⟨gg, gh, rfl, h1, h2⟩ := hv
 have HO0 := qh (fun x W q1 q2 => only1_calls x 1 7 gg gh W q1 q2)
 have HV := qh (And.intro h1 h2)
 clear h1 h2
 unfold cutP
 generalize cutRE L (spotV L last s).1 (spotV L last s).2.1 = ce at *
 generalize hcs : cutS L (spotV L last s).1 (spotV L last s).2.1 = cs at *
 generalize (atR L (inR L (spotV L last s).1 (spotV L last s).2.1)).f3 = kd at *
 generalize inR L (spotV L last s).1 (spotV L last s).2.1 = n at *
 generalize entsOf L (spotV L last s).1 = es at *
 generalize spotV L last s = R at *
 obtain ⟨d, z, e⟩ := R
 simp only [] at *
 clear h hO hG hM hla hk hw hz hcs hwn
 by_cases he : e = 0
 ·
  subst he
  rw [if_neg (by simp)]
  by_cases hn : n = 0
  ·
   subst hn
   rw [if_pos rfl]
   rw [show decide ((0 : Int) < 0) = false from rfl] at HE
   clear HK HU hin
   go_enter Try.func32, Try.ntmps32
   go_wp2_with (first
    | (go_at_call 35; refine (HP.out _ HT.out.at_).mono ?_; rintro e w3 ⟨rfl, hb3⟩; have HB3 := qh hb3; have HT3 := qh (HT.out.below hb3); clear hb3)
    | (go_at_call 40; refine (HL.out _ HT3.out.at_).mono ?_; rintro e w4 ⟨v, rfl, hv, hb4⟩; obtain ⟨A4, c4, rfl, hl4, hC4⟩ := Kd.R_reads hv; have HB4 := qh (HB3.out.trans (hb4.mono HB3.out.size)); have HC4 := qh hC4; clear hv hb4 hC4)
    | (go_at_call 39; refine (HE.out _ _ _ HC4.out hl4).mono ?_; rintro e w5 ⟨rfl, hb5⟩; have HB5 := qh (HB4.out.trans (hb5.mono HB4.out.size)); have HT5 := qh (HT.out.below HB5.out); clear hb5))
   go_ret
   exact left_err HT.out HB5.out
  ·
   rw [if_neg hn]
   rw [decide_eq_true (show 0 < n by omega)] at HE
   by_cases hk1 : kd = 1
   ·
    subst hk1
    have hm : mayK true 1 = 0 := rfl
    rw [hm, if_neg (by simp)]
    have HO := qh (fun W q1 q2 => HO0.out 1 W q1 q2)
    rw [if_pos rfl] at HO
    clear HO0 hm
    clear hin hn
    go_enter Try.func32, Try.ntmps32
    go_wp2_with (first
     | (go_at_call 35; refine (HP.out _ HT.out.at_).mono ?_; rintro e w3 ⟨rfl, hb3⟩; have HB3 := qh hb3; have HT3 := qh (HT.out.below hb3); clear hb3)
     | (go_at_call 40; refine (HL.out _ HT3.out.at_).mono ?_; rintro e w4 ⟨v, rfl, hv, hb4⟩; obtain ⟨A4, c4, rfl, hl4, hC4⟩ := Kd.R_reads hv; have HB4 := qh (HB3.out.trans (hb4.mono HB3.out.size)); have HC4 := qh hC4; clear hv hb4 hC4)
     | (go_at_call 39; refine (HE.out _ _ _ HC4.out hl4).mono ?_; rintro e w5 ⟨rfl, hb5⟩; have HB5 := qh (HB4.out.trans (hb5.mono HB4.out.size)); have HT5 := qh (HT.out.below HB5.out); clear hb5)
     | (go_at_call 42; refine (HK.out _ HT5.out.at_).mono ?_; rintro e w6 ⟨rfl, hb6⟩; have HB6 := qh (HB5.out.trans (hb6.mono HB5.out.size)); have HT6 := qh (HT.out.below HB6.out); clear hb6)
     | (go_at_call 44; refine (HO.out _ ((HB6.out.block _ (blk_lt HV.out.1)).trans HV.out.1) ((HB6.out.block _ (blk_lt HV.out.2)).trans HV.out.2)).mono ?_; rintro e w7 ⟨rfl, hb7⟩; have HB7 := qh (HB6.out.trans (hb7.mono HB6.out.size)); have HT7 := qh (HT.out.below HB7.out); clear hb7)
     | (go_at_call 43; refine (HU.out _ HT7.out).mono ?_; rintro e w8 ⟨rfl, hT8, hF8⟩))
    go_ret
    exact ⟨rfl, hT8, (Frm.ofBelow HB7.out).trans hF8⟩
   ·
    have hm : mayK true kd = 7 := by unfold mayK; rw [if_pos rfl, if_neg hk1]
    rw [hm, if_pos (by simp)]
    have HO := qh (fun W q1 q2 => HO0.out kd W q1 q2)
    rw [if_neg hk1] at HO
    clear HO0 hm hk1
    clear hin hn HU
    go_enter Try.func32, Try.ntmps32
    go_wp2_with (first
     | (go_at_call 35; refine (HP.out _ HT.out.at_).mono ?_; rintro e w3 ⟨rfl, hb3⟩; have HB3 := qh hb3; have HT3 := qh (HT.out.below hb3); clear hb3)
     | (go_at_call 40; refine (HL.out _ HT3.out.at_).mono ?_; rintro e w4 ⟨v, rfl, hv, hb4⟩; obtain ⟨A4, c4, rfl, hl4, hC4⟩ := Kd.R_reads hv; have HB4 := qh (HB3.out.trans (hb4.mono HB3.out.size)); have HC4 := qh hC4; clear hv hb4 hC4)
     | (go_at_call 39; refine (HE.out _ _ _ HC4.out hl4).mono ?_; rintro e w5 ⟨rfl, hb5⟩; have HB5 := qh (HB4.out.trans (hb5.mono HB4.out.size)); have HT5 := qh (HT.out.below HB5.out); clear hb5)
     | (go_at_call 42; refine (HK.out _ HT5.out.at_).mono ?_; rintro e w6 ⟨rfl, hb6⟩; have HB6 := qh (HB5.out.trans (hb6.mono HB5.out.size)); have HT6 := qh (HT.out.below HB6.out); clear hb6)
     | (go_at_call 44; refine (HO.out _ ((HB6.out.block _ (blk_lt HV.out.1)).trans HV.out.1) ((HB6.out.block _ (blk_lt HV.out.2)).trans HV.out.2)).mono ?_; rintro e w7 ⟨rfl, hb7⟩; have HB7 := qh (HB6.out.trans (hb7.mono HB6.out.size)); have HT7 := qh (HT.out.below HB7.out); clear hb7))
    go_ret
    exact left_err HT.out HB7.out
 ·
  rw [if_pos he]
  have b1 : (e != 0) = true := bne_iff_ne.2 he
  clear he
  go_enter Try.func32, Try.ntmps32
  go_wp2_with (go_at_call 35; refine (HP.out _ HT.out.at_).mono ?_; rintro e w3 ⟨rfl, hb3⟩; have HB3 := qh hb3; have HT3 := qh (HT.out.below hb3); clear hb3)
  go_ret
  exact left_err HT.out HB3.out
theorem cutU_calls (p B : Nat) (L : List RN) (last : Int) (s : ByteArray) (w : World) (h : TreeB w p B (trOf L last)) (hG : GoodL L last) (hM : GoodM L) (hla : last < 1000000) :
  Calls Try.prog 32 #[pT p, .string s, .func (.func 34) #[] #[]] w (Left p B w (cutP L last s false)) := by
 have hO := trOK hG (by omega)
 obtain ⟨k, hk⟩ := spotV_spec hG hM s
 obtain ⟨hw, hz⟩ := spotF_wf hO hk
 have HP := qh (fun W h => spot_calls p (trOf L last) s k _ W h hO hk)
 have HL := qh (fun W h => list_calls p (trOf L last) (spotV L last s).1 W h hw (hO.small.node _))
 have HE := qh (fun A c W h hc => find_calls A c ((trOf L last).node (spotV L last s).1).ents (spotV L last s).2.1 W h hc (hO.small.node _) (node_rt hO _))
 rw [node_of hG (spotV L last s).1] at HE HL
 simp only [find_ents hG (spotV L last s).1 (spotV L last s).2.1] at HE
 have hwn := hO.wf_find (spotV L last s).1 (spotV L last s).2.1
 rw [node_of hG (spotV L last s).1] at hwn
 simp only [find_ents hG (spotV L last s).1 (spotV L last s).2.1] at hwn
 have HK := qh (fun W h => kind_calls p (trOf L last) (inR L (spotV L last s).1 (spotV L last s).2.1) W h hwn)
 rw [node_of hG (inR L (spotV L last s).1 (spotV L last s).2.1)] at HK
 simp only [] at HK HL
 have HU := qh (fun W h => tcut_calls p B L last (spotV L last s).1 (spotV L last s).2.1 W h hG hw (by omega))
 have HT := qh h
 have hin := inR_le hG (spotV L last s).1 (spotV L last s).2.1
 unfold cutP
 generalize cutRE L (spotV L last s).1 (spotV L last s).2.1 = ce at *
 generalize hcs : cutS L (spotV L last s).1 (spotV L last s).2.1 = cs at *
 generalize (atR L (inR L (spotV L last s).1 (spotV L last s).2.1)).f3 = kd at *
 generalize inR L (spotV L last s).1 (spotV L last s).2.1 = n at *
 generalize entsOf L (spotV L last s).1 = es at *
 generalize spotV L last s = R at *
 obtain ⟨d, z, e⟩ := R
 simp only [] at *
 clear h hO hG hM hla hk hw hz hcs hwn
 by_cases he : e = 0
 ·
  subst he
  rw [if_neg (by simp)]
  by_cases hn : n = 0
  ·
   subst hn
   rw [if_pos rfl]
   rw [show decide ((0 : Int) < 0) = false from rfl] at HE
   clear HK HU hin
   go_enter Try.func32, Try.ntmps32
   go_wp2_with (first
    | (go_at_call 35; refine (HP.out _ HT.out.at_).mono ?_; rintro e w3 ⟨rfl, hb3⟩; have HB3 := qh hb3; have HT3 := qh (HT.out.below hb3); clear hb3)
    | (go_at_call 40; refine (HL.out _ HT3.out.at_).mono ?_; rintro e w4 ⟨v, rfl, hv, hb4⟩; obtain ⟨A4, c4, rfl, hl4, hC4⟩ := Kd.R_reads hv; have HB4 := qh (HB3.out.trans (hb4.mono HB3.out.size)); have HC4 := qh hC4; clear hv hb4 hC4)
    | (go_at_call 39; refine (HE.out _ _ _ HC4.out hl4).mono ?_; rintro e w5 ⟨rfl, hb5⟩; have HB5 := qh (HB4.out.trans (hb5.mono HB4.out.size)); have HT5 := qh (HT.out.below HB5.out); clear hb5))
   go_ret
   exact left_err HT.out HB5.out
  ·
   rw [if_neg hn]
   rw [decide_eq_true (show 0 < n by omega)] at HE
   by_cases hk1 : kd = 1
   ·
    subst hk1
    have hm : mayK false 1 = 8 := rfl
    rw [hm, if_pos (by simp)]
    have HO := qh (fun W => unlink1_calls 1 W)
    rw [if_pos rfl] at HO
    clear hm
    clear hin hn HU
    go_enter Try.func32, Try.ntmps32
    go_wp2_with (first
     | (go_at_call 35; refine (HP.out _ HT.out.at_).mono ?_; rintro e w3 ⟨rfl, hb3⟩; have HB3 := qh hb3; have HT3 := qh (HT.out.below hb3); clear hb3)
     | (go_at_call 40; refine (HL.out _ HT3.out.at_).mono ?_; rintro e w4 ⟨v, rfl, hv, hb4⟩; obtain ⟨A4, c4, rfl, hl4, hC4⟩ := Kd.R_reads hv; have HB4 := qh (HB3.out.trans (hb4.mono HB3.out.size)); have HC4 := qh hC4; clear hv hb4 hC4)
     | (go_at_call 39; refine (HE.out _ _ _ HC4.out hl4).mono ?_; rintro e w5 ⟨rfl, hb5⟩; have HB5 := qh (HB4.out.trans (hb5.mono HB4.out.size)); have HT5 := qh (HT.out.below HB5.out); clear hb5)
     | (go_at_call 42; refine (HK.out _ HT5.out.at_).mono ?_; rintro e w6 ⟨rfl, hb6⟩; have HB6 := qh (HB5.out.trans (hb6.mono HB5.out.size)); have HT6 := qh (HT.out.below HB6.out); clear hb6)
     | (go_at_call 34; refine (HO.out _).mono ?_; rintro e w7 ⟨rfl, hb7⟩; have HB7 := qh (HB6.out.trans (hb7.mono HB6.out.size)); have HT7 := qh (HT.out.below HB7.out); clear hb7))
    go_ret
    exact left_err HT.out HB7.out
   ·
    have hm : mayK false kd = 0 := by unfold mayK; rw [if_neg (by simp), if_neg hk1]
    rw [hm, if_neg (by simp)]
    have HO := qh (fun W => unlink1_calls kd W)
    rw [if_neg hk1] at HO
    clear hm hk1
    clear hin hn
    go_enter Try.func32, Try.ntmps32
    go_wp2_with (first
     | (go_at_call 35; refine (HP.out _ HT.out.at_).mono ?_; rintro e w3 ⟨rfl, hb3⟩; have HB3 := qh hb3; have HT3 := qh (HT.out.below hb3); clear hb3)
     | (go_at_call 40; refine (HL.out _ HT3.out.at_).mono ?_; rintro e w4 ⟨v, rfl, hv, hb4⟩; obtain ⟨A4, c4, rfl, hl4, hC4⟩ := Kd.R_reads hv; have HB4 := qh (HB3.out.trans (hb4.mono HB3.out.size)); have HC4 := qh hC4; clear hv hb4 hC4)
     | (go_at_call 39; refine (HE.out _ _ _ HC4.out hl4).mono ?_; rintro e w5 ⟨rfl, hb5⟩; have HB5 := qh (HB4.out.trans (hb5.mono HB4.out.size)); have HT5 := qh (HT.out.below HB5.out); clear hb5)
     | (go_at_call 42; refine (HK.out _ HT5.out.at_).mono ?_; rintro e w6 ⟨rfl, hb6⟩; have HB6 := qh (HB5.out.trans (hb6.mono HB5.out.size)); have HT6 := qh (HT.out.below HB6.out); clear hb6)
     | (go_at_call 34; refine (HO.out _).mono ?_; rintro e w7 ⟨rfl, hb7⟩; have HB7 := qh (HB6.out.trans (hb7.mono HB6.out.size)); have HT7 := qh (HT.out.below HB7.out); clear hb7)
     | (go_at_call 43; refine (HU.out _ HT7.out).mono ?_; rintro e w8 ⟨rfl, hT8, hF8⟩))
    go_ret
    exact ⟨rfl, hT8, (Frm.ofBelow HB7.out).trans hF8⟩
 ·
  rw [if_pos he]
  have b1 : (e != 0) = true := bne_iff_ne.2 he
  clear he
  go_enter Try.func32, Try.ntmps32
  go_wp2_with (go_at_call 35; refine (HP.out _ HT.out.at_).mono ?_; rintro e w3 ⟨rfl, hb3⟩; have HB3 := qh hb3; have HT3 := qh (HT.out.below hb3); clear hb3)
  go_ret
  exact left_err HT.out HB3.out
theorem rmdir9_calls (p B : Nat) (L : List RN) (last : Int) (s : ByteArray) (w : World) (h : TreeB w p B (trOf L last)) (hG : GoodL L last) (hM : GoodM L) (hla : last < 1000000) :
  Calls Try.prog 21 #[pT p, .string s] w (Left p B w (cutP L last s true)) := by
 have HP := qh (fun v W h hv => cutR_calls p B L last s v W h hG hM hla hv)
 have HO := qh (only_calls 1 7 w)
 have HT := qh h
 generalize cutP L last s true = o at *
 clear h hG hM hla
 go_enter Try.func21, Try.ntmps21
 go_wp2_with (first | (go_at_call 33; refine HO.out.mono ?_; rintro e w2 ⟨v, rfl, hv, hb2⟩; have HV := qh hv; clear hv) | (go_at_call 32; refine (HP.out _ _ (HT.out.below hb2) HV.out).mono ?_; rintro e w3 ⟨rfl, hT, hF⟩))
 go_ret
 exact ⟨rfl, hT, (Frm.ofBelow hb2).trans hF⟩
theorem unlink9_calls (p B : Nat) (L : List RN) (last : Int) (s : ByteArray) (w : World) (h : TreeB w p B (trOf L last)) (hG : GoodL L last) (hM : GoodM L) (hla : last < 1000000) :
  Calls Try.prog 22 #[pT p, .string s] w (Left p B w (cutP L last s false)) := by
 have HP := qh (cutU_calls p B L last s w h hG hM hla)
 generalize cutP L last s false = o at *
 clear h hG hM hla
 go_enter Try.func22, Try.ntmps22
 go_wp2_with (go_at_call 32; refine HP.out.mono ?_; rintro e w3 ⟨rfl, hT, hF⟩)
 go_ret
 exact ⟨rfl, hT, hF⟩
theorem findV_wf {L : List RN} {last : Int} (hG : GoodL L last) (hM : GoodM L) (hla : last ≤ 1000000) (lst : Bool) (s : ByteArray) : wf (findV L last lst s).1 := by
 obtain ⟨k, hk⟩ := findV_spec hG hM lst s
 exact find_wf hG hM hla hk
theorem write9_calls (p B : Nat) (L : List RN) (last : Int) (s data : ByteArray) (w : World) (h : TreeB w p B (trOf L last)) (hG : GoodL L last) (hM : GoodM L) (hla : last < 1000000) :
  Calls Try.prog 28 #[pT p, .string s, .string data] w (Left p B w (wrP L last s data)) := by
 have hO := trOK hG (by omega)
 obtain ⟨k1, hk1⟩ := findV_spec hG hM true s
 have hwF := findV_wf hG hM (by omega) true s
 obtain ⟨k, hk⟩ := spotV_spec hG hM s
 obtain ⟨hw, hz⟩ := spotF_wf hO hk
 have HS := qh (fun W h => pstat_calls p (trOf L last) s k1 _ W h hO hwF hk1)
 have HST : Hid (stT (trOf L last) (findV L last true s) = if (findV L last true s).2 = 0 then ((findV L last true s).1, ((trOf L last).node (findV L last true s).1).kind, sizeT (trOf L last) (findV L last true s).1) else (0, 0, 0)) := qh rfl
 have HP := qh (fun W h => spot_calls p (trOf L last) s k _ W h hO hk)
 have HL := qh (fun W h => list_calls p (trOf L last) (spotV L last s).1 W h hw (hO.small.node _))
 have HE := qh (fun A c W h hc => find_calls A c ((trOf L last).node (spotV L last s).1).ents (spotV L last s).2.1 W h hc (hO.small.node _) (node_rt hO _))
 rw [node_of hG (spotV L last s).1] at HE HL
 simp only [find_ents hG (spotV L last s).1 (spotV L last s).2.1] at HE
 simp only [] at HL
 have HU := qh (fun W h => tput_calls p B L last (spotV L last s).1 (spotV L last s).2.1 2 data W h hG hw (by omega) hla)
 have HSET := qh (fun W h => tset_calls p B L last (findV L last true s).1 data W h hG hM hwF)
 have hin := inR_le hG (spotV L last s).1 (spotV L last s).2.1
 have HT := qh h
 unfold wrP
 generalize hst : stT (trOf L last) (findV L last true s) = st at *
 generalize sizeT (trOf L last) (findV L last true s).1 = sz at *
 generalize (trOf L last).node (findV L last true s).1 = nd at *
 generalize setRE L (findV L last true s).1 data = se at *
 generalize hsl : setS L (findV L last true s).1 data = sl at *
 generalize putA L last (spotV L last s).1 (spotV L last s).2.1 2 data = pa at *
 generalize putRE L (spotV L last s).1 (spotV L last s).2.1 2 data = pe at *
 generalize hpl : putL L last (spotV L last s).1 (spotV L last s).2.1 2 data = pl at *
 generalize hpn : putN L last (spotV L last s).1 (spotV L last s).2.1 2 data = pn at *
 generalize inR L (spotV L last s).1 (spotV L last s).2.1 = n at *
 generalize entsOf L (spotV L last s).1 = es at *
 generalize spotV L last s = R at *
 generalize findV L last true s = F at *
 obtain ⟨d, z, e⟩ := R
 obtain ⟨fn, fe⟩ := F
 obtain ⟨s0, s1, s2⟩ := st
 obtain ⟨nk, nu, ndd, nes⟩ := nd
 simp only [] at *
 clear h hO hG hM hla hk hw hz hk1 hwF hst hsl hpl hpn
 have hu := Try.underlying62
 by_cases hfe : fe = 0
 ·
  subst hfe
  rw [if_pos rfl]
  have hst := HST.out
  rw [if_pos rfl] at hst
  have q0 : fn = s0 := (congrArg Prod.fst hst).symm
  have q1 : nk = s1 := (congrArg (fun x => x.2.1) hst).symm
  have q2 : sz = s2 := (congrArg (fun x => x.2.2) hst).symm
  subst q0 q1 q2
  clear hst HST hin HP HL HE HU
  go_enter Try.func28, Try.ntmps28
  go_wp2_with (first | (go_at_call 37; refine (HS.out _ HT.out.at_).mono ?_; rintro e w2 ⟨rfl, hb2⟩; have HB2 := qh (hb2.alloc hb2.size (.cells #[.int .i64 fn, .int .i64 nk, .int .i64 sz] 62)); have HT2 := qh (HT.out.below HB2.out); clear hb2) | (go_at_call 38; refine (HSET.out _ HT2.out).mono ?_; rintro e w6 ⟨rfl, hT6, hf6⟩))
  go_ret
  exact ⟨rfl, hT6, (Frm.ofBelow HB2.out).trans hf6⟩
 ·
  rw [if_neg hfe]
  have hst := HST.out
  rw [if_neg hfe] at hst
  cases hst
  have b1 : (fe == 0) = false := beq_eq_false_iff_ne.2 hfe
  clear HST HSET
  by_cases hf5 : fe = 5
  ·
   subst hf5
   rw [if_neg (by simp)]
   clear hfe
   by_cases he : e = 0
   ·
    subst he
    rw [if_neg (by simp)]
    by_cases hn : n = 0
    ·
     subst hn
     rw [if_neg (by simp)]
     rw [show decide ((0 : Int) < 0) = false from rfl] at HE
     clear hin
     go_enter Try.func28, Try.ntmps28
     go_wp2_with (first | (go_at_call 37; refine (HS.out _ HT.out.at_).mono ?_; rintro e w2 ⟨rfl, hb2⟩; have HB2 := qh (hb2.alloc hb2.size (.cells #[.int .i64 0, .int .i64 0, .int .i64 0] 62)); have HT2 := qh (HT.out.below HB2.out); clear hb2) | (go_at_call 35; refine (HP.out _ HT2.out.at_).mono ?_; rintro e w3 ⟨rfl, hb3⟩; have HB3 := qh (HB2.out.trans (hb3.mono HB2.out.size)); have HT3 := qh (HT.out.below HB3.out); clear hb3) | (go_at_call 40; refine (HL.out _ HT3.out.at_).mono ?_; rintro e w4 ⟨v, rfl, hv, hb4⟩; obtain ⟨A4, c4, rfl, hl4, hC4⟩ := Kd.R_reads hv; have HB4 := qh (HB3.out.trans (hb4.mono HB3.out.size)); have HC4 := qh hC4; clear hv hb4 hC4) | (go_at_call 39; refine (HE.out _ _ _ HC4.out hl4).mono ?_; rintro e w5 ⟨rfl, hb5⟩; have HB5 := qh (HB4.out.trans (hb5.mono HB4.out.size)); clear hb5) | (go_at_call 41; refine (HU.out _ (HT.out.below HB5.out)).mono ?_; rintro e w6 ⟨rfl, hT6, hf6⟩))
     go_ret
     exact ⟨rfl, hT6, (Frm.ofBelow HB5.out).trans hf6⟩
    ·
     rw [if_pos hn]
     rw [decide_eq_true (show 0 < n by omega)] at HE
     clear hin hn HU
     go_enter Try.func28, Try.ntmps28
     go_wp2_with (first | (go_at_call 37; refine (HS.out _ HT.out.at_).mono ?_; rintro e w2 ⟨rfl, hb2⟩; have HB2 := qh (hb2.alloc hb2.size (.cells #[.int .i64 0, .int .i64 0, .int .i64 0] 62)); have HT2 := qh (HT.out.below HB2.out); clear hb2) | (go_at_call 35; refine (HP.out _ HT2.out.at_).mono ?_; rintro e w3 ⟨rfl, hb3⟩; have HB3 := qh (HB2.out.trans (hb3.mono HB2.out.size)); have HT3 := qh (HT.out.below HB3.out); clear hb3) | (go_at_call 40; refine (HL.out _ HT3.out.at_).mono ?_; rintro e w4 ⟨v, rfl, hv, hb4⟩; obtain ⟨A4, c4, rfl, hl4, hC4⟩ := Kd.R_reads hv; have HB4 := qh (HB3.out.trans (hb4.mono HB3.out.size)); have HC4 := qh hC4; clear hv hb4 hC4) | (go_at_call 39; refine (HE.out _ _ _ HC4.out hl4).mono ?_; rintro e w5 ⟨rfl, hb5⟩; have HB5 := qh (HB4.out.trans (hb5.mono HB4.out.size)); clear hb5))
     go_ret
     exact left_err HT.out HB5.out
   ·
    rw [if_pos he]
    have b3 : (e != 0) = true := bne_iff_ne.2 he
    clear he hin HL HE HU
    go_enter Try.func28, Try.ntmps28
    go_wp2_with (first | (go_at_call 37; refine (HS.out _ HT.out.at_).mono ?_; rintro e w2 ⟨rfl, hb2⟩; have HB2 := qh (hb2.alloc hb2.size (.cells #[.int .i64 0, .int .i64 0, .int .i64 0] 62)); have HT2 := qh (HT.out.below HB2.out); clear hb2) | (go_at_call 35; refine (HP.out _ HT2.out.at_).mono ?_; rintro e w3 ⟨rfl, hb3⟩; have HB3 := qh (HB2.out.trans (hb3.mono HB2.out.size)); have HT3 := qh (HT.out.below HB3.out); clear hb3))
    go_ret
    exact left_err HT.out HB3.out
  ·
   rw [if_pos hf5]
   have b2 : (fe != 5) = true := bne_iff_ne.2 hf5
   clear hfe hf5 hin HP HL HE HU
   go_enter Try.func28, Try.ntmps28
   go_wp2_with (go_at_call 37; refine (HS.out _ HT.out.at_).mono ?_; rintro e w2 ⟨rfl, hb2⟩; have HB2 := qh (hb2.alloc hb2.size (.cells #[.int .i64 0, .int .i64 0, .int .i64 0] 62)); have HT2 := qh (HT.out.below HB2.out); clear hb2)
   go_ret
   exact left_err HT.out HB2.out
theorem meas_big {n i : Nat} (h : i < n) (hn : n ≤ 1000000) : n - (intOf (.int .i64 (wrap64 ((i : Int) + 1)))).toNat < n - (intOf (.int .i64 (i : Int))).toNat := by
 rw [w1 (by omega)]
 simp only [intOf]
 omega
theorem two_blocks (w : World) (o1 o2 : Obj) : ((w.alloc o1).alloc o2).heap[w.heap.size]? = some o1 ∧ ((w.alloc o1).alloc o2).heap[w.heap.size + 1]? = some o2 ∧ Below w.heap.size w ((w.alloc o1).alloc o2) := by
 have s1 : (w.alloc o1).heap.size = w.heap.size + 1 := Array.size_push _
 refine ⟨?_, ?_, ?_⟩
 · rw [heap_alloc_old _ _ _ (by omega), heap_alloc_new]
 · rw [← s1, heap_alloc_new]
 · exact ((Below.refl _ w).alloc (Nat.le_refl _) _).alloc (by omega) _
abbrev fnV (k : Nat) : Value := .func (.func k) #[] #[]
def ByV (W : World) (v : Value) (k : Nat) : Prop := ∃ g : Nat, v = .func (.func 30) #[] #[.pointer (some ⟨g, 0, none⟩)] ∧ W.heap[g]? = some (.cells #[fnV k] 50 (0, 0))
theorem ByV.below {w W : World} {v : Value} {k : Nat} (h : ByV w v k) (hb : Below w.heap.size w W) : ByV W v k := by
 obtain ⟨g, rfl, h1⟩ := h
 exact ⟨g, rfl, (hb.block _ (blk_lt h1)).trans h1⟩
theorem one_set {w : World} {k : Nat} {v0 u0 : Value} {t : TypeId} (h : w.heap[k]? = some (.cells #[v0] t (0, 0))) : (w.setCell ⟨k, 0, none⟩ u0).heap[k]? = some (.cells #[u0] t (0, 0)) := by
 rw [setCell_eq_setRow w _ 0 _ _ _ _ h, setRow_heap w _ _ _ _ _ h]; rfl
theorem by_calls (k : Nat) (w : World) : Calls Try.prog 19 #[fnV k] w fun r w' => ∃ v, r = .returned (.agg #[v]) ∧ ByV w' v k ∧ Below w.heap.size w w' := by
 have hu := Try.underlying43
 obtain ⟨k1, k2, k3⟩ := two_blocks w (.cells #[fnV k] 50) (.cells #[.nilFunc] 43)
 have HK := qh (And.intro k1 (And.intro k2 k3))
 clear k1 k2 k3
 go_enter Try.func19, Try.ntmps19
 go_upto_region 1 with (fail)
 generalize (w.alloc (.cells #[fnV k] 50)).alloc (.cells #[.nilFunc] 43) = w2 at HK ⊢
 generalize hb0 : w.heap.size = b at HK ⊢
 have HW0 := qh hb0
 clear hb0
 obtain ⟨h1, h2, h3⟩ := HK.out
 have r0 : w2.cell? ⟨b + 1, 0, none⟩ = some .nilFunc := by rw [blk_cell h2]; rfl
 have f0 := blk_frozen h2 0
 clear HK
 go_wp2
 have e2 := one_set (u0 := .func (.func 30) #[] #[.pointer (some ⟨b, 0, none⟩)]) h2
 have t0 : (w2.setCell ⟨b + 1, 0, none⟩ (.func (.func 30) #[] #[.pointer (some ⟨b, 0, none⟩)])).cell? ⟨b + 1, 0, none⟩ = some (.func (.func 30) #[] #[.pointer (some ⟨b, 0, none⟩)]) := by rw [blk_cell e2]; rfl
 refine bodyPost_ret (v := .agg #[.func (.func 30) #[] #[.pointer (some ⟨b, 0, none⟩)]]) (by simp [results, Try.results19, go_sem, t0, hu]) rfl ⟨_, rfl, ⟨b, rfl, ?_⟩, ?_⟩
 · exact (Below.heap_setCell w2 ⟨b + 1, 0, none⟩ _ b (by simp)).trans h1
 · rw [HW0.out]; exact h3.setCell (p := ⟨b + 1, 0, none⟩) (Nat.le_succ b) _
theorem seven_set {w : World} {r : Nat} {a0 a1 a2 a3 a4 a5 a6 v0 v1 v2 v3 v4 v5 v6 : Value} {t : TypeId} (h : w.heap[r]? = some (.cells #[a0, a1, a2, a3, a4, a5, a6] t (0, 0))) :
  (((((((w.setCell ⟨r, 0, none⟩ v0).setCell ⟨r, 1, none⟩ v1).setCell ⟨r, 2, none⟩ v2).setCell ⟨r, 3, none⟩ v3).setCell ⟨r, 4, none⟩ v4).setCell ⟨r, 5, none⟩ v5).setCell ⟨r, 6, none⟩ v6).heap[r]? = some (.cells #[v0, v1, v2, v3, v4, v5, v6] t (0, 0)) := by
 have k0 : (w.setCell ⟨r, 0, none⟩ v0).heap[r]? = some (.cells #[v0, a1, a2, a3, a4, a5, a6] t (0, 0)) := by rw [setCell_eq_setRow w _ 0 _ _ _ _ h, setRow_heap w _ _ _ _ _ h]; rfl
 have k1 : ((w.setCell ⟨r, 0, none⟩ v0).setCell ⟨r, 1, none⟩ v1).heap[r]? = some (.cells #[v0, v1, a2, a3, a4, a5, a6] t (0, 0)) := by rw [setCell_eq_setRow _ _ 1 _ _ _ _ k0, setRow_heap _ _ _ _ _ _ k0]; rfl
 have k2 : (((w.setCell ⟨r, 0, none⟩ v0).setCell ⟨r, 1, none⟩ v1).setCell ⟨r, 2, none⟩ v2).heap[r]? = some (.cells #[v0, v1, v2, a3, a4, a5, a6] t (0, 0)) := by rw [setCell_eq_setRow _ _ 2 _ _ _ _ k1, setRow_heap _ _ _ _ _ _ k1]; rfl
 have k3 : ((((w.setCell ⟨r, 0, none⟩ v0).setCell ⟨r, 1, none⟩ v1).setCell ⟨r, 2, none⟩ v2).setCell ⟨r, 3, none⟩ v3).heap[r]? = some (.cells #[v0, v1, v2, v3, a4, a5, a6] t (0, 0)) := by rw [setCell_eq_setRow _ _ 3 _ _ _ _ k2, setRow_heap _ _ _ _ _ _ k2]; rfl
 have k4 : (((((w.setCell ⟨r, 0, none⟩ v0).setCell ⟨r, 1, none⟩ v1).setCell ⟨r, 2, none⟩ v2).setCell ⟨r, 3, none⟩ v3).setCell ⟨r, 4, none⟩ v4).heap[r]? = some (.cells #[v0, v1, v2, v3, v4, a5, a6] t (0, 0)) := by rw [setCell_eq_setRow _ _ 4 _ _ _ _ k3, setRow_heap _ _ _ _ _ _ k3]; rfl
 have k5 : ((((((w.setCell ⟨r, 0, none⟩ v0).setCell ⟨r, 1, none⟩ v1).setCell ⟨r, 2, none⟩ v2).setCell ⟨r, 3, none⟩ v3).setCell ⟨r, 4, none⟩ v4).setCell ⟨r, 5, none⟩ v5).heap[r]? = some (.cells #[v0, v1, v2, v3, v4, v5, a6] t (0, 0)) := by rw [setCell_eq_setRow _ _ 5 _ _ _ _ k4, setRow_heap _ _ _ _ _ _ k4]; rfl
 rw [setCell_eq_setRow _ _ 6 _ _ _ _ k5, setRow_heap _ _ _ _ _ _ k5]; rfl
theorem seven_other {w : World} {r j : Nat} {v0 v1 v2 v3 v4 v5 v6 : Value} {X : Option Obj} (hne : j ≠ r) (h : w.heap[j]? = X) :
  (((((((w.setCell ⟨r, 0, none⟩ v0).setCell ⟨r, 1, none⟩ v1).setCell ⟨r, 2, none⟩ v2).setCell ⟨r, 3, none⟩ v3).setCell ⟨r, 4, none⟩ v4).setCell ⟨r, 5, none⟩ v5).setCell ⟨r, 6, none⟩ v6).heap[j]? = X := by
 rw [Below.heap_setCell _ ⟨r, 6, none⟩ _ j hne, Below.heap_setCell _ ⟨r, 5, none⟩ _ j hne, Below.heap_setCell _ ⟨r, 4, none⟩ _ j hne, Below.heap_setCell _ ⟨r, 3, none⟩ _ j hne, Below.heap_setCell _ ⟨r, 2, none⟩ _ j hne, Below.heap_setCell _ ⟨r, 1, none⟩ _ j hne, Below.heap_setCell _ ⟨r, 0, none⟩ _ j hne, h]
theorem by_other {w W : World} {b k : Nat} {v : Value} {cs : Array Value} (h : ByV w v k) (hb : w.heap[b]? = some (.cells cs 44 (0, 0))) (HO : ∀ (g : Nat) (o : Obj), w.heap[g]? = some o → g ≠ b → W.heap[g]? = some o) : ByV W v k := by
 obtain ⟨g, rfl, h1⟩ := h
 refine ⟨g, rfl, HO g _ h1 ?_⟩
 rintro rfl
 rw [hb] at h1
 injection h1 with h1
 injection h1 with _ h1
 exact absurd h1 (by decide)
theorem deeds_calls (w : World) : Calls Try.prog 14 #[] w fun r w' => ∃ v1 v2 v4, r = .returned (.agg #[.nilFunc, v1, v2, fnV 23, v4, fnV 25, fnV 27]) ∧
  (ByV w' v1 20 ∧ ByV w' v2 21 ∧ ByV w' v4 22) ∧ Below w.heap.size w w' := by
 have hu := Try.underlying43
 have hu3 := Try.underlying44
 have HY := qh (fun k W => by_calls k W)
 have HB1 := qh ((Below.refl w.heap.size w).alloc (Nat.le_refl _) (.cells #[.nilFunc, .nilFunc, .nilFunc, .nilFunc, .nilFunc, .nilFunc, .nilFunc] 44))
 have H1 := qh (heap_alloc_new w (.cells #[.nilFunc, .nilFunc, .nilFunc, .nilFunc, .nilFunc, .nilFunc, .nilFunc] 44))
 go_enter Try.func14, Try.ntmps14
 go_upto_region 1 with (fail)
 generalize w.alloc (.cells #[.nilFunc, .nilFunc, .nilFunc, .nilFunc, .nilFunc, .nilFunc, .nilFunc] 44) = w1 at HB1 H1 ⊢
 generalize hb0 : w.heap.size = b at HB1 H1 ⊢
 have HW0 := qh hb0
 clear hb0
 have HX := qh (fun (W : World) (hb : Below w1.heap.size w1 W) => show (W.cell? ⟨b, 0, none⟩ = some .nilFunc ∧ W.cell? ⟨b, 1, none⟩ = some .nilFunc ∧ W.cell? ⟨b, 2, none⟩ = some .nilFunc ∧ W.cell? ⟨b, 3, none⟩ = some .nilFunc ∧ W.cell? ⟨b, 4, none⟩ = some .nilFunc ∧ W.cell? ⟨b, 5, none⟩ = some .nilFunc ∧ W.cell? ⟨b, 6, none⟩ = some .nilFunc) ∧ (W.frozen? ⟨b, 0, none⟩ = false ∧ W.frozen? ⟨b, 1, none⟩ = false ∧ W.frozen? ⟨b, 2, none⟩ = false ∧ W.frozen? ⟨b, 3, none⟩ = false ∧ W.frozen? ⟨b, 4, none⟩ = false ∧ W.frozen? ⟨b, 5, none⟩ = false ∧ W.frozen? ⟨b, 6, none⟩ = false) by
  have e1 := (hb.block _ (blk_lt H1.out)).trans H1.out
  refine ⟨⟨?_, ?_, ?_, ?_, ?_, ?_, ?_⟩, blk_frozen e1 0, blk_frozen e1 1, blk_frozen e1 2, blk_frozen e1 3, blk_frozen e1 4, blk_frozen e1 5, blk_frozen e1 6⟩ <;> (rw [blk_cell e1]; rfl))
 have HE1 := qh (Below.refl w1.heap.size w1)
 go_wp2_with (first
  | (go_at_call 19; refine (HY.out _ _).mono ?_; rintro e w4 ⟨v4, rfl, hv4, hb⟩; have HE4 := qh (HE3.out.trans (hb.mono HE3.out.size)); have HV4 := qh hv4; obtain ⟨g4, rfl, -⟩ := hv4; have HV1 := qh (HV1.out.below hb); have HV2 := qh (HV2.out.below hb); clear hb; obtain ⟨⟨x0, x1, x2, x3, x4, x5, x6⟩, y0, y1, y2, y3, y4, y5, y6⟩ := HX.out _ HE4.out)
  | (go_at_call 19; refine (HY.out _ _).mono ?_; rintro e w3 ⟨v2, rfl, hv2, hb⟩; have HE3 := qh (HE2.out.trans (hb.mono HE2.out.size)); have HV2 := qh hv2; obtain ⟨g2, rfl, -⟩ := hv2; have HV1 := qh (HV1.out.below hb); clear hb)
  | (go_at_call 19; refine (HY.out _ _).mono ?_; rintro e w2 ⟨v1, rfl, hv1, hb⟩; have HE2 := qh (HE1.out.trans (hb.mono HE1.out.size)); have HV1 := qh hv1; obtain ⟨g1, rfl, -⟩ := hv1; clear hb))
 have e4 := (HE4.out.block _ (blk_lt H1.out)).trans H1.out
 have e5 := seven_set (v0 := .nilFunc) (v1 := .func (.func 30) #[] #[.pointer (some ⟨g1, 0, none⟩)]) (v2 := .func (.func 30) #[] #[.pointer (some ⟨g2, 0, none⟩)]) (v3 := fnV 23) (v4 := .func (.func 30) #[] #[.pointer (some ⟨g4, 0, none⟩)]) (v5 := fnV 25) (v6 := fnV 27) e4
 have HB9 : Hid (Below b w ((((((((w4).setCell ⟨b, 0, none⟩ (.nilFunc)).setCell ⟨b, 1, none⟩ (.func (.func 30) #[] #[.pointer (some ⟨g1, 0, none⟩)])).setCell ⟨b, 2, none⟩ (.func (.func 30) #[] #[.pointer (some ⟨g2, 0, none⟩)])).setCell ⟨b, 3, none⟩ (fnV 23)).setCell ⟨b, 4, none⟩ (.func (.func 30) #[] #[.pointer (some ⟨g4, 0, none⟩)])).setCell ⟨b, 5, none⟩ (fnV 25)).setCell ⟨b, 6, none⟩ (fnV 27))) := qh ((((((((HB1.out.trans (HE4.out.mono (Nat.le_of_lt (blk_lt H1.out)))).setCell (p := ⟨b, 0, none⟩) (Nat.le_refl b) (.nilFunc)).setCell (p := ⟨b, 1, none⟩) (Nat.le_refl b) (.func (.func 30) #[] #[.pointer (some ⟨g1, 0, none⟩)])).setCell (p := ⟨b, 2, none⟩) (Nat.le_refl b) (.func (.func 30) #[] #[.pointer (some ⟨g2, 0, none⟩)])).setCell (p := ⟨b, 3, none⟩) (Nat.le_refl b) (fnV 23)).setCell (p := ⟨b, 4, none⟩) (Nat.le_refl b) (.func (.func 30) #[] #[.pointer (some ⟨g4, 0, none⟩)])).setCell (p := ⟨b, 5, none⟩) (Nat.le_refl b) (fnV 25)).setCell (p := ⟨b, 6, none⟩) (Nat.le_refl b) (fnV 27))
 have HO := fun (g : Nat) (o : Obj) (hg : w4.heap[g]? = some o) (hne : g ≠ b) => seven_other (v0 := .nilFunc) (v1 := .func (.func 30) #[] #[.pointer (some ⟨g1, 0, none⟩)]) (v2 := .func (.func 30) #[] #[.pointer (some ⟨g2, 0, none⟩)]) (v3 := fnV 23) (v4 := .func (.func 30) #[] #[.pointer (some ⟨g4, 0, none⟩)]) (v5 := fnV 25) (v6 := fnV 27) hne hg
 have HV : Hid (ByV ((((((((w4).setCell ⟨b, 0, none⟩ (.nilFunc)).setCell ⟨b, 1, none⟩ (.func (.func 30) #[] #[.pointer (some ⟨g1, 0, none⟩)])).setCell ⟨b, 2, none⟩ (.func (.func 30) #[] #[.pointer (some ⟨g2, 0, none⟩)])).setCell ⟨b, 3, none⟩ (fnV 23)).setCell ⟨b, 4, none⟩ (.func (.func 30) #[] #[.pointer (some ⟨g4, 0, none⟩)])).setCell ⟨b, 5, none⟩ (fnV 25)).setCell ⟨b, 6, none⟩ (fnV 27)) (.func (.func 30) #[] #[.pointer (some ⟨g1, 0, none⟩)]) 20 ∧ ByV ((((((((w4).setCell ⟨b, 0, none⟩ (.nilFunc)).setCell ⟨b, 1, none⟩ (.func (.func 30) #[] #[.pointer (some ⟨g1, 0, none⟩)])).setCell ⟨b, 2, none⟩ (.func (.func 30) #[] #[.pointer (some ⟨g2, 0, none⟩)])).setCell ⟨b, 3, none⟩ (fnV 23)).setCell ⟨b, 4, none⟩ (.func (.func 30) #[] #[.pointer (some ⟨g4, 0, none⟩)])).setCell ⟨b, 5, none⟩ (fnV 25)).setCell ⟨b, 6, none⟩ (fnV 27)) (.func (.func 30) #[] #[.pointer (some ⟨g2, 0, none⟩)]) 21 ∧ ByV ((((((((w4).setCell ⟨b, 0, none⟩ (.nilFunc)).setCell ⟨b, 1, none⟩ (.func (.func 30) #[] #[.pointer (some ⟨g1, 0, none⟩)])).setCell ⟨b, 2, none⟩ (.func (.func 30) #[] #[.pointer (some ⟨g2, 0, none⟩)])).setCell ⟨b, 3, none⟩ (fnV 23)).setCell ⟨b, 4, none⟩ (.func (.func 30) #[] #[.pointer (some ⟨g4, 0, none⟩)])).setCell ⟨b, 5, none⟩ (fnV 25)).setCell ⟨b, 6, none⟩ (fnV 27)) (.func (.func 30) #[] #[.pointer (some ⟨g4, 0, none⟩)]) 22) := qh ⟨by_other HV1.out e4 HO, by_other HV2.out e4 HO, by_other HV4.out e4 HO⟩
 clear HV1 HV2 HV4 HO
 generalize (((((((w4).setCell ⟨b, 0, none⟩ (.nilFunc)).setCell ⟨b, 1, none⟩ (.func (.func 30) #[] #[.pointer (some ⟨g1, 0, none⟩)])).setCell ⟨b, 2, none⟩ (.func (.func 30) #[] #[.pointer (some ⟨g2, 0, none⟩)])).setCell ⟨b, 3, none⟩ (fnV 23)).setCell ⟨b, 4, none⟩ (.func (.func 30) #[] #[.pointer (some ⟨g4, 0, none⟩)])).setCell ⟨b, 5, none⟩ (fnV 25)).setCell ⟨b, 6, none⟩ (fnV 27) = w9 at HB9 HV e5 ⊢
 have t0 : w9.cell? ⟨b, 0, none⟩ = some .nilFunc := by rw [blk_cell e5]; rfl
 have t1 : w9.cell? ⟨b, 1, none⟩ = some (.func (.func 30) #[] #[.pointer (some ⟨g1, 0, none⟩)]) := by rw [blk_cell e5]; rfl
 have t2 : w9.cell? ⟨b, 2, none⟩ = some (.func (.func 30) #[] #[.pointer (some ⟨g2, 0, none⟩)]) := by rw [blk_cell e5]; rfl
 have t3 : w9.cell? ⟨b, 3, none⟩ = some (fnV 23) := by rw [blk_cell e5]; rfl
 have t4 : w9.cell? ⟨b, 4, none⟩ = some (.func (.func 30) #[] #[.pointer (some ⟨g4, 0, none⟩)]) := by rw [blk_cell e5]; rfl
 have t5 : w9.cell? ⟨b, 5, none⟩ = some (fnV 25) := by rw [blk_cell e5]; rfl
 have t6 : w9.cell? ⟨b, 6, none⟩ = some (fnV 27) := by rw [blk_cell e5]; rfl
 refine bodyPost_ret (v := .agg #[.nilFunc, .func (.func 30) #[] #[.pointer (some ⟨g1, 0, none⟩)], .func (.func 30) #[] #[.pointer (some ⟨g2, 0, none⟩)], fnV 23, .func (.func 30) #[] #[.pointer (some ⟨g4, 0, none⟩)], fnV 25, fnV 27]) (by simp [results, Try.results14, go_sem, t0, t1, t2, t3, t4, t5, t6, hu, hu3]) rfl ⟨_, _, _, rfl, HV.out, ?_⟩
 rw [HW0.out]
 exact HB9.out
@[go_sem] theorem ix_deed1 (v0 v1 v2 v3 v4 v5 v6 : Value) (w : World) : (Instr.index 44 (.agg #[v0, v1, v2, v3, v4, v5, v6]) (.int .i64 1)).run Try.prog w = .ok (.agg #[v1]) w := by kernel_rfl
@[go_sem] theorem ix_deed2 (v0 v1 v2 v3 v4 v5 v6 : Value) (w : World) : (Instr.index 44 (.agg #[v0, v1, v2, v3, v4, v5, v6]) (.int .i64 2)).run Try.prog w = .ok (.agg #[v2]) w := by kernel_rfl
@[go_sem] theorem ix_deed3 (v0 v1 v2 v3 v4 v5 v6 : Value) (w : World) : (Instr.index 44 (.agg #[v0, v1, v2, v3, v4, v5, v6]) (.int .i64 3)).run Try.prog w = .ok (.agg #[v3]) w := by kernel_rfl
@[go_sem] theorem ix_deed4 (v0 v1 v2 v3 v4 v5 v6 : Value) (w : World) : (Instr.index 44 (.agg #[v0, v1, v2, v3, v4, v5, v6]) (.int .i64 4)).run Try.prog w = .ok (.agg #[v4]) w := by kernel_rfl
@[go_sem] theorem ix_deed5 (v0 v1 v2 v3 v4 v5 v6 : Value) (w : World) : (Instr.index 44 (.agg #[v0, v1, v2, v3, v4, v5, v6]) (.int .i64 5)).run Try.prog w = .ok (.agg #[v5]) w := by kernel_rfl
@[go_sem] theorem ix_deed6 (v0 v1 v2 v3 v4 v5 v6 : Value) (w : World) : (Instr.index 44 (.agg #[v0, v1, v2, v3, v4, v5, v6]) (.int .i64 6)).run Try.prog w = .ok (.agg #[v6]) w := by kernel_rfl
@[go_sem] theorem fl_deed (v0 : Value) (w : World) : (Instr.field 43 (.agg #[v0]) 0).run Try.prog w = .ok v0 w := by kernel_rfl
theorem known_yes (k : Int) (w : World) (h : 1 ≤ k ∧ k ≤ 6) : Calls Try.prog 12 #[.int .i64 k] w fun e w' => e = .returned (.bool true) ∧ w' = w := by
 obtain ⟨h1, h2⟩ := h
 go_enter Try.func12, Try.ntmps12
 go_wp2
 go_ret
 exact ⟨rfl, rfl⟩
theorem known_no (k : Int) (w : World) (h : ¬ (1 ≤ k ∧ k ≤ 6)) : Calls Try.prog 12 #[.int .i64 k] w fun e w' => e = .returned (.bool false) ∧ w' = w := by
 by_cases h1 : 1 ≤ k
 ·
  have h2 : ¬ k ≤ 6 := fun e => h ⟨h1, e⟩
  clear h
  go_enter Try.func12, Try.ntmps12
  go_wp2
  go_ret
  exact ⟨rfl, rfl⟩
 ·
  clear h
  go_enter Try.func12, Try.ntmps12
  go_wp2
  go_ret
  exact ⟨rfl, rfl⟩
theorem by1_Mkdir (p B : Nat) (L : List RN) (last k : Int) (a t : ByteArray) (g : Nat) (w : World) (h : TreeB w p B (trOf L last)) (hG : GoodL L last) (hM : GoodM L) (hla : last < 1000000) (hg : w.heap[g]? = some (.cells #[fnV 20] 50 (0, 0))) :
  Calls Try.prog 30 #[pT p, .agg #[.int .i64 k, .string a, .string t], .pointer (some ⟨g, 0, none⟩)] w (Left p B w (mkP L last a 1 ⟨#[]⟩)) := by
 have hB0 := (Below.refl w.heap.size w).alloc (Nat.le_refl _) (.cells #[.int .i64 k, .string a, .string t] 23)
 have HB0 := qh hB0
 have x0 : (w.alloc (.cells #[.int .i64 k, .string a, .string t] 23)).cell? ⟨g, 0, none⟩ = some (fnV 20) := by rw [blk_cell ((hB0.block _ (blk_lt hg)).trans hg)]; rfl
 have HS := qh (mkdir9_calls p B L last a _ (h.below hB0) hG hM hla)
 generalize mkP L last a 1 ⟨#[]⟩ = o at *
 clear h hG hM hla hB0 hg
 go_enter Try.func30, Try.ntmps30
 go_wp2_with (go_at_call 20; refine HS.out.mono ?_; rintro e w3 ⟨rfl, hT3, hF3⟩)
 go_ret
 exact ⟨rfl, hT3, (Frm.ofBelow HB0.out).trans hF3⟩
theorem by1_Rmdir (p B : Nat) (L : List RN) (last k : Int) (a t : ByteArray) (g : Nat) (w : World) (h : TreeB w p B (trOf L last)) (hG : GoodL L last) (hM : GoodM L) (hla : last < 1000000) (hg : w.heap[g]? = some (.cells #[fnV 21] 50 (0, 0))) :
  Calls Try.prog 30 #[pT p, .agg #[.int .i64 k, .string a, .string t], .pointer (some ⟨g, 0, none⟩)] w (Left p B w (cutP L last a true)) := by
 have hB0 := (Below.refl w.heap.size w).alloc (Nat.le_refl _) (.cells #[.int .i64 k, .string a, .string t] 23)
 have HB0 := qh hB0
 have x0 : (w.alloc (.cells #[.int .i64 k, .string a, .string t] 23)).cell? ⟨g, 0, none⟩ = some (fnV 21) := by rw [blk_cell ((hB0.block _ (blk_lt hg)).trans hg)]; rfl
 have HS := qh (rmdir9_calls p B L last a _ (h.below hB0) hG hM hla)
 generalize cutP L last a true = o at *
 clear h hG hM hla hB0 hg
 go_enter Try.func30, Try.ntmps30
 go_wp2_with (go_at_call 21; refine HS.out.mono ?_; rintro e w3 ⟨rfl, hT3, hF3⟩)
 go_ret
 exact ⟨rfl, hT3, (Frm.ofBelow HB0.out).trans hF3⟩
theorem by1_Unlink (p B : Nat) (L : List RN) (last k : Int) (a t : ByteArray) (g : Nat) (w : World) (h : TreeB w p B (trOf L last)) (hG : GoodL L last) (hM : GoodM L) (hla : last < 1000000) (hg : w.heap[g]? = some (.cells #[fnV 22] 50 (0, 0))) :
  Calls Try.prog 30 #[pT p, .agg #[.int .i64 k, .string a, .string t], .pointer (some ⟨g, 0, none⟩)] w (Left p B w (cutP L last a false)) := by
 have hB0 := (Below.refl w.heap.size w).alloc (Nat.le_refl _) (.cells #[.int .i64 k, .string a, .string t] 23)
 have HB0 := qh hB0
 have x0 : (w.alloc (.cells #[.int .i64 k, .string a, .string t] 23)).cell? ⟨g, 0, none⟩ = some (fnV 22) := by rw [blk_cell ((hB0.block _ (blk_lt hg)).trans hg)]; rfl
 have HS := qh (unlink9_calls p B L last a _ (h.below hB0) hG hM hla)
 generalize cutP L last a false = o at *
 clear h hG hM hla hB0 hg
 go_enter Try.func30, Try.ntmps30
 go_wp2_with (go_at_call 22; refine HS.out.mono ?_; rintro e w3 ⟨rfl, hT3, hF3⟩)
 go_ret
 exact ⟨rfl, hT3, (Frm.ofBelow HB0.out).trans hF3⟩
theorem deeds1_calls (p B : Nat) (L : List RN) (last k : Int) (a t : ByteArray) (w : World) (h : TreeB w p B (trOf L last)) (hG : GoodL L last) (hM : GoodM L) (hla : last < 1000000) :
  Calls Try.prog 23 #[pT p, .agg #[.int .i64 k, .string a, .string t]] w (Left p B w (mkP L last a 3 t)) := by
 have hB0 := (Below.refl w.heap.size w).alloc (Nat.le_refl _) (.cells #[.int .i64 k, .string a, .string t] 23)
 have HB0 := qh hB0
 have HS := qh (symlink9_calls p B L last t a _ (h.below hB0) hG hM hla)
 generalize mkP L last a 3 t = o at *
 clear h hG hM hla hB0
 go_enter Try.func23, Try.ntmps23
 go_wp2_with (go_at_call 24; refine HS.out.mono ?_; rintro e w3 ⟨rfl, hT3, hF3⟩)
 go_ret
 exact ⟨rfl, hT3, (Frm.ofBelow HB0.out).trans hF3⟩
theorem deeds2_calls (p B : Nat) (L : List RN) (last k : Int) (a t : ByteArray) (w : World) (h : TreeB w p B (trOf L last)) (hG : GoodL L last) (hM : GoodM L) (hla : last < 1000000) :
  Calls Try.prog 25 #[pT p, .agg #[.int .i64 k, .string a, .string t]] w (Left p B w (renP L last a t)) := by
 have hB0 := (Below.refl w.heap.size w).alloc (Nat.le_refl _) (.cells #[.int .i64 k, .string a, .string t] 23)
 have HB0 := qh hB0
 have HS := qh (rename9_calls p B L last a t _ (h.below hB0) hG hM hla)
 generalize renP L last a t = o at *
 clear h hG hM hla hB0
 go_enter Try.func25, Try.ntmps25
 go_wp2_with (go_at_call 26; refine HS.out.mono ?_; rintro e w3 ⟨rfl, hT3, hF3⟩)
 go_ret
 exact ⟨rfl, hT3, (Frm.ofBelow HB0.out).trans hF3⟩
theorem deeds3_calls (p B : Nat) (L : List RN) (last k : Int) (a t : ByteArray) (w : World) (h : TreeB w p B (trOf L last)) (hG : GoodL L last) (hM : GoodM L) (hla : last < 1000000) :
  Calls Try.prog 27 #[pT p, .agg #[.int .i64 k, .string a, .string t]] w (Left p B w (wrP L last a t)) := by
 have hB0 := (Below.refl w.heap.size w).alloc (Nat.le_refl _) (.cells #[.int .i64 k, .string a, .string t] 23)
 have HB0 := qh hB0
 have HS := qh (write9_calls p B L last a t _ (h.below hB0) hG hM hla)
 generalize wrP L last a t = o at *
 clear h hG hM hla hB0
 go_enter Try.func27, Try.ntmps27
 go_wp2_with (go_at_call 28; refine HS.out.mono ?_; rintro e w3 ⟨rfl, hT3, hF3⟩)
 go_ret
 exact ⟨rfl, hT3, (Frm.ofBelow HB0.out).trans hF3⟩
theorem box3 {W : World} {g : Nat} {k : Int} {a t : ByteArray} {ty : TypeId} (h : W.heap[g]? = some (.cells #[.int .i64 k, .string a, .string t] ty (0, 0))) : W.cell? ⟨g, 0, none⟩ = some (.int .i64 k) ∧ W.cell? ⟨g, 1, none⟩ = some (.string a) ∧ W.cell? ⟨g, 2, none⟩ = some (.string t) :=
 ⟨by rw [blk_cell h]; rfl, by rw [blk_cell h]; rfl, by rw [blk_cell h]; rfl⟩
abbrev FT := S28
def fP (n : Int) (x : FT) : Bool := x.f0 == n && x.f1 != 0
def idxF (l : List FT) (n : Int) : Int := match l.findIdx? (fP n) with | some i => (i : Int) | none => -1
def faultV (l : List FT) (n : Int) : Int := match l.find? (fP n) with | some x => x.f1 | none => 0
theorem idx_found {l : List FT} {n : Int} {i : Nat} (h : i < l.length) (hi : fP n l[i] = true) (hb : ∀ j (hj : j < i), fP n (l[j]'(Nat.lt_trans hj h)) = false) : idxF l n = (i : Int) ∧ faultV l n = l[i].f1 := by
 have h1 : l.findIdx? (fP n) = some i := by
  rw [List.findIdx?_eq_some_iff_getElem]
  exact ⟨h, hi, fun j hj => by rw [hb j hj]; simp⟩
 have h2 : l.find? (fP n) = some l[i] := by
  rw [List.find?_eq_some_iff_getElem]
  exact ⟨hi, i, h, rfl, fun j hj => by rw [hb j hj]; rfl⟩
 unfold idxF faultV
 rw [h1, h2]
 exact ⟨rfl, rfl⟩
theorem idx_none {l : List FT} {n : Int} (hb : ∀ j (hj : j < l.length), fP n l[j] = false) : idxF l n = -1 ∧ faultV l n = 0 := by
 have h1 : l.findIdx? (fP n) = none := by
  rw [List.findIdx?_eq_none_iff]
  intro x hx
  obtain ⟨j, hj, rfl⟩ := List.mem_iff_getElem.1 hx
  exact hb j hj
 have h2 : l.find? (fP n) = none := by
  rw [List.find?_eq_none]
  intro x hx
  obtain ⟨j, hj, rfl⟩ := List.mem_iff_getElem.1 hx
  rw [hb j hj]; simp
 unfold idxF faultV
 rw [h1, h2]
 exact ⟨rfl, rfl⟩
theorem fault1_calls (x : FT) (n : Int) (g : Nat) (w : World) (h : w.heap[g]? = some (.cells #[.int .i64 n] 3 (0, 0))) :
  Calls Try.prog 18 #[.agg #[.int .i64 x.f0, .int .i64 x.f1], .pointer (some ⟨g, 0, none⟩)] w fun e w' => e = .returned (.bool (fP n x)) ∧ Below w.heap.size w w' := by
 obtain ⟨a, b⟩ := x
 have hb := (Below.refl w.heap.size w).alloc (Nat.le_refl _) (.cells #[.int .i64 a, .int .i64 b] 28)
 have h1 := (hb.block _ (blk_lt h)).trans h
 have h2 := heap_alloc_new w (.cells #[.int .i64 a, .int .i64 b] 28)
 have x0 : (w.alloc (.cells #[.int .i64 a, .int .i64 b] 28)).cell? ⟨g, 0, none⟩ = some (.int .i64 n) := by rw [blk_cell h1]; rfl
 have HB := qh hb
 unfold fP
 simp only []
 clear h h1 hb h2
 by_cases e : a = n
 ·
  have e1 : (a == n) = true := beq_iff_eq.2 e
  rw [e1]
  clear e
  go_enter Try.func18, Try.ntmps18
  go_wp2
  go_ret
  exact ⟨rfl, HB.out⟩
 ·
  have e1 : (a == n) = false := beq_eq_false_iff_ne.2 e
  rw [e1]
  clear e
  go_enter Try.func18, Try.ntmps18
  go_wp2
  go_ret
  exact ⟨rfl, HB.out⟩
theorem indexF_calls (A : Option Addr) (c : Nat) (l : List FT) (n : Int) (g : Nat) (w : World) (hC : Kd.C k28 w A l.length l) (hc : l.length ≤ c) (hl : l.length ≤ 1000000) (h : w.heap[g]? = some (.cells #[.int .i64 n] 3 (0, 0))) :
  Calls Try.prog 17 #[.slice A l.length c, .func (.func 18) #[] #[.pointer (some ⟨g, 0, none⟩)]] w fun e w' => e = .returned (.int .i64 (idxF l n)) ∧ Below w.heap.size w w' := by
 have HC := qh hC
 have HL := qh hl
 have HG := qh h
 have H1 := qh (fun x W h => fault1_calls x n g W h)
 clear hC hl h
 go_enter Try.func17, Try.ntmps17
 go_wp2
 go_loopw [8] (fun v8 wr => ∃ i : Nat, v8 = .int .i64 (i : Int) ∧ i ≤ l.length ∧ (∀ j (hj : j < l.length), j < i → fP n l[j] = false) ∧ Below w.heap.size w wr) (fun v _ => l.length - (intOf v).toNat)
 case atStart => exact ⟨0, rfl, Nat.zero_le _, fun j _ hj => absurd hj (Nat.not_lt_zero _), Below.refl _ _⟩
 case round =>
  obtain ⟨i, rfl, hi, hbef, hB⟩ := hrel
  have HBF := qh hbef
  have HB := qh hB
  clear hbef
  by_cases hlt : i < l.length
  ·
   have hlt' : (i : Int) < (l.length : Int) := by omega
   obtain ⟨ad, eA, a0, a1⟩ := at_T28 (Kd.C_below HC.out hB) (i : Int) (by omega) hlt'
   have hrd : rd_T28 l (i : Int) = l[i] := by simp [rd_T28, hlt]
   rw [hrd] at a0 a1
   rw [Int.toNat_natCast] at a0 a1
   subst eA
   have HV := qh (show ∀ b, fP n l[i] = b → True from fun _ _ => trivial)
   obtain ⟨b, hb⟩ : ∃ b, fP n l[i] = b := ⟨_, rfl⟩
   have HPB := qh hb
   have H1' := qh (fun W h => H1.out l[i] W h)
   rw [hb] at H1'
   generalize l[i].f0 = y0 at *
   generalize l[i].f1 = y1 at *
   clear hB hrd hb HV
   cases b with
   | true =>
    go_wp2_with (go_at_call 18; refine (H1'.out _ ((HB.out.block _ (blk_lt HG.out)).trans HG.out)).mono ?_; rintro e w3 ⟨rfl, hb3⟩; have HB3 := qh (HB.out.trans (hb3.mono HB.out.size)); clear hb3 a0 a1)
    go_ret
    exact ⟨by rw [(idx_found hlt HPB.out (fun j hj => HBF.out j _ hj)).1]; rfl, HB3.out⟩
   | false =>
    go_wp2_with (go_at_call 18; refine (H1'.out _ ((HB.out.block _ (blk_lt HG.out)).trans HG.out)).mono ?_; rintro e w3 ⟨rfl, hb3⟩; have HB3 := qh (HB.out.trans (hb3.mono HB.out.size)); clear hb3 a0 a1)
    go_roundw
    case rel => exact ⟨i + 1, by have := HL.out; rw [w1 (by omega)], hlt, fun j hj hji => by
     by_cases e : j = i
     · subst e; exact HPB.out
     · exact HBF.out j hj (by omega), HB3.out⟩
    case measure => exact meas_big hlt HL.out
  ·
   obtain rfl : i = l.length := by omega
   have hlt' : ¬ (l.length : Int) < (l.length : Int) := by omega
   clear hB
   go_wp2
   go_ret
   exact ⟨by rw [(idx_none (fun j hj => HBF.out j hj hj)).1]; rfl, HB.out⟩
structure FsAt (W : World) (f p : Nat) (l : List FT) (cnt : Int) (dn : Bool) : Prop where
 ex : ∃ A c, W.heap[f]? = some (.cells #[pT p, .slice A l.length c, .int .i64 cnt, .bool dn] 38 (0, 0)) ∧ l.length ≤ c ∧ ∃ base, Kd.R k28 28 W base (fun _ => True) (.slice A l.length c) l
theorem FsAt.below {w W : World} {f p : Nat} {l : List FT} {cnt : Int} {dn : Bool} (h : FsAt w f p l cnt dn) (hb : Below w.heap.size w W) : FsAt W f p l cnt dn := by
 obtain ⟨A, c, h1, h2, base, h3⟩ := h.ex
 exact ⟨A, c, (hb.block _ (blk_lt h1)).trans h1, h2, base, Kd.R_below h3 hb⟩
theorem FsAt.frm {w W : World} {f p q B : Nat} {T : Tr} {l : List FT} {cnt : Int} {dn : Bool} (h : FsAt w f p l cnt dn) (hT : TreeB w q B T) (hf : Frm w W q B) : FsAt W f p l cnt dn := by
 obtain ⟨A, c, h1, h2, base, h3⟩ := h.ex
 refine ⟨A, c, cells_frm h1 (by decide) hT hf, h2, base, ?_⟩
 obtain ⟨hp, es, clock, hB⟩ := hT.two
 have h4 := Kd.R_mono (Kd.R_bound h3) (ok' := fun k => k ≠ q ∧ k ≠ B) (fun k hk => by
  obtain ⟨_, _, _, t, ht, cells, hc⟩ := hk
  have ht : t = 28 := by simpa [k28, Kd.iso, Kd.pair, Kd.int, Kd.scalar] using ht
  subst ht
  refine ⟨?_, ?_⟩
  ·
   rintro rfl
   rw [hp] at hc
   injection hc with hc
   injection hc with _ hc
   exact absurd hc (by decide)
  ·
   rintro rfl
   rw [hB] at hc
   cases hc)
 exact Kd.R_mono (Kd.R_step h4 (fun k hk hlt => hf.block k hlt hk.1 hk.2)) (fun _ _ => trivial)
theorem fault_calls (f p : Nat) (l : List FT) (cnt : Int) (dn : Bool) (n : Int) (w : World) (h : FsAt w f p l cnt dn) (hl : l.length ≤ 1000000) :
  Calls Try.prog 13 #[.pointer (some ⟨f, 0, none⟩), .int .i64 n] w fun e w' => e = .returned (.int .i64 (faultV l n)) ∧ Below w.heap.size w w' := by
 obtain ⟨A, c, h1, hc, base, hR⟩ := h.ex
 obtain ⟨A', c', e', -, hC⟩ := Kd.R_reads hR
 cases e'
 have hb := (Below.refl w.heap.size w).alloc (Nat.le_refl _) (.cells #[.int .i64 n] 3)
 have h2 := heap_alloc_new w (.cells #[.int .i64 n] 3)
 have HB := qh hb
 have HG := qh h2
 have HC := qh (Kd.C_below hC hb)
 have HX := qh (fun (W : World) (q : Below (w.alloc (.cells #[.int .i64 n] 3)).heap.size (w.alloc (.cells #[.int .i64 n] 3)) W) => show W.cell? ⟨f, 1, none⟩ = some (.slice A l.length c) by
  have e1 := (hb.block _ (blk_lt h1)).trans h1
  have e2 := (q.block _ (blk_lt e1)).trans e1
  rw [blk_cell e2]; rfl)
 have HI := qh (fun W h1 h2 => indexF_calls A c l n w.heap.size W h1 hc hl h2)
 have HV : Hid ((l.findIdx? (fP n) = none → idxF l n = -1 ∧ faultV l n = 0) ∧ ∀ i (hi : i < l.length), l.findIdx? (fP n) = some i → idxF l n = (i : Int) ∧ faultV l n = l[i].f1) := qh ⟨fun hf => by
   rw [List.findIdx?_eq_none_iff] at hf
   exact idx_none (fun j hj => hf _ (List.getElem_mem hj)), fun i hi hf => by
   rw [List.findIdx?_eq_some_iff_getElem] at hf
   obtain ⟨_, h1, h2⟩ := hf
   exact idx_found hi h1 (fun j hj => by simpa using h2 j hj)⟩
 generalize idxF l n = ix at *
 generalize faultV l n = fv at *
 clear h hR hC hb h2 h1
 go_enter Try.func13, Try.ntmps13
 go_upto_region 1 with (fail)
 generalize w.alloc (.cells #[.int .i64 n] 3) = w2 at HB HG HC HX ⊢
 have x1 := HX.out _ (Below.refl _ _)
 go_upto_region 2 with (go_at_call 17; refine (HI.out _ HC.out HG.out).mono ?_; rintro e w3 ⟨rfl, hb3⟩; have HB3 := qh hb3; clear hb3 x1)
 have x1 := HX.out _ HB3.out
 cases hf : l.findIdx? (fP n) with
 | none =>
  obtain ⟨rfl, rfl⟩ := HV.out.1 hf
  clear hf HV
  go_wp2
  go_ret
  exact ⟨rfl, HB.out.trans (HB3.out.mono HB.out.size)⟩
 | some i =>
  have hi : i < l.length := by rw [List.findIdx?_eq_some_iff_getElem] at hf; exact hf.1
  obtain ⟨rfl, hfv⟩ := HV.out.2 i hi hf
  obtain ⟨ad, eA, a0, a1⟩ := at_T28 (Kd.C_below HC.out HB3.out) (i : Int) (by omega) (by omega)
  have hrd : rd_T28 l (i : Int) = l[i] := by simp [rd_T28, hi]
  rw [hrd] at a0 a1
  rw [Int.toNat_natCast] at a0 a1
  subst eA
  have hlt : (i : Int) < (l.length : Int) := by omega
  have hge : ¬ (i : Int) < 0 := by omega
  clear hrd HV hf
  generalize l[i].f0 = y0 at *
  generalize l[i].f1 = y1 at *
  have HFV := qh hfv
  clear hfv
  go_wp2
  go_ret
  exact ⟨by rw [HFV.out]; rfl, HB.out.trans (HB3.out.mono HB.out.size)⟩
structure Fr3 (w w' : World) (p B f : Nat) : Prop where
 os : w'.os = w.os
 tape : w'.tape = w.tape
 output : w'.output = w.output
 size : w.heap.size ≤ w'.heap.size
 block : ∀ k, k < w.heap.size → k ≠ p → k ≠ B → k ≠ f → w'.heap[k]? = w.heap[k]?
theorem Fr3.refl (w : World) (p B f : Nat) : Fr3 w w p B f := ⟨rfl, rfl, rfl, Nat.le_refl _, fun _ _ _ _ _ => rfl⟩
theorem Fr3.trans {w w1 w2 : World} {p B f : Nat} (h : Fr3 w w1 p B f) (k : Fr3 w1 w2 p B f) : Fr3 w w2 p B f :=
 ⟨k.os.trans h.os, k.tape.trans h.tape, k.output.trans h.output, Nat.le_trans h.size k.size, fun j hj h1 h2 h3 => (k.block j (Nat.lt_of_lt_of_le hj h.size) h1 h2 h3).trans (h.block j hj h1 h2 h3)⟩
theorem Fr3.ofBelow {w w' : World} {p B f : Nat} (h : Below w.heap.size w w') : Fr3 w w' p B f := ⟨h.os, h.tape, h.output, h.size, fun k hk _ _ _ => h.block k hk⟩
theorem Fr3.ofFrm {w w' : World} {p B f : Nat} (h : Frm w w' p B) : Fr3 w w' p B f := ⟨h.os, h.tape, h.output, h.size, fun k hk h1 h2 _ => h.block k hk h1 h2⟩
theorem Fr3.ofSet {w : World} {p B f : Nat} (i : Nat) (v : Value) : Fr3 w (w.setCell ⟨f, i, none⟩ v) p B f := ⟨rfl, rfl, rfl, by simp, fun k _ _ _ h => Below.heap_setCell w ⟨f, i, none⟩ v k h⟩
theorem Fr3.below {w w' : World} {p B f base : Nat} (h : Fr3 w w' p B f) (hb : base ≤ w.heap.size) (hp : base ≤ p) (hB : base ≤ B) (hf : base ≤ f) : Below base w w' :=
 ⟨h.os, h.tape, h.output, h.size, fun k hk => h.block k (by omega) (by omega) (by omega) (by omega)⟩
theorem R115_set {w : World} {f base : Nat} {v : Value} {l : List FT} {cs : Array Value} (h : Kd.R k28 28 w base (fun _ => True) v l) (hf : w.heap[f]? = some (.cells cs 38 (0, 0))) (i : Nat) (u : Value) : Kd.R k28 28 (w.setCell ⟨f, i, none⟩ u) base (fun _ => True) v l := by
 have h4 := Kd.R_mono (Kd.R_bound h) (ok' := fun k => k ≠ f) (fun k hk => by
  obtain ⟨_, _, _, t, ht, cells, hc⟩ := hk
  have ht : t = 28 := by simpa [k28, Kd.iso, Kd.pair, Kd.int, Kd.scalar] using ht
  subst ht
  rintro rfl
  rw [hf] at hc
  injection hc with hc
  injection hc with _ hc
  exact absurd hc (by decide))
 exact Kd.R_mono (Kd.R_far (p := ⟨f, i, none⟩) h4 (fun k hk => hk) u) (fun _ _ => trivial)
theorem fs_set {w : World} {f : Nat} {v0 v1 v2 v3 : Value} {t : TypeId} (h : w.heap[f]? = some (.cells #[v0, v1, v2, v3] t (0, 0))) (u : Value) :
  (w.setCell ⟨f, 1, none⟩ u).heap[f]? = some (.cells #[v0, u, v2, v3] t (0, 0)) ∧ (w.setCell ⟨f, 2, none⟩ u).heap[f]? = some (.cells #[v0, v1, u, v3] t (0, 0)) ∧ (w.setCell ⟨f, 3, none⟩ u).heap[f]? = some (.cells #[v0, v1, v2, u] t (0, 0)) :=
 ⟨by rw [setCell_eq_setRow w _ 1 _ _ _ _ h, setRow_heap w _ _ _ _ _ h]; rfl, by rw [setCell_eq_setRow w _ 2 _ _ _ _ h, setRow_heap w _ _ _ _ _ h]; rfl, by rw [setCell_eq_setRow w _ 3 _ _ _ _ h, setRow_heap w _ _ _ _ _ h]; rfl⟩
theorem fs_cells {W : World} {f : Nat} {v0 v1 v2 v3 : Value} {t : TypeId} (h : W.heap[f]? = some (.cells #[v0, v1, v2, v3] t (0, 0))) :
  (W.cell? ⟨f, 0, none⟩ = some v0 ∧ W.cell? ⟨f, 1, none⟩ = some v1 ∧ W.cell? ⟨f, 2, none⟩ = some v2 ∧ W.cell? ⟨f, 3, none⟩ = some v3) ∧ (W.frozen? ⟨f, 1, none⟩ = false ∧ W.frozen? ⟨f, 2, none⟩ = false ∧ W.frozen? ⟨f, 3, none⟩ = false) :=
 ⟨⟨by rw [blk_cell h]; rfl, by rw [blk_cell h]; rfl, by rw [blk_cell h]; rfl, by rw [blk_cell h]; rfl⟩, blk_frozen h 1, blk_frozen h 2, blk_frozen h 3⟩
theorem but_fs {w : World} {f p : Nat} {l : List FT} {cnt : Int} {dn : Bool} (h : FsAt w f p l cnt dn) (i : Nat) (u : Value) : But w (w.setCell ⟨f, i, none⟩ u) f := by
 obtain ⟨A, c, h1, -⟩ := h.ex
 refine ⟨⟨rfl, rfl, rfl, by simp, fun j _ hj => Below.heap_setCell w ⟨f, i, none⟩ u j (fun e => hj (by rw [e]))⟩, ?_⟩
 rintro ⟨b, o, sp⟩ s rfl
 simp only [World.cell?, h1]
 split
 · simp
 ·
  match o with
  | 0 => simp [pT]
  | 1 => simp
  | 2 => simp
  | 3 => simp
  | n + 4 => simp
theorem FsAt.ne {w : World} {f p q B : Nat} {l : List FT} {cnt : Int} {dn : Bool} {T : Tr} (h : FsAt w f p l cnt dn) (hT : TreeB w q B T) : q ≠ f ∧ B ≠ f := by
 obtain ⟨A, c, h1, -⟩ := h.ex
 obtain ⟨h2, es, ck, h3⟩ := hT.two
 constructor
 ·
  rintro rfl
  rw [h2] at h1
  injection h1 with h1
  injection h1 with _ h1
  exact absurd h1 (by decide)
 ·
  rintro rfl
  rw [h3] at h1
  cases h1
theorem FsAt.tree {w : World} {f p q B : Nat} {l : List FT} {cnt : Int} {dn : Bool} {T : Tr} (h : FsAt w f p l cnt dn) (hT : TreeB w q B T) (i : Nat) (u : Value) : TreeB (w.setCell ⟨f, i, none⟩ u) q B T := hT.but (but_fs h i u) (h.ne hT).1 (h.ne hT).2
theorem FsAt.set2 {w : World} {f p : Nat} {l : List FT} {cnt : Int} {dn : Bool} (h : FsAt w f p l cnt dn) (n : Int) : FsAt (w.setCell ⟨f, 2, none⟩ (.int .i64 n)) f p l n dn := by
 obtain ⟨A, c, h1, h2, base, h3⟩ := h.ex
 exact ⟨A, c, (fs_set h1 (.int .i64 n)).2.1, h2, base, R115_set h3 h1 _ _⟩
theorem FsAt.set3 {w : World} {f p : Nat} {l : List FT} {cnt : Int} {dn : Bool} (h : FsAt w f p l cnt dn) (b : Bool) : FsAt (w.setCell ⟨f, 3, none⟩ (.bool b)) f p l cnt b := by
 obtain ⟨A, c, h1, h2, base, h3⟩ := h.ex
 exact ⟨A, c, (fs_set h1 (.bool b)).2.2, h2, base, R115_set h3 h1 _ _⟩
theorem FsAt.cells {w : World} {f p : Nat} {l : List FT} {cnt : Int} {dn : Bool} (h : FsAt w f p l cnt dn) : w.cell? ⟨f, 0, none⟩ = some (pT p) ∧ w.cell? ⟨f, 2, none⟩ = some (.int .i64 cnt) ∧ w.cell? ⟨f, 3, none⟩ = some (.bool dn) ∧ w.frozen? ⟨f, 2, none⟩ = false ∧ w.frozen? ⟨f, 3, none⟩ = false := by
 obtain ⟨A, c, h1, -⟩ := h.ex
 obtain ⟨⟨a, -, b, c⟩, -, d, e⟩ := fs_cells h1
 exact ⟨a, b, c, d, e⟩
theorem countfs_calls (f p : Nat) (l : List FT) (cnt : Int) (dn : Bool) (w : World) (h : FsAt w f p l cnt dn) : Calls Try.prog 7 #[.pointer (some ⟨f, 0, none⟩)] w fun e w' => e = .returned (.int .i64 cnt) ∧ w' = w := by
 obtain ⟨c0, c2, c3, -⟩ := h.cells
 clear h
 go_enter Try.func7, Try.ntmps7
 go_wp2
 go_ret
 exact ⟨rfl, rfl⟩
theorem treefs_calls (f p : Nat) (l : List FT) (cnt : Int) (dn : Bool) (w : World) (h : FsAt w f p l cnt dn) : Calls Try.prog 9 #[.pointer (some ⟨f, 0, none⟩)] w fun e w' => e = .returned (pT p) ∧ w' = w := by
 obtain ⟨c0, c2, c3, -⟩ := h.cells
 clear h
 go_enter Try.func9, Try.ntmps9
 go_wp2
 go_ret
 exact ⟨rfl, rfl⟩
theorem newfs_nil (w : World) : Calls Try.prog 15 #[.pointer none] w fun e w' => ∃ f p B, e = .returned (.pointer (some ⟨f, 0, none⟩)) ∧ FsAt w' f p [] 0 false ∧ TreeB w' p B T0 ∧ Below w.heap.size w w' ∧ w.heap.size ≤ f ∧ w.heap.size ≤ p ∧ w.heap.size ≤ B := by
 have HN := qh (fun W => new_calls W)
 go_enter Try.func15, Try.ntmps15
 go_wp2_with (go_at_call 29; refine (HN.out _).mono ?_; rintro e w2 ⟨p, B, rfl, hT2, hb2, hp2, hB2⟩)
 go_ret
 exact ⟨_, p, B, rfl, ⟨none, 0, heap_alloc_new w2 _, Nat.le_refl _, 0, Kd.R_nil _ _ _ _ _⟩, hT2.below (below_alloc (Below.refl _ _) _), hb2.alloc hb2.size _, hb2.size, hp2, hB2⟩
theorem info115' : (Try.prog.info? 28).map (fun i => (i.zero, i.size, i.bytes)) = some (some (.agg #[.int .i64 0, .int .i64 0]), 2, 16) := by kernel_rfl
theorem cloneF_calls (A : Option Addr) (c : Nat) (l : List FT) (w : World) (hr : Kd.C k28 w A l.length l) (hc : l.length ≤ c) (hl : l.length < 4294967296) :
  Calls Try.prog 11 #[.slice A l.length c] w fun e w' => ∃ v, e = .returned v ∧ Kd.R k28 28 w' w.heap.size (fun _ => True) v l ∧ Below w.heap.size w w' := by
 have hq := fun W => Lib.run_eql_slice_nil (P := Try.prog) W 35 28 A l.length c 0 0 Try.underlying35
 have HR := qh hr
 have HRE := qh (R_empty k28 28 w w.heap.size (Nat.le_refl _))
 have HB := qh ((Below.refl w.heap.size w).alloc (Nat.le_refl _) (.cells #[] 28))
 cases A with
 | none =>
  have h0 : l = [] := by
   cases l with
   | nil => rfl
   | cons a b => obtain ⟨ad, e, _⟩ := hr.2.2 (by simp); cases e
  subst h0
  clear hr HR hq
  have hq := fun W => Lib.run_eql_slice_nil (P := Try.prog) W 35 28 none 0 c 0 0 Try.underlying35
  simp only [Option.isNone_none] at hq
  go_enter Try.func11, Try.ntmps11
  go_wp2
  go_ret
  exact ⟨_, rfl, Kd.R_nil _ _ _ _ _, Below.refl _ _⟩
 | some ad =>
  clear hr
  simp only [Option.isNone_some] at hq
  go_enter Try.func11, Try.ntmps11
  go_wp2_with ((with_reducible refine gate_builtin (b := .append) (xs := #[.tmp 5, .tmp 6]) rfl ?_); at_builtin; refine Kd.R_append_rows k28 (w0 := w) w.heap.size rfl (.tmp 5) (.tmp 6) 35 28 (.agg #[.int .i64 0, .int .i64 0]) 16 rfl Try.underlying35 info115' rfl (by decide) (by omega) _ [] l _ _ _ (fun _ => True) (fun _ => False) rfl rfl HRE.out (Kd.C_below HR.out HB.out) (fun _ _ h => by obtain rfl := k28_open h; exact k28_mkM _ _ _ _) (fun _ h => h.elim) (fun _ _ => trivial) HB.out (by simp) (by simp; omega) ?_; intro v1 w1 ho hb hg hat)
  go_ret
  exact ⟨_, rfl, ho, hb⟩
theorem planfs_calls (f p B : Nat) (T : Tr) (l l' : List FT) (cnt : Int) (dn : Bool) (A : Option Addr) (c : Nat) (w : World) (h : FsAt w f p l cnt dn) (hT : TreeB w p B T) (hC : Kd.C k28 w A l'.length l') (hc : l'.length ≤ c) (hl : l'.length < 4294967296) :
  Calls Try.prog 4 #[.pointer (some ⟨f, 0, none⟩), .slice A l'.length c] w fun e w' => e = .returned (.tuple #[]) ∧ FsAt w' f p l' 0 dn ∧ TreeB w' p B T ∧ Fr3 w w' p B f := by
 have HFS := qh h
 have HT := qh hT
 have HCL := qh (fun W h => cloneF_calls A c l' W h hc hl)
 have HC := qh hC
 clear h hT hC
 go_enter Try.func4, Try.ntmps4
 go_wp2_with (go_at_call 11; refine (HCL.out _ HC.out).mono ?_; rintro e w2 ⟨v2, rfl, hR2, hb2⟩; obtain ⟨A2, c2, rfl, hl2, -⟩ := Kd.R_reads hR2; have HB2 := qh hb2; have HR2 := qh hR2; have HL2 := qh hl2; have HF2 := qh (HFS.out.below hb2); obtain ⟨A0, c0, hf2, -⟩ := HF2.out.ex; obtain ⟨⟨x0, x1, x2, x3⟩, f1, f2, f3⟩ := fs_cells hf2; have hf3 := (fs_set hf2 (.slice A2 l'.length c2)).1; have y2 : (w2.setCell ⟨f, 1, none⟩ (.slice A2 l'.length c2)).cell? ⟨f, 2, none⟩ = some (.int .i64 cnt) := (by rw [blk_cell hf3]; rfl); have g2 := blk_frozen hf3 2; clear hb2 hR2 hl2)
 have hn := (HF2.out.ne (HT.out.below HB2.out))
 have hT3 := HF2.out.tree (HT.out.below HB2.out) 1 (.slice A2 l'.length c2)
 have hR3 := R115_set HR2.out hf2 1 (.slice A2 l'.length c2)
 have hFA : FsAt (w2.setCell ⟨f, 1, none⟩ (.slice A2 l'.length c2)) f p l' cnt dn := ⟨A2, c2, hf3, HL2.out, _, hR3⟩
 refine bodyPost_end (v := .tuple #[]) (by simp [results, Try.results4, go_sem]) rfl ⟨rfl, hFA.set2 0, hFA.tree hT3 2 (.int .i64 0), ((Fr3.ofBelow HB2.out).trans (Fr3.ofSet 1 _)).trans (Fr3.ofSet 2 _)⟩
noncomputable def fsP (L : List RN) (la : Int) (fl : List FT) (cnt : Int) (dn : Bool) (k : Int) (a t : ByteArray) : Op3 × Int × Bool :=
 if dn = true then ((L, la, 17), cnt, dn) else if ¬ (1 ≤ k ∧ k ≤ 6) then ((L, la, 2), cnt, dn) else
  if faultV fl (cnt + 1) ≠ 0 then ((L, la, faultV fl (cnt + 1)), cnt + 1, faultV fl (cnt + 1) == 17) else (doP L la k a t, cnt + 1, false)
theorem fine_fs {L : List RN} {la : Int} (hG : GoodL L la) (hM : GoodM L) (fl : List FT) (cnt : Int) (dn : Bool) (k : Int) (a t : ByteArray) : Fine L la (fsP L la fl cnt dn k a t).1 ∧ (fsP L la fl cnt dn k a t).2.1 ≤ cnt + 1 ∧ cnt ≤ (fsP L la fl cnt dn k a t).2.1 := by
 unfold fsP
 split
 · exact ⟨fine_err hG hM, by show cnt ≤ cnt + 1; omega, Int.le_refl _⟩
 ·
  split
  · exact ⟨fine_err hG hM, by show cnt ≤ cnt + 1; omega, Int.le_refl _⟩
  ·
   split
   · exact ⟨fine_err hG hM, Int.le_refl _, by show cnt ≤ cnt + 1; omega⟩
   · exact ⟨fine_do hG hM k a t, Int.le_refl _, by show cnt ≤ cnt + 1; omega⟩
def FsLeft (f p B : Nat) (fl : List FT) (w : World) (r : Op3 × Int × Bool) (e : Ending) (w' : World) : Prop :=
 e = .returned (.int .i64 r.1.2.2) ∧ FsAt w' f p fl r.2.1 r.2.2 ∧ TreeB w' p B (trOf r.1.1 r.1.2.1) ∧ Fr3 w w' p B f
theorem do10_calls (f p B : Nat) (L : List RN) (la : Int) (fl : List FT) (cnt : Int) (dn : Bool) (k : Int) (a t : ByteArray) (w : World) (h : FsAt w f p fl cnt dn) (hT : TreeB w p B (trOf L la)) (hG : GoodL L la) (hM : GoodM L) (hla : la < 1000000) (hl : fl.length ≤ 1000000) (hcnt : 0 ≤ cnt ∧ cnt ≤ 1000000) :
  Calls Try.prog 6 #[.pointer (some ⟨f, 0, none⟩), .agg #[.int .i64 k, .string a, .string t]] w (FsLeft f p B fl w (fsP L la fl cnt dn k a t)) := by
 have hu36 := Try.underlying23
 have hw : wrap64 (cnt + 1) = cnt + 1 := by unfold wrap64; omega
 have hb := below_alloc (Below.refl w.heap.size w) (.cells #[.int .i64 k, .string a, .string t] 23)
 have HB1 := qh hb
 have H1 := qh (heap_alloc_new w (.cells #[.int .i64 k, .string a, .string t] 23))
 have HF1 := qh (h.below hb)
 have HT1 := qh (hT.below hb)
 have HD := qh (fun W => deeds_calls W)
 have HFA := qh (fun W h => fault_calls f p fl (cnt + 1) dn (cnt + 1) W h hl)
 have HR : Hid (fsP L la fl cnt dn k a t = if dn = true then ((L, la, 17), cnt, dn) else if ¬ (1 ≤ k ∧ k ≤ 6) then ((L, la, 2), cnt, dn) else if faultV fl (cnt + 1) ≠ 0 then ((L, la, faultV fl (cnt + 1)), cnt + 1, faultV fl (cnt + 1) == 17) else (doP L la k a t, cnt + 1, false)) := qh rfl
 generalize fsP L la fl cnt dn k a t = r at *
 generalize faultV fl (cnt + 1) = fv at *
 generalize hn1 : cnt + 1 = n1 at *
 clear h hT hl hb hcnt
 cases dn with
 | true =>
  obtain rfl : r = ((L, la, 17), cnt, true) := by rw [HR.out, if_pos rfl]
  obtain ⟨c0, c2, c3, g2, g3⟩ := HF1.out.cells
  clear HR HD HFA hn1
  go_enter Try.func6, Try.ntmps6
  go_wp2
  go_ret
  exact ⟨rfl, HF1.out, HT1.out, Fr3.ofBelow HB1.out⟩
 | false =>
  by_cases hk : 1 ≤ k ∧ k ≤ 6
  ·
   have HR1 : Hid (r = if fv ≠ 0 then ((L, la, fv), n1, fv == 17) else (doP L la k a t, n1, false)) := qh (by rw [HR.out, if_neg (by decide), if_neg (fun q => q hk)])
   clear HR
   have HKN := qh (fun W => known_yes k W hk)
   obtain ⟨c0, c2, c3, g2, g3⟩ := HF1.out.cells
   have HF2 := qh (HF1.out.set2 n1)
   have HT2 := qh (HF1.out.tree HT1.out 2 (.int .i64 n1))
   have HB2 := qh ((Fr3.ofBelow (p := p) (B := B) (f := f) HB1.out).trans (Fr3.ofSet 2 (.int .i64 n1)))
   have hne : w.heap.size ≠ f := by
    rintro rfl
    obtain ⟨A, c, h1, -⟩ := HF1.out.ex
    rw [H1.out] at h1
    injection h1 with h1
    injection h1 with _ h1
    exact absurd h1 (by decide)
   have H2 := qh ((Below.heap_setCell (w.alloc (.cells #[.int .i64 k, .string a, .string t] 23)) ⟨f, 2, none⟩ (.int .i64 n1) w.heap.size hne).trans H1.out)
   generalize hgb : w.heap.size = gb at *
   go_enter Try.func6, Try.ntmps6
   go_upto_region 8 with (go_at_call 12; refine (HKN.out _).mono ?_; rintro e w' ⟨rfl, rfl⟩)
   generalize (w.alloc (.cells #[.int .i64 k, .string a, .string t] 23)).setCell ⟨f, 2, none⟩ (.int .i64 n1) = w2 at HF2 HT2 HB2 H2 ⊢
   clear c0 c2 c3 g2 g3 HF1 HT1 HB1 H1 HKN hne hn1 hw hgb
   obtain ⟨c0, c2, c3, g2, g3⟩ := HF2.out.cells
   go_upto_region 9 with (go_at_call 13; refine (HFA.out _ HF2.out).mono ?_; rintro e w3 ⟨rfl, hb3⟩; have HF3 := qh (HF2.out.below hb3); have HT3 := qh (HT2.out.below hb3); have HB3 := qh (HB2.out.trans (Fr3.ofBelow hb3)); have H3 := qh ((hb3.block _ (blk_lt H2.out)).trans H2.out); clear hb3 c0 c2 c3 g2 g3)
   obtain ⟨c0, c2, c3, g2, g3⟩ := HF3.out.cells
   clear HF2 HT2 HB2 H2 HFA
   by_cases hfv : fv = 0
   ·
    subst hfv
    obtain ⟨y0, y1, y2⟩ := box3 H3.out
    have HY := qh (fun (W : World) (q : Below w3.heap.size w3 W) => show W.cell? ⟨gb, 0, none⟩ = some (.int .i64 k) ∧ W.cell? ⟨gb, 1, none⟩ = some (.string a) ∧ W.cell? ⟨gb, 2, none⟩ = some (.string t) ∧ W.cell? ⟨f, 0, none⟩ = some (pT p) from (fun ⟨u0, u1, u2⟩ => ⟨u0, u1, u2, (HF3.out.below q).cells.1⟩) (box3 ((q.block _ (blk_lt H3.out)).trans H3.out)))
    clear c2 c3 g2 g3
    go_upto_region 12 with (fail)
    by_cases k1 : k = 1
    ·
     subst k1
     have e0 : doP L la 1 a t = mkP L la a 1 ⟨#[]⟩ := by unfold doP; simp
     have hr := HR1.out
     rw [if_neg (by simp), e0] at hr
     have HCK := qh (fun g W h hg => by1_Mkdir p B L la 1 a t g W h hG hM hla hg)
     generalize mkP L la a 1 ⟨#[]⟩ = o at *
     obtain ⟨Lo, no, eo⟩ := o
     subst hr
     clear e0 HR1
     go_region_held3 (fun w' => w'.cell? ⟨gb, 0, none⟩ = some (.int .i64 1) ∧ w'.cell? ⟨gb, 1, none⟩ = some (.string a) ∧ w'.cell? ⟨gb, 2, none⟩ = some (.string t) ∧ w'.cell? ⟨f, 0, none⟩ = some (pT p)) (first | (go_keep; done) | exact HY5.out | exact HY.out _ HE4.out) (first | (go_at_call 14; refine (HD.out _).mono ?_; rintro e w4 ⟨v1, v2, v4, rfl, hv, hb4⟩; have HE4 : Hid (Below w3.heap.size w3 w4) := qh (by first | exact hb4 | exact (below_drew (Below.refl _ _)).trans hb4); clear hb4; obtain ⟨g, rfl, hg⟩ := hv.1; clear hv) | (go_at_call 30; refine (HCK.out _ _ (HT3.out.below HE4.out) hg).mono ?_; rintro e w5 ⟨rfl, hT5, hF5⟩; have HT5 := qh hT5; have HF5 := qh ((HF3.out.below HE4.out).frm (HT3.out.below HE4.out) hF5); have HB5 := qh (HB3.out.trans ((Fr3.ofBelow HE4.out).trans (Fr3.ofFrm hF5))); have hbx := box3 (cells_frm ((HE4.out.block _ (blk_lt H3.out)).trans H3.out) (by decide) (HT3.out.below HE4.out) hF5); have HY5 := qh (show w5.cell? ⟨gb, 0, none⟩ = some (.int .i64 1) ∧ w5.cell? ⟨gb, 1, none⟩ = some (.string a) ∧ w5.cell? ⟨gb, 2, none⟩ = some (.string t) ∧ w5.cell? ⟨f, 0, none⟩ = some (pT p) from ⟨hbx.1, hbx.2.1, hbx.2.2, HF5.out.cells.1⟩); clear hT5 hF5 hbx))
     all_goals
      go_wp2
      go_ret
      exact ⟨rfl, HF5.out, HT5.out, HB5.out⟩
    ·
     by_cases k2 : k = 2
     ·
      subst k2
      have e0 : doP L la 2 a t = cutP L la a true := by unfold doP; simp
      have hr := HR1.out
      rw [if_neg (by simp), e0] at hr
      have HCK := qh (fun g W h hg => by1_Rmdir p B L la 2 a t g W h hG hM hla hg)
      generalize cutP L la a true = o at *
      obtain ⟨Lo, no, eo⟩ := o
      subst hr
      clear e0 HR1
      go_region_held3 (fun w' => w'.cell? ⟨gb, 0, none⟩ = some (.int .i64 2) ∧ w'.cell? ⟨gb, 1, none⟩ = some (.string a) ∧ w'.cell? ⟨gb, 2, none⟩ = some (.string t) ∧ w'.cell? ⟨f, 0, none⟩ = some (pT p)) (first | (go_keep; done) | exact HY5.out | exact HY.out _ HE4.out) (first | (go_at_call 14; refine (HD.out _).mono ?_; rintro e w4 ⟨v1, v2, v4, rfl, hv, hb4⟩; have HE4 : Hid (Below w3.heap.size w3 w4) := qh (by first | exact hb4 | exact (below_drew (Below.refl _ _)).trans hb4); clear hb4; obtain ⟨g, rfl, hg⟩ := hv.2.1; clear hv) | (go_at_call 30; refine (HCK.out _ _ (HT3.out.below HE4.out) hg).mono ?_; rintro e w5 ⟨rfl, hT5, hF5⟩; have HT5 := qh hT5; have HF5 := qh ((HF3.out.below HE4.out).frm (HT3.out.below HE4.out) hF5); have HB5 := qh (HB3.out.trans ((Fr3.ofBelow HE4.out).trans (Fr3.ofFrm hF5))); have hbx := box3 (cells_frm ((HE4.out.block _ (blk_lt H3.out)).trans H3.out) (by decide) (HT3.out.below HE4.out) hF5); have HY5 := qh (show w5.cell? ⟨gb, 0, none⟩ = some (.int .i64 2) ∧ w5.cell? ⟨gb, 1, none⟩ = some (.string a) ∧ w5.cell? ⟨gb, 2, none⟩ = some (.string t) ∧ w5.cell? ⟨f, 0, none⟩ = some (pT p) from ⟨hbx.1, hbx.2.1, hbx.2.2, HF5.out.cells.1⟩); clear hT5 hF5 hbx))
      all_goals
       go_wp2
       go_ret
       exact ⟨rfl, HF5.out, HT5.out, HB5.out⟩
     ·
      by_cases k3 : k = 3
      ·
       subst k3
       have e0 : doP L la 3 a t = mkP L la a 3 t := by unfold doP; simp
       have hr := HR1.out
       rw [if_neg (by simp), e0] at hr
       have HCK := qh (fun W h => deeds1_calls p B L la 3 a t W h hG hM hla)
       generalize mkP L la a 3 t = o at *
       obtain ⟨Lo, no, eo⟩ := o
       subst hr
       clear e0 HR1
       go_region_held3 (fun w' => w'.cell? ⟨gb, 0, none⟩ = some (.int .i64 3) ∧ w'.cell? ⟨gb, 1, none⟩ = some (.string a) ∧ w'.cell? ⟨gb, 2, none⟩ = some (.string t) ∧ w'.cell? ⟨f, 0, none⟩ = some (pT p)) (first | (go_keep; done) | exact HY5.out | exact HY.out _ HE4.out) (first | (go_at_call 14; refine (HD.out _).mono ?_; rintro e w4 ⟨v1, v2, v4, rfl, hv, hb4⟩; have HE4 : Hid (Below w3.heap.size w3 w4) := qh (by first | exact hb4 | exact (below_drew (Below.refl _ _)).trans hb4); clear hb4; clear hv) | (go_at_call 23; refine (HCK.out _ (HT3.out.below HE4.out)).mono ?_; rintro e w5 ⟨rfl, hT5, hF5⟩; have HT5 := qh hT5; have HF5 := qh ((HF3.out.below HE4.out).frm (HT3.out.below HE4.out) hF5); have HB5 := qh (HB3.out.trans ((Fr3.ofBelow HE4.out).trans (Fr3.ofFrm hF5))); have hbx := box3 (cells_frm ((HE4.out.block _ (blk_lt H3.out)).trans H3.out) (by decide) (HT3.out.below HE4.out) hF5); have HY5 := qh (show w5.cell? ⟨gb, 0, none⟩ = some (.int .i64 3) ∧ w5.cell? ⟨gb, 1, none⟩ = some (.string a) ∧ w5.cell? ⟨gb, 2, none⟩ = some (.string t) ∧ w5.cell? ⟨f, 0, none⟩ = some (pT p) from ⟨hbx.1, hbx.2.1, hbx.2.2, HF5.out.cells.1⟩); clear hT5 hF5 hbx))
       all_goals
        go_wp2
        go_ret
        exact ⟨rfl, HF5.out, HT5.out, HB5.out⟩
      ·
       by_cases k4 : k = 4
       ·
        subst k4
        have e0 : doP L la 4 a t = cutP L la a false := by unfold doP; simp
        have hr := HR1.out
        rw [if_neg (by simp), e0] at hr
        have HCK := qh (fun g W h hg => by1_Unlink p B L la 4 a t g W h hG hM hla hg)
        generalize cutP L la a false = o at *
        obtain ⟨Lo, no, eo⟩ := o
        subst hr
        clear e0 HR1
        go_region_held3 (fun w' => w'.cell? ⟨gb, 0, none⟩ = some (.int .i64 4) ∧ w'.cell? ⟨gb, 1, none⟩ = some (.string a) ∧ w'.cell? ⟨gb, 2, none⟩ = some (.string t) ∧ w'.cell? ⟨f, 0, none⟩ = some (pT p)) (first | (go_keep; done) | exact HY5.out | exact HY.out _ HE4.out) (first | (go_at_call 14; refine (HD.out _).mono ?_; rintro e w4 ⟨v1, v2, v4, rfl, hv, hb4⟩; have HE4 : Hid (Below w3.heap.size w3 w4) := qh (by first | exact hb4 | exact (below_drew (Below.refl _ _)).trans hb4); clear hb4; obtain ⟨g, rfl, hg⟩ := hv.2.2; clear hv) | (go_at_call 30; refine (HCK.out _ _ (HT3.out.below HE4.out) hg).mono ?_; rintro e w5 ⟨rfl, hT5, hF5⟩; have HT5 := qh hT5; have HF5 := qh ((HF3.out.below HE4.out).frm (HT3.out.below HE4.out) hF5); have HB5 := qh (HB3.out.trans ((Fr3.ofBelow HE4.out).trans (Fr3.ofFrm hF5))); have hbx := box3 (cells_frm ((HE4.out.block _ (blk_lt H3.out)).trans H3.out) (by decide) (HT3.out.below HE4.out) hF5); have HY5 := qh (show w5.cell? ⟨gb, 0, none⟩ = some (.int .i64 4) ∧ w5.cell? ⟨gb, 1, none⟩ = some (.string a) ∧ w5.cell? ⟨gb, 2, none⟩ = some (.string t) ∧ w5.cell? ⟨f, 0, none⟩ = some (pT p) from ⟨hbx.1, hbx.2.1, hbx.2.2, HF5.out.cells.1⟩); clear hT5 hF5 hbx))
        all_goals
         go_wp2
         go_ret
         exact ⟨rfl, HF5.out, HT5.out, HB5.out⟩
       ·
        by_cases k5 : k = 5
        ·
         subst k5
         have e0 : doP L la 5 a t = renP L la a t := by unfold doP; simp
         have hr := HR1.out
         rw [if_neg (by simp), e0] at hr
         have HCK := qh (fun W h => deeds2_calls p B L la 5 a t W h hG hM hla)
         generalize renP L la a t = o at *
         obtain ⟨Lo, no, eo⟩ := o
         subst hr
         clear e0 HR1
         go_region_held3 (fun w' => w'.cell? ⟨gb, 0, none⟩ = some (.int .i64 5) ∧ w'.cell? ⟨gb, 1, none⟩ = some (.string a) ∧ w'.cell? ⟨gb, 2, none⟩ = some (.string t) ∧ w'.cell? ⟨f, 0, none⟩ = some (pT p)) (first | (go_keep; done) | exact HY5.out | exact HY.out _ HE4.out) (first | (go_at_call 14; refine (HD.out _).mono ?_; rintro e w4 ⟨v1, v2, v4, rfl, hv, hb4⟩; have HE4 : Hid (Below w3.heap.size w3 w4) := qh (by first | exact hb4 | exact (below_drew (Below.refl _ _)).trans hb4); clear hb4; clear hv) | (go_at_call 25; refine (HCK.out _ (HT3.out.below HE4.out)).mono ?_; rintro e w5 ⟨rfl, hT5, hF5⟩; have HT5 := qh hT5; have HF5 := qh ((HF3.out.below HE4.out).frm (HT3.out.below HE4.out) hF5); have HB5 := qh (HB3.out.trans ((Fr3.ofBelow HE4.out).trans (Fr3.ofFrm hF5))); have hbx := box3 (cells_frm ((HE4.out.block _ (blk_lt H3.out)).trans H3.out) (by decide) (HT3.out.below HE4.out) hF5); have HY5 := qh (show w5.cell? ⟨gb, 0, none⟩ = some (.int .i64 5) ∧ w5.cell? ⟨gb, 1, none⟩ = some (.string a) ∧ w5.cell? ⟨gb, 2, none⟩ = some (.string t) ∧ w5.cell? ⟨f, 0, none⟩ = some (pT p) from ⟨hbx.1, hbx.2.1, hbx.2.2, HF5.out.cells.1⟩); clear hT5 hF5 hbx))
         all_goals
          go_wp2
          go_ret
          exact ⟨rfl, HF5.out, HT5.out, HB5.out⟩
        ·
         by_cases k6 : k = 6
         ·
          subst k6
          have e0 : doP L la 6 a t = wrP L la a t := by unfold doP; simp
          have hr := HR1.out
          rw [if_neg (by simp), e0] at hr
          have HCK := qh (fun W h => deeds3_calls p B L la 6 a t W h hG hM hla)
          generalize wrP L la a t = o at *
          obtain ⟨Lo, no, eo⟩ := o
          subst hr
          clear e0 HR1
          go_region_held3 (fun w' => w'.cell? ⟨gb, 0, none⟩ = some (.int .i64 6) ∧ w'.cell? ⟨gb, 1, none⟩ = some (.string a) ∧ w'.cell? ⟨gb, 2, none⟩ = some (.string t) ∧ w'.cell? ⟨f, 0, none⟩ = some (pT p)) (first | (go_keep; done) | exact HY5.out | exact HY.out _ HE4.out) (first | (go_at_call 14; refine (HD.out _).mono ?_; rintro e w4 ⟨v1, v2, v4, rfl, hv, hb4⟩; have HE4 : Hid (Below w3.heap.size w3 w4) := qh (by first | exact hb4 | exact (below_drew (Below.refl _ _)).trans hb4); clear hb4; clear hv) | (go_at_call 27; refine (HCK.out _ (HT3.out.below HE4.out)).mono ?_; rintro e w5 ⟨rfl, hT5, hF5⟩; have HT5 := qh hT5; have HF5 := qh ((HF3.out.below HE4.out).frm (HT3.out.below HE4.out) hF5); have HB5 := qh (HB3.out.trans ((Fr3.ofBelow HE4.out).trans (Fr3.ofFrm hF5))); have hbx := box3 (cells_frm ((HE4.out.block _ (blk_lt H3.out)).trans H3.out) (by decide) (HT3.out.below HE4.out) hF5); have HY5 := qh (show w5.cell? ⟨gb, 0, none⟩ = some (.int .i64 6) ∧ w5.cell? ⟨gb, 1, none⟩ = some (.string a) ∧ w5.cell? ⟨gb, 2, none⟩ = some (.string t) ∧ w5.cell? ⟨f, 0, none⟩ = some (pT p) from ⟨hbx.1, hbx.2.1, hbx.2.2, HF5.out.cells.1⟩); clear hT5 hF5 hbx))
          all_goals
           go_wp2
           go_ret
           exact ⟨rfl, HF5.out, HT5.out, HB5.out⟩
         ·
          exact absurd hk (by omega)
   ·
    obtain rfl : r = ((L, la, fv), n1, fv == 17) := by rw [HR1.out, if_pos hfv]
    have b1 : (fv != 0) = true := bne_iff_ne.2 hfv
    have HF4 := qh (HF3.out.set3 (fv == 17))
    have HT4 := qh (HF3.out.tree HT3.out 3 (.bool (fv == 17)))
    clear hfv HR1 HD
    go_wp2
    go_ret
    exact ⟨rfl, HF4.out, HT4.out, HB3.out.trans (Fr3.ofSet 3 _)⟩
  ·
   obtain rfl : r = ((L, la, 2), cnt, false) := by rw [HR.out, if_neg (by decide), if_pos hk]
   have HKN := qh (fun W => known_no k W hk)
   obtain ⟨c0, c2, c3, g2, g3⟩ := HF1.out.cells
   clear HR HD HFA hk hn1
   go_enter Try.func6, Try.ntmps6
   go_wp2_with (go_at_call 12; refine (HKN.out _).mono ?_; rintro e w' ⟨rfl, rfl⟩)
   go_ret
   exact ⟨rfl, HF1.out, HT1.out, Fr3.ofBelow HB1.out⟩
theorem walkF_up {T : Tr} {lst : Bool} : ∀ (k : Nat) (a h : Int) (l : List ByteArray) (R : Int × Int), walkF T lst k a h l = some R → walkF T lst (k + 1) a h l = some R
 | 0, _, _, _, _, h => by simp [walkF] at h
 | k + 1, a, h, [], R, e => by simpa [walkF] using e
 | k + 1, a, h, s :: l, R, e => by
  unfold walkF at e ⊢
  split
  · rename_i c; rw [if_pos c] at e; exact e
  ·
   rename_i c1
   rw [if_neg c1] at e
   split
   · rename_i c; rw [if_pos c] at e; exact walkF_up k _ _ _ _ e
   ·
    rename_i c2
    rw [if_neg c2] at e
    split
    · rename_i c; rw [if_pos c] at e; exact e
    ·
     rename_i c3
     rw [if_neg c3] at e
     split
     · rename_i c; rw [if_pos c] at e; exact walkF_up k _ _ _ _ e
     ·
      rename_i c4
      rw [if_neg c4] at e
      split
      · rename_i c; rw [if_pos c] at e; exact e
      ·
       rename_i c5
       rw [if_neg c5] at e
       exact walkF_up k _ _ _ _ e
theorem walkF_le {T : Tr} {lst : Bool} {k k' : Nat} (h : k ≤ k') {a b : Int} {l : List ByteArray} {R : Int × Int} (e : walkF T lst k a b l = some R) : walkF T lst k' a b l = some R := by
 induction h with
 | refl => exact e
 | step _ ih => exact walkF_up _ _ _ _ _ ih
theorem walkF_det {T : Tr} {lst : Bool} {k k' : Nat} {a b : Int} {l : List ByteArray} {R R' : Int × Int} (e : walkF T lst k a b l = some R) (e' : walkF T lst k' a b l = some R') : R = R' := by
 have h1 := walkF_le (Nat.le_max_left k k') e
 have h2 := walkF_le (Nat.le_max_right k k') e'
 rw [h1] at h2
 exact Option.some.inj h2
theorem spotF_det {T : Tr} {k k' : Nat} {s : ByteArray} {R R' : R3} (e : spotF T k s = some R) (e' : spotF T k' s = some R') : R = R' := by
 unfold spotF at e e'
 split at e
 ·
  rename_i c
  rw [if_pos c] at e'
  cases hl : (partsB s).getLast? with
  | none => rw [hl] at e e'; simp only [] at e e'; rw [e] at e'; exact Option.some.inj e'
  | some z =>
   rw [hl] at e e'
   simp only [] at e e'
   split at e
   · rename_i q; rw [if_pos q] at e'; rw [e] at e'; exact Option.some.inj e'
   ·
    rename_i q
    rw [if_neg q] at e'
    obtain ⟨r, hr, e⟩ := Option.bind_eq_some_iff.1 e
    obtain ⟨r', hr', e'⟩ := Option.bind_eq_some_iff.1 e'
    obtain rfl := walkF_det hr hr'
    rw [e] at e'
    exact Option.some.inj e'
 ·
  rename_i c
  rw [if_neg c] at e'
  rw [e] at e'
  exact Option.some.inj e'
theorem len_calls (p B : Nat) (T : Tr) (w : World) (h : TreeB w p B T) :
  Calls Try.prog 16 #[pT p] w fun e w' => e = .returned (.int .i64 (T.cnt : Int)) ∧ w' = w := by
 have c0 := h.cell0
 have hrun := fun ty => h.len_run ty
 go_enter Try.func16, Try.ntmps16
 go_wp2
 go_ret
 exact ⟨rfl, rfl⟩
def rowsL0 : List RN := [⟨1, 1, ⟨#[]⟩, 1, ⟨#[]⟩⟩]
def rowsL1 : List RN := [⟨1, 1, ⟨#[]⟩, 1, ⟨#[]⟩⟩, ⟨2, 1, ⟨#[97]⟩, 1, ⟨#[]⟩⟩]
def rowsL2 : List RN := [⟨1, 1, ⟨#[]⟩, 1, ⟨#[]⟩⟩, ⟨2, 1, ⟨#[97]⟩, 1, ⟨#[]⟩⟩, ⟨3, 1, ⟨#[99]⟩, 1, ⟨#[]⟩⟩]
def flL : List FT := [⟨2, 16⟩]
theorem spotL0 : spotV rowsL0 1 ⟨#[97]⟩ = (1, ⟨#[97]⟩, 0) := by
 have hG : GoodL rowsL0 1 := good0
 obtain ⟨k, hk⟩ := spotV_spec hG goodM0 ⟨#[97]⟩
 have : spotF (trOf rowsL0 1) 10 ⟨#[97]⟩ = some (1, ⟨#[97]⟩, 0) := by
  simp [rowsL0, spotF, beginE, toL, ByteArray.size, partsB, bs, Sp.parts, Sp.go, Sp.keep, walk_cons, walk_nil, node_of hG, downT_of hG, atR, inR, inQ, Sp.check, slashB, Lib.hasPrefix, Sp.mk, show trOf [⟨1, 1, ⟨#[]⟩, 1, ⟨#[]⟩⟩] 1 = trOf rowsL0 1 from rfl]
 exact spotF_det hk this
theorem fsA : fsP rowsL0 1 flL 0 false 1 ⟨#[97]⟩ ⟨#[]⟩ = ((rowsL1, 2, 0), 1, false) := by
 have h1 : doP rowsL0 1 1 ⟨#[97]⟩ ⟨#[]⟩ = (rowsL1, 2, 0) := by
  unfold doP mkP
  rw [if_pos rfl, spotL0]
  simp [rowsL0, rowsL1, putL, putN, putRE, dirE, atR, inR, inQ, toL, mayE, Sp.check, ByteArray.size]
 unfold fsP
 rw [if_neg (by decide), if_neg (by decide), if_neg (by simp [faultV, flL, fP]), h1]
 rfl
theorem goodL1 : GoodL rowsL1 2 ∧ GoodM rowsL1 := by
 have := (fine_fs (L := rowsL0) (la := 1) good0 goodM0 flL 0 false 1 ⟨#[97]⟩ ⟨#[]⟩).1
 rw [fsA] at this
 exact ⟨this.good, this.goodm⟩
theorem fsB : fsP rowsL1 2 flL 1 false 1 ⟨#[98]⟩ ⟨#[]⟩ = ((rowsL1, 2, 16), 2, false) := by
 unfold fsP
 rw [if_neg (by decide), if_neg (by decide), if_pos (by simp [faultV, flL, fP])]
 simp [faultV, flL, fP]
theorem spotL1 : spotV rowsL1 2 ⟨#[99]⟩ = (1, ⟨#[99]⟩, 0) := by
 have hG : GoodL rowsL1 2 := goodL1.1
 obtain ⟨k, hk⟩ := spotV_spec hG goodL1.2 ⟨#[99]⟩
 have : spotF (trOf rowsL1 2) 10 ⟨#[99]⟩ = some (1, ⟨#[99]⟩, 0) := by
  simp [rowsL1, spotF, beginE, toL, ByteArray.size, partsB, bs, Sp.parts, Sp.go, Sp.keep, walk_cons, walk_nil, node_of hG, downT_of hG, atR, inR, inQ, Sp.check, slashB, Lib.hasPrefix, Sp.mk, show trOf [⟨1, 1, ⟨#[]⟩, 1, ⟨#[]⟩⟩, ⟨2, 1, ⟨#[97]⟩, 1, ⟨#[]⟩⟩] 2 = trOf rowsL1 2 from rfl]
 exact spotF_det hk this
theorem fsC : fsP rowsL1 2 flL 2 false 1 ⟨#[99]⟩ ⟨#[]⟩ = ((rowsL2, 3, 0), 3, false) := by
 have h1 : doP rowsL1 2 1 ⟨#[99]⟩ ⟨#[]⟩ = (rowsL2, 3, 0) := by
  unfold doP mkP
  rw [if_pos rfl, spotL1]
  simp [rowsL1, rowsL2, putL, putN, putRE, dirE, atR, inR, inQ, toL, mayE, Sp.check, ByteArray.size]
 unfold fsP
 rw [if_neg (by decide), if_neg (by decide), if_neg (by simp [faultV, flL, fP]), h1]
 rfl
theorem oneF {w : World} {b : Nat} {x : FT} (h : w.heap[b]? = some (.cells #[.int .i64 x.f0, .int .i64 x.f1] 28 (0, 0))) : Kd.C k28 w (some ⟨b, 0, none⟩) 1 [x] := by
 refine ⟨rfl, by simp, fun _ => ⟨⟨b, 0, none⟩, rfl, fun j q hj => ?_⟩⟩
 have hj0 : j = 0 ∧ q = x := by
  cases j with
  | zero => simpa using hj.symm
  | succ j => simp at hj
 obtain ⟨rfl, rfl⟩ := hj0
 refine ⟨_, rfl, k28_mk _ _, fun i u hu => ?_⟩
 match i, hu with
 | 0, hu => cases hu; show w.cell? ⟨b, 0, none⟩ = _; rw [blk_cell h]; rfl
 | 1, hu => cases hu; show w.cell? ⟨b, 1, none⟩ = _; rw [blk_cell h]; rfl
theorem lives10_calls (w : World) : Calls Try.prog 10 #[] w fun e w' => e = .returned (.bool true) ∧ Below w.heap.size w w' := by
 have HN := qh (fun W => newfs_nil W)
 have HP := qh (fun f p B A c W h hT hC hc => planfs_calls f p B T0 [] flL 0 false A c W h hT hC hc (by decide))
 have HA := qh (fun f p B W h hT => do10_calls f p B rowsL0 1 flL 0 false 1 ⟨#[97]⟩ ⟨#[]⟩ W h hT good0 goodM0 (by decide) (by decide) (by decide))
 have HB := qh (fun f p B W h hT => do10_calls f p B rowsL1 2 flL 1 false 1 ⟨#[98]⟩ ⟨#[]⟩ W h hT goodL1.1 goodL1.2 (by decide) (by decide) (by decide))
 have HC := qh (fun f p B W h hT => do10_calls f p B rowsL1 2 flL 2 false 1 ⟨#[99]⟩ ⟨#[]⟩ W h hT goodL1.1 goodL1.2 (by decide) (by decide) (by decide))
 rw [fsA] at HA
 rw [fsB] at HB
 rw [fsC] at HC
 rw [show T0 = trOf rowsL0 1 from T0_eq] at HN HP
 have HCO := qh (fun f p W h => countfs_calls f p flL 3 false W h)
 have HTR := qh (fun f p W h => treefs_calls f p flL 3 false W h)
 have HLN := qh (fun p B W h => len_calls p B (trOf rowsL2 3) W h)
 have hc2 : ((trOf rowsL2 3).cnt : Int) = 3 := rfl
 rw [hc2] at HLN
 clear hc2
 go_enter Try.func10, Try.ntmps10
 go_upto_region 3 with (first
  | (go_at_call 15; refine (HN.out _).mono ?_; rintro e w2 ⟨f, p, B, rfl, hF, hT, hb, hf, hp, hB⟩; have hba := below_alloc (Below.refl w2.heap.size w2) (.cells #[.int .i64 2, .int .i64 16] 28); have HF2 := qh (hF.below hba); have HT2 := qh (hT.below hba); have HB2 := qh (hb.trans (hba.mono hb.size)); have HZ := qh (And.intro hf (And.intro hp hB)); have HQ2 := qh (oneF (x := ⟨2, 16⟩) (heap_alloc_new w2 (.cells #[.int .i64 2, .int .i64 16] 28))); clear hF hT hb hf hp hB hba)
  | (go_at_call 4; refine (HP.out _ _ _ _ _ _ HF2.out HT2.out HQ2.out (by decide)).mono ?_; rintro e w3 ⟨rfl, hF, hT, hr⟩; have HF3 := qh hF; have HT3 := qh hT; have HB3 := qh (HB2.out.trans (hr.below HB2.out.size HZ.out.2.1 HZ.out.2.2 HZ.out.1)); clear hF hT hr))
 go_upto_region 4 with (go_at_call 6; refine (HA.out _ _ _ _ HF3.out HT3.out).mono ?_; rintro e w4 ⟨rfl, hF, hT, hr⟩; have HF4 : Hid (FsAt w4 f p flL 1 false) := qh hF; have HT4 : Hid (TreeB w4 p B (trOf rowsL1 2)) := qh hT; have HB4 := qh (HB3.out.trans (hr.below HB3.out.size HZ.out.2.1 HZ.out.2.2 HZ.out.1)); clear hF hT hr)
 go_upto_region 5 with (go_at_call 6; refine (HB.out _ _ _ _ HF4.out HT4.out).mono ?_; rintro e w5 ⟨rfl, hF, hT, hr⟩; have HF5 : Hid (FsAt w5 f p flL 2 false) := qh hF; have HT5 : Hid (TreeB w5 p B (trOf rowsL1 2)) := qh hT; have HB5 := qh (HB4.out.trans (hr.below HB4.out.size HZ.out.2.1 HZ.out.2.2 HZ.out.1)); clear hF hT hr)
 go_upto_region 6 with (go_at_call 6; refine (HC.out _ _ _ _ HF5.out HT5.out).mono ?_; rintro e w6 ⟨rfl, hF, hT, hr⟩; have HF6 : Hid (FsAt w6 f p flL 3 false) := qh hF; have HT6 : Hid (TreeB w6 p B (trOf rowsL2 3)) := qh hT; have HB6 := qh (HB5.out.trans (hr.below HB5.out.size HZ.out.2.1 HZ.out.2.2 HZ.out.1)); clear hF hT hr)
 go_wp2_with (first
  | (go_at_call 7; refine (HCO.out _ _ _ HF6.out).mono ?_; rintro e w' ⟨rfl, rfl⟩)
  | (go_at_call 9; refine (HTR.out _ _ _ HF6.out).mono ?_; rintro e w' ⟨rfl, rfl⟩)
  | (go_at_call 16; refine (HLN.out _ _ _ HT6.out).mono ?_; rintro e w' ⟨rfl, rfl⟩))
 go_ret
 exact ⟨rfl, HB6.out⟩
theorem planfs_nil (v : Value) (w : World) : Calls Try.prog 4 #[.pointer none, v] w fun e w' => e = .returned (.tuple #[]) ∧ w' = w := by
 go_enter Try.func4, Try.ntmps4
 go_wp2
 refine bodyPost_end (v := .tuple #[]) (by simp [results, Try.results4, go_sem]) rfl ⟨rfl, rfl⟩
theorem upfs_nil (w : World) : Calls Try.prog 5 #[.pointer none] w fun e w' => e = .returned (.tuple #[]) ∧ w' = w := by
 go_enter Try.func5, Try.ntmps5
 go_wp2
 refine bodyPost_end (v := .tuple #[]) (by simp [results, Try.results5, go_sem]) rfl ⟨rfl, rfl⟩
theorem dofs_nil (k : Int) (a t : ByteArray) (w : World) : Calls Try.prog 6 #[.pointer none, .agg #[.int .i64 k, .string a, .string t]] w fun e w' => e = .returned (.int .i64 1) ∧ Below w.heap.size w w' := by
 go_enter Try.func6, Try.ntmps6
 go_wp2
 go_ret
 exact ⟨rfl, below_alloc (Below.refl _ _) _⟩
theorem countfs_nil (w : World) : Calls Try.prog 7 #[.pointer none] w fun e w' => e = .returned (.int .i64 0) ∧ w' = w := by
 go_enter Try.func7, Try.ntmps7
 go_wp2
 go_ret
 exact ⟨rfl, rfl⟩
theorem downfs_nil (w : World) : Calls Try.prog 8 #[.pointer none] w fun e w' => e = .returned (.bool false) ∧ w' = w := by
 go_enter Try.func8, Try.ntmps8
 go_wp2
 go_ret
 exact ⟨rfl, rfl⟩
theorem treefs_nil (w : World) : Calls Try.prog 9 #[.pointer none] w fun e w' => e = .returned (.pointer none) ∧ w' = w := by
 go_enter Try.func9, Try.ntmps9
 go_wp2
 go_ret
 exact ⟨rfl, rfl⟩
theorem fsNone_calls (k : Int) (a b : ByteArray) (w : World) (ha : a.size ≤ 1048576) (hb : b.size ≤ 1048576) :
  Calls Try.prog 3 #[.agg #[.int .i64 k, .string a, .string b]] w fun e w' => e = .returned (.bool true) ∧ Below w.heap.size w w' := by
 have HLV := qh lives10_calls
 have H1 := qh (fun v W => planfs_nil v W)
 have H2 := qh (fun W => upfs_nil W)
 have H3 := qh (fun W => dofs_nil k a b W)
 have H4 := qh (fun W => countfs_nil W)
 have H5 := qh (fun W => downfs_nil W)
 have H6 := qh (fun W => treefs_nil W)
 have hb1 := below_alloc (Below.refl w.heap.size w) (.cells #[.int .i64 k, .string a, .string b] 23)
 have h1 := heap_alloc_new w (.cells #[.int .i64 k, .string a, .string b] 23)
 have HB1 := qh hb1
 have H0 := qh h1
 clear hb1 h1 ha hb
 go_enter Try.func3, Try.ntmps3
 go_upto_region 3 with (go_at_call 4; refine (H1.out _ _).mono ?_; rintro e w' ⟨rfl, rfl⟩)
 have hba := below_alloc (Below.refl (w.alloc (.cells #[.int .i64 k, .string a, .string b] 23)).heap.size (w.alloc (.cells #[.int .i64 k, .string a, .string b] 23))) (.cells #[.int .i64 1, .int .i64 16] 28)
 have HB2 := qh (HB1.out.trans (hba.mono HB1.out.size))
 have h2 := (hba.block _ (blk_lt H0.out)).trans H0.out
 generalize (w.alloc (.cells #[.int .i64 k, .string a, .string b] 23)).alloc (.cells #[.int .i64 1, .int .i64 16] 28) = w2 at HB2 h2 ⊢
 obtain ⟨y0, y1, y2⟩ := box3 h2
 clear hba h2 H0 HB1
 go_upto_region 4 with (go_at_call 5; refine (H2.out _).mono ?_; rintro e w' ⟨rfl, rfl⟩)
 go_wp2_with (first
  | (go_at_call 6; refine (H3.out _).mono ?_; rintro e w3 ⟨rfl, hb3⟩; have HB3 := qh (HB2.out.trans (hb3.mono HB2.out.size)); clear hb3 y0 y1 y2)
  | (go_at_call 7; refine (H4.out _).mono ?_; rintro e w' ⟨rfl, rfl⟩)
  | (go_at_call 8; refine (H5.out _).mono ?_; rintro e w' ⟨rfl, rfl⟩)
  | (go_at_call 9; refine (H6.out _).mono ?_; rintro e w' ⟨rfl, rfl⟩)
  | (go_at_call 10; refine (HLV.out _).mono ?_; rintro e w5 ⟨rfl, hb5⟩))
 go_ret
 exact ⟨rfl, HB3.out.trans (hb5.mono HB3.out.size)⟩
end Go.Proofs.Ytnpeeiikdcankaa.Tw
