/- Texts of this session, merged: RelMove, TrOf, Tops, Find, Spot, X9. -/
import Derived.Test.YtnpeeiikdcankaaGreatQA0
import Derived.Test.YtnpeeiikdcankaaGreatQA1
import Derived.Test.YtnpeeiikdcankaaGreatQA2
import Derived.Deep.QuietTactic
import Derived.BigQuiet
set_option linter.unusedVariables false
set_option linter.unusedSimpArgs false

set_option maxHeartbeats 8000000
set_option maxRecDepth 1000000
namespace Go.Proofs.YtnpeeiikdcankaaGreat.Tw
open Go Go.RowKit Go.Shelf Go.Proofs Go.Proofs.YtnpeeiikdcankaaGreat Go.Proofs.YtnpeeiikdcankaaGreatW.PrintWords Go.Proofs.YtnpeeiikdcankaaGreat.Ext Go.Proofs.YtnpeeiikdcankaaGreat.X Go.Proofs.YtnpeeiikdcankaaGreat.Pu
def roomRE (L : List RN) (n td : Int) (z : ByteArray) : Bool × Int :=
 if inR L td z = 0 then (false, 0) else if inR L td z = n then (true, 0) else
  if (atR L (inR L td z)).f3 = 1 ∧ (atR L n).f3 ≠ 1 then (false, 8) else
   if (atR L n).f3 = 1 ∧ (atR L (inR L td z)).f3 ≠ 1 then (false, 7) else (false, cutRE L td z)
theorem roomE_eq {L : List RN} {last : Int} (h : GoodL L last) (n td : Int) (z : ByteArray) : roomE (trOf L last) n td z = roomRE L n td z := by
 unfold roomE roomRE
 rw [node_of h td, cutE_eq h, node_of h n]
 simp only [find_ents h td z]
 rw [node_of h (inR L td z)]
 simp only [in_dec h]
def movRE (L : List RN) (fr : Int) (s : ByteArray) (td : Int) (z : ByteArray) (ins : Bool) : Int :=
 if dirE (atR L fr).f3 ≠ 0 then dirE (atR L fr).f3 else if dirE (atR L td).f3 ≠ 0 then dirE (atR L td).f3 else
  if inR L fr s = 0 then 5 else if Sp.check z.data.toList ≠ 0 then Sp.check z.data.toList else
   if (atR L (inR L fr s)).f3 = 1 ∧ ins = true then 14 else
    if (roomRE L (inR L fr s) td z).1 = true then 0 else (roomRE L (inR L fr s) td z).2
theorem movE_eq {L : List RN} {last : Int} (h : GoodL L last) (fr : Int) (s : ByteArray) (td : Int) (z : ByteArray) (ins : Bool) : movE (trOf L last) fr s td z ins = movRE L fr s td z ins := by
 unfold movE movRE
 rw [node_of h fr, node_of h td]
 simp only [find_ents h fr s]
 rw [node_of h (inR L fr s), roomE_eq h]
 simp only [in_dec h]
theorem movRE_zero {L : List RN} {fr : Int} {s : ByteArray} {td : Int} {z : ByteArray} {ins : Bool} (h : movRE L fr s td z ins = 0) :
  (atR L fr).f3 = 1 ∧ (atR L td).f3 = 1 ∧ inR L fr s ≠ 0 ∧ Sp.check z.data.toList = 0 ∧ ((atR L (inR L fr s)).f3 = 1 → ins = false) ∧ ((roomRE L (inR L fr s) td z).1 = true ∨ (roomRE L (inR L fr s) td z).2 = 0) := by
 unfold movRE at h
 split at h
 · rename_i g; exact absurd h g
 ·
  rename_i g1
  split at h
  · rename_i g; exact absurd h g
  ·
   rename_i g2
   split at h
   · cases h
   ·
    rename_i g3
    split at h
    · rename_i g; exact absurd h g
    ·
     rename_i g4
     split at h
     · cases h
     ·
      rename_i g5
      refine ⟨dirE_zero (Decidable.byContradiction fun e => g1 e), dirE_zero (Decidable.byContradiction fun e => g2 e), g3, Decidable.byContradiction fun e => g4 e, fun hk => ?_, ?_⟩
      ·
       cases ins with
       | true => exact absurd ⟨hk, rfl⟩ g5
       | false => rfl
      ·
       split at h
       · exact .inl (by assumption)
       · exact .inr h
theorem ins_ex {L : List RN} {last : Int} (h : GoodL L last) (hM : GoodM L) (n : Int) : ∀ m, (atR L m).f3 ≠ 0 → ∃ k r, insF (trOf L last) k m n = some r := by
 obtain ⟨d, -, hd⟩ := hM.rank
 have key : ∀ (q : Nat) (m : Int), d m < q → (atR L m).f3 ≠ 0 → ∃ k r, insF (trOf L last) k m n = some r := by
  intro q
  induction q with
  | zero => intro m hq; omega
  | succ q ih =>
   intro m hq hm
   by_cases e1 : m = n
   · exact ⟨1, true, by simp [insF, e1]⟩
   ·
    by_cases e2 : m = 1
    · exact ⟨1, false, by unfold insF; rw [if_neg e1, if_pos e2]⟩
    ·
     obtain ⟨r, hr, hrm, hra⟩ := at_kind hm
     have hlt := hd r hr (by rw [hrm]; exact e2)
     rw [hrm] at hlt
     obtain ⟨k, b, hk⟩ := ih r.f1 (by omega) (by rw [h.up r hr]; decide)
     refine ⟨k + 1, b, ?_⟩
     unfold insF
     rw [if_neg e1, if_neg e2, node_of h, hra]
     exact hk
 exact fun m hm => key (d m + 1) m (by omega) hm
theorem insF_mono {T : Tr} : ∀ (k : Nat) (m n : Int) (r : Bool), insF T k m n = some r → insF T (k + 1) m n = some r
 | 0, m, n, r, h => by simp [insF] at h
 | k + 1, m, n, r, h => by
  unfold insF at h ⊢
  by_cases e1 : m = n
  · rw [if_pos e1] at h ⊢; exact h
  ·
   by_cases e2 : m = 1
   · rw [if_neg e1, if_pos e2] at h ⊢; exact h
   ·
    rw [if_neg e1, if_neg e2] at h ⊢
    exact insF_mono k _ n r h
theorem insF_le {T : Tr} {k k' : Nat} {m n : Int} {r : Bool} (h : insF T k m n = some r) (hk : k ≤ k') : insF T k' m n = some r := by
 induction hk with
 | refl => exact h
 | step _ ih => exact insF_mono _ _ _ _ ih
theorem insF_det {T : Tr} {k k' : Nat} {m n : Int} {r r' : Bool} (h : insF T k m n = some r) (h' : insF T k' m n = some r') : r = r' := by
 have h1 := insF_le h (Nat.le_max_left k k')
 have h2 := insF_le h' (Nat.le_max_right k k')
 rw [h1] at h2
 exact Option.some.inj h2
theorem mov_rank {L : List RN} {last : Int} (h : GoodL L last) (hM : GoodM L) {n td : Int} {x : RN} {M : List RN} (hx : x.f0 = n) (hxd : x.f1 = td) (hn1 : n ≠ 1) (hM1 : ∀ r ∈ M, r ∈ L) (hsub : ∀ k, insF (trOf L last) k td n ≠ some true) :
  ∃ d : Int → Nat, ∀ r ∈ withL M x, r.f0 ≠ 1 → d r.f1 < d r.f0 := by
 obtain ⟨d, -, hd⟩ := hM.rank
 let sub : Int → Prop := fun m => ∃ k, insF (trOf L last) k m n = some true
 classical
 have hnn : sub n := ⟨1, by simp [insF]⟩
 have hstep : ∀ r ∈ L, r.f0 ≠ 1 → r.f0 ≠ n → (sub r.f0 ↔ sub r.f1) := by
  intro r hr h1 h2
  have hup : ((trOf L last).node r.f0).up = r.f1 := by rw [node_of h, at_mem h hr]
  constructor
  ·
   rintro ⟨k, hk⟩
   cases k with
   | zero => simp [insF] at hk
   | succ k =>
    unfold insF at hk
    rw [if_neg h2, if_neg h1, hup] at hk
    exact ⟨k, hk⟩
  ·
   rintro ⟨k, hk⟩
   refine ⟨k + 1, ?_⟩
   unfold insF
   rw [if_neg h2, if_neg h1, hup]
   exact hk
 refine ⟨fun m => if sub m then d m + d td + 1 else d m, fun r hr h1 => ?_⟩
 rcases withL_mem hr with rfl | ⟨hr, hne⟩
 ·
  have ht : ¬ sub td := fun ⟨k, hk⟩ => hsub k hk
  simp only [hx, hxd]
  rw [if_pos hnn, if_neg ht]
  omega
 ·
  rw [hx] at hne
  have hlt := hd r (hM1 r hr) h1
  have hs := hstep r (hM1 r hr) h1 hne
  by_cases e : sub r.f0
  ·
   simp only [if_pos e, if_pos (hs.1 e)]
   omega
  ·
   simp only [if_neg e, if_neg (fun q => e (hs.2 q))]
   exact hlt
theorem up_ne {L : List RN} {last : Int} (hM : GoodM L) {r : RN} (hr : r ∈ L) (h1 : r.f0 ≠ 1) : r.f1 ≠ r.f0 := by
 obtain ⟨d, -, hd⟩ := hM.rank
 intro e
 have := hd r hr h1
 rw [e] at this
 omega
def movX (L : List RN) (n td : Int) (z : ByteArray) : RN := { atR L n with f1 := td, f2 := z }
theorem mov_core {L : List RN} {last : Int} (h : GoodL L last) (hM : GoodM L) {r : RN} (hr : r ∈ L) (h1 : r.f0 ≠ 1) {td : Int} (htd : (atR L td).f3 = 1) (hnt : td ≠ r.f0) {z : ByteArray} (hz : Sp.check z.data.toList = 0) (hfree : inR L td z = 0)
  (hrk : ∃ d : Int → Nat, ∀ q ∈ withL L (movX L r.f0 td z), q.f0 ≠ 1 → d q.f1 < d q.f0) (T2 T3 : Tr) (e2 : T2 = mvB (trOf L last) r.f0 td) (e3 : T3 = mvC T2 r.f1 r.f2) :
  GoodL (withL L (movX L r.f0 td z)) last ∧ GoodM (withL L (movX L r.f0 td z)) ∧ mvD T3 td r.f0 z = trOf (withL L (movX L r.f0 td z)) last ∧
   (T2.cnt = L.length ∧ T3.cnt = L.length) ∧ (T2.node r.f1).ents = entsOf L r.f1 ∧ (T3.node td).ents = (if td = r.f1 then cutEn (entsOf L r.f1) r.f2 else entsOf L td) ∧ (findE (T3.node td).ents z).2 = false := by
 have hra := at_mem h hr
 have hx : movX L r.f0 td z = ⟨r.f0, td, z, r.f3, r.f4⟩ := by unfold movX; rw [hra]
 rw [hx] at hrk ⊢
 have hmem : ∃ q ∈ L, q.f0 = (⟨r.f0, td, z, r.f3, r.f4⟩ : RN).f0 := ⟨r, hr, rfl⟩
 have hno := inR_none h (d := td) (s := z) (by rw [hfree]; decide)
 have hG : GoodL (withL L ⟨r.f0, td, z, r.f3, r.f4⟩) last := h.with h1 hmem (by show (atR L r.f0).f3 = r.f3; rw [hra]) (h.data r hr) htd (fun q hq hn q1 q2 => hno q hq q1 q2)
 have hGM : GoodM (withL L ⟨r.f0, td, z, r.f3, r.f4⟩) := hM.with hG hz (hM.link r hr) (hM.kind r hr) (hM.dirs r hr) hrk
 have hfn := up_ne (last := last) hM hr h1
 have hk1 : (atR L r.f1).f3 = 1 := h.up r hr
 have hlf := tr_get_live (last := last) h (m := r.f1) (by rw [hk1]; decide)
 have hlt := tr_get_live (last := last) h (m := td) (by rw [htd]; decide)
 have hln : (trOf L last).get r.f0 = some (ndOf L r) := by rw [tr_get, find_of h hr]; rfl
 have n2f : T2.node r.f1 = (trOf L last).node r.f1 := by rw [e2]; exact node_set_ne hfn
 have n2t : T2.node td = (trOf L last).node td := by rw [e2]; exact node_set_ne hnt
 have g2 : ∀ m, T2.get m = if m = r.f0 then some { (trOf L last).node r.f0 with up := td } else (trOf L last).get m := by intro m; rw [e2]; rfl
 have g3 : ∀ m, T3.get m = if m = r.f1 then some { T2.node r.f1 with ents := cutEn (T2.node r.f1).ents r.f2 } else T2.get m := by intro m; rw [e3]; rfl
 have c2 : T2.cnt = L.length := by
  rw [e2]
  show (if ((trOf L last).get r.f0).isSome then L.length else L.length + 1) = _
  rw [hln]; rfl
 have c3 : T3.cnt = L.length := by
  rw [e3]
  show (if (T2.get r.f1).isSome then T2.cnt else T2.cnt + 1) = _
  rw [g2, if_neg hfn, hlf, Option.isSome_some, if_pos rfl, c2]
 have E2 : (T2.node r.f1).ents = entsOf L r.f1 := by rw [n2f, node_of h]
 have N3 : T3.node td = if td = r.f1 then { T2.node r.f1 with ents := cutEn (T2.node r.f1).ents r.f2 } else (trOf L last).node td := by
  unfold Tr.node
  rw [g3]
  by_cases e : td = r.f1
  · rw [if_pos e, if_pos e]; rfl
  · rw [if_neg e, if_neg e, g2, if_neg hnt]
 have E3 : (T3.node td).ents = (if td = r.f1 then cutEn (entsOf L r.f1) r.f2 else entsOf L td) := by
  rw [N3]
  by_cases e : td = r.f1
  · rw [if_pos e, if_pos e, E2]
  · rw [if_neg e, if_neg e, node_of h]
 have hfz : ∀ e ∈ entsOf L td, e.f0 ≠ z := by
  intro e he
  obtain ⟨q, hq, hi, rfl⟩ := mem_ents.1 he
  obtain ⟨i1, i2⟩ := isIn_iff.1 hi
  exact hno q hq i1 i2
 have F3 : (findE (T3.node td).ents z).2 = false := by
  rw [E3]
  refine findE_nil' (fun e he => ?_)
  by_cases c : td = r.f1
  ·
   rw [if_pos c] at he
   rw [c] at hfz
   exact hfz e (cutEn_mem.1 he).1
  ·
   rw [if_neg c] at he
   exact hfz e he
 refine ⟨hG, hGM, ?_, ⟨c2, c3⟩, E2, E3, F3⟩

 have huq : ∀ q ∈ L, q.f0 = r.f0 → q = r := fun q hq e => by
  have q1 := find_of h hq
  have q2 := find_of h hr
  rw [e] at q1
  rw [q1] at q2
  exact Option.some.inj q2
 have hname : ∀ q ∈ L, q.f0 ≠ 1 → q.f1 = r.f1 → q.f2 = r.f2 → q = r := by
  intro q hq q1 q2 q3
  have := List.pairwise_iff_getElem.1 h.names
  obtain ⟨i, hi, rfl⟩ := List.mem_iff_getElem.1 hq
  obtain ⟨j, hj, rfl⟩ := List.mem_iff_getElem.1 hr
  rcases Nat.lt_trichotomy i j with c | c | c
  · exact absurd q3 (this i j hi hj c q2 q1 h1)
  · subst c; rfl
  · exact absurd q3.symm (this j i hj hi c q2.symm h1 q1)
 have hents : ∀ m, entsOf (withL L ⟨r.f0, td, z, r.f3, r.f4⟩) m = if m = td then insE (T3.node td).ents ⟨z, r.f0⟩ else if m = r.f1 then cutEn (entsOf L r.f1) r.f2 else entsOf L m := by
  intro m
  have hcm : ∀ (m : Int) (e : En), (∃ q ∈ L, q.f0 ≠ r.f0 ∧ isIn m q = true ∧ e = ⟨q.f2, q.f0⟩) ↔ (if m = r.f1 then e ∈ cutEn (entsOf L r.f1) r.f2 else e ∈ entsOf L m) := by
   intro m e
   by_cases c : m = r.f1
   ·
    rw [if_pos c, cutEn_mem, mem_ents]
    subst c
    constructor
    ·
     rintro ⟨q, hq, hn, hi, rfl⟩
     refine ⟨⟨q, hq, hi, rfl⟩, fun e => hn ?_⟩
     obtain ⟨i1, i2⟩ := isIn_iff.1 hi
     rw [hname q hq i2 i1 e]
    ·
     rintro ⟨⟨q, hq, hi, rfl⟩, hn⟩
     exact ⟨q, hq, fun e => hn (by rw [huq q hq e]), hi, rfl⟩
   ·
    rw [if_neg c, mem_ents]
    constructor
    ·
     rintro ⟨q, hq, hn, hi, rfl⟩
     exact ⟨q, hq, hi, rfl⟩
    ·
     rintro ⟨q, hq, hi, rfl⟩
     refine ⟨q, hq, fun e => c ?_, hi, rfl⟩
     rw [huq q hq e] at hi
     exact (isIn_iff.1 hi).1.symm
  by_cases c : m = td
  ·
   subst c
   rw [if_pos rfl]
   refine rt_ext (hG.rt m) (insE_rt _ _ ?_ ?_) (fun e => ?_)
   ·
    rw [E3]
    by_cases c2 : m = r.f1
    · rw [if_pos c2]; exact cutEn_rt (h.rt _) _
    · rw [if_neg c2]; exact h.rt _
   ·
    intro e he e2
    have := F3
    rw [findE_some he e2] at this
    cases this
   ·
    rw [ents_with hmem, hcm m e, insE_mem, E3]
    constructor
    ·
     rintro (⟨_, rfl⟩ | hh)
     · exact .inl rfl
     ·
      right
      by_cases c2 : m = r.f1
      · rw [if_pos c2] at hh ⊢; exact hh
      · rw [if_neg c2] at hh ⊢; exact hh
    ·
     rintro (rfl | hh)
     · exact .inl ⟨isIn_iff.2 ⟨rfl, h1⟩, rfl⟩
     ·
      right
      by_cases c2 : m = r.f1
      · rw [if_pos c2] at hh ⊢; exact hh
      · rw [if_neg c2] at hh ⊢; exact hh
  ·
   rw [if_neg c]
   have hi0 : ¬ isIn m (⟨r.f0, td, z, r.f3, r.f4⟩ : RN) = true := fun hi => c (isIn_iff.1 hi).1.symm
   by_cases c2 : m = r.f1
   ·
    rw [if_pos c2]
    refine rt_ext (hG.rt m) (cutEn_rt (h.rt _) _) (fun e => ?_)
    rw [ents_with hmem, hcm m e, if_pos c2]
    exact ⟨fun hh => hh.elim (fun q => absurd q.1 hi0) id, .inr⟩
   ·
    rw [if_neg c2]
    refine rt_ext (hG.rt m) (h.rt _) (fun e => ?_)
    rw [ents_with hmem, hcm m e, if_neg c2]
    exact ⟨fun hh => hh.elim (fun q => absurd q.1 hi0) id, .inr⟩
 refine Tr.ext (fun m => ?_) ?_ (by rw [e3, e2]; rfl)
 ·
  show (if m = td then some { T3.node td with ents := insE (T3.node td).ents ⟨z, r.f0⟩ } else T3.get m) = _
  rw [tr_get (L := withL L _), withL_find]
  by_cases c : m = td
  ·
   rw [if_pos c]
   obtain ⟨q, hq, hqm, hqa⟩ := at_kind (L := L) (n := td) (by rw [htd]; decide)
   have hfq := find_of h hq
   rw [hqm] at hfq
   have hqr : ¬ q.f0 = r.f0 := by rw [hqm]; exact hnt
   rw [c, hfq, Option.map_some, Option.map_some, if_neg hqr]
   have hT : T3.node td = ⟨q.f3, q.f1, q.f4, (T3.node td).ents⟩ := by
    rw [N3]
    by_cases c3 : td = r.f1
    · rw [if_pos c3, n2f, node_of h, ← c3, hqa]
    · rw [if_neg c3, node_of h, hqa]
   have k1 : (T3.node td).kind = q.f3 := by rw [hT]
   have k2 : (T3.node td).up = q.f1 := by rw [hT]
   have k3 : (T3.node td).data = q.f4 := by rw [hT]
   show some (⟨(T3.node td).kind, (T3.node td).up, (T3.node td).data, insE (T3.node td).ents ⟨z, r.f0⟩⟩ : Nd) = some ⟨q.f3, q.f1, q.f4, entsOf (withL L ⟨r.f0, td, z, r.f3, r.f4⟩) q.f0⟩
   rw [k1, k2, k3, hqm, hents, if_pos rfl]
  ·
   rw [if_neg c, g3]
   by_cases c2 : m = r.f1
   ·
    rw [if_pos c2, n2f, node_of h]
    obtain ⟨q, hq, hqm, hqa⟩ := at_kind (L := L) (n := r.f1) (by rw [hk1]; decide)
    have hfq := find_of h hq
    rw [hqm] at hfq
    have hqr : ¬ q.f0 = r.f0 := by rw [hqm]; exact hfn
    have hct : ¬ r.f1 = td := by rw [← c2]; exact c
    rw [c2, hfq, Option.map_some, Option.map_some, if_neg hqr]
    show some (⟨(atR L r.f1).f3, (atR L r.f1).f1, (atR L r.f1).f4, cutEn (entsOf L r.f1) r.f2⟩ : Nd) = some ⟨q.f3, q.f1, q.f4, entsOf (withL L ⟨r.f0, td, z, r.f3, r.f4⟩) q.f0⟩
    rw [hqm, hents, if_neg hct, if_pos rfl, hqa]
   ·
    rw [if_neg c2, g2]
    by_cases c3 : m = r.f0
    ·
     have hct : ¬ r.f0 = td := by rw [← c3]; exact c
     have hcf : ¬ r.f0 = r.f1 := by rw [← c3]; exact c2
     rw [if_pos c3, c3, find_of h hr, node_of h, hra, Option.map_some, Option.map_some, if_pos rfl]
     show some (⟨r.f3, td, r.f4, entsOf L r.f0⟩ : Nd) = some ⟨r.f3, td, r.f4, entsOf (withL L ⟨r.f0, td, z, r.f3, r.f4⟩) r.f0⟩
     rw [hents, if_neg hct, if_neg hcf]
    ·
     rw [if_neg c3, tr_get]
     cases hf : L.find? (fun r => r.f0 == m) with
     | none => rfl
     | some q =>
      have hqm : q.f0 = m := by simpa using List.find?_some hf
      have hqr : ¬ q.f0 = r.f0 := by rw [hqm]; exact c3
      rw [Option.map_some, Option.map_some, Option.map_some, if_neg hqr]
      show some (⟨q.f3, q.f1, q.f4, entsOf L q.f0⟩ : Nd) = some ⟨q.f3, q.f1, q.f4, entsOf (withL L ⟨r.f0, td, z, r.f3, r.f4⟩) q.f0⟩
      rw [hqm, hents, if_neg c, if_neg c2]
 ·
  show (if (T3.get td).isSome then T3.cnt else T3.cnt + 1) = (withL L _).length
  have : (T3.get td).isSome = true := by
   rw [g3]
   by_cases c : td = r.f1
   · rw [if_pos c]; rfl
   · rw [if_neg c, g2, if_neg hnt, hlt]; rfl
  rw [this, if_pos rfl, c3, withL_len]
theorem get_of {L : List RN} {last : Int} {n : Int} {x : Nd} (h : (trOf L last).get n = some x) : ∃ r ∈ L, x = ndOf L r := by
 unfold trOf at h
 obtain ⟨r, hr, rfl⟩ := Option.map_eq_some_iff.1 h
 exact ⟨r, List.mem_of_find?_eq_some hr, rfl⟩
theorem trOK {L : List RN} {last : Int} (h : GoodL L last) (hl : last ≤ 1000000) : TrOK (trOf L last) := by
 refine ⟨fun n x hx => ?_, fun n x hx => ?_, fun n x hx => ?_, fun n x hx e he => ?_, fun n x hx => ?_⟩
 ·
  obtain ⟨r, hr, rfl⟩ := get_of hx
  exact h.rt _
 ·
  obtain ⟨r, hr, rfl⟩ := get_of hx
  have h1 := ents_len L r.f0
  have h2 := h.len
  show (entsOf L r.f0).length < _
  omega
 ·
  obtain ⟨r, hr, rfl⟩ := get_of hx
  obtain ⟨q, hq, hqn, _⟩ := at_kind (L := L) (n := r.f1) (by rw [h.up r hr]; decide)
  have := h.num q hq
  exact wf_of (n := r.f1) (by omega)
 ·
  obtain ⟨r, hr, rfl⟩ := get_of hx
  obtain ⟨q, hq, _, rfl⟩ := mem_ents.1 (show e ∈ entsOf L r.f0 from he)
  have := h.num q hq
  exact wf_of (n := q.f0) (by omega)
 ·
  obtain ⟨r, hr, rfl⟩ := get_of hx
  exact h.data r hr
theorem node_len {L : List RN} {last : Int} (h : GoodL L last) (d : Int) : ((trOf L last).node d).ents.length < 4294967296 := by
 rw [node_of h]
 have := ents_len L d
 have := h.len
 show (entsOf L d).length < _
 omega
theorem node_rtL {L : List RN} {last : Int} (h : GoodL L last) (d : Int) : Rt ((trOf L last).node d).ents := by rw [node_of h]; exact h.rt d
theorem cnt_lt {L : List RN} {last : Int} (h : GoodL L last) : (trOf L last).cnt < 1000000 := by
 have := h.len
 show L.length < _
 omega
def cutS (L : List RN) (d : Int) (s : ByteArray) : List RN := if cutRE L d s = 0 then cutL L (inR L d s) else L
theorem tcut_calls (p B : Nat) (L : List RN) (last d : Int) (s : ByteArray) (w : World) (h : TreeB w p B (trOf L last)) (hG : GoodL L last) (hn : wf d) (hla : last ≤ 1000000) :
  Calls Tryz.prog 146 #[pT p, .int .i64 d, .string s] w fun e w' => e = .returned (.int .i64 (cutRE L d s)) ∧ TreeB w' p B (trOf (cutS L d s) last) ∧ Frm w w' p B := by
 have hO := trOK hG hla
 unfold cutS
 by_cases he : cutRE L d s = 0
 ·
  refine (cut_ok p B (trOf L last) d s w h hn (node_len hG d) (node_rtL hG d) (hO.wf_find d s) (cnt_lt hG) (by rw [cutE_eq hG]; exact he)).mono ?_
  rintro e w' ⟨rfl, hT, hF⟩
  rw [cutT_eq hG he] at hT
  rw [if_pos he, he]
  exact ⟨rfl, hT, hF⟩
 ·
  refine (cut_err p B (trOf L last) d s w h hn (node_len hG d) (node_rtL hG d) (hO.wf_find d s) (by rw [cutE_eq hG]; exact he)).mono ?_
  rintro e w' ⟨rfl, hb⟩
  rw [if_neg he, cutE_eq hG]
  exact ⟨rfl, h.below hb, Frm.ofBelow hb⟩
theorem good_cut {L : List RN} {last : Int} (hG : GoodL L last) (hM : GoodM L) (d : Int) (s : ByteArray) : GoodL (cutS L d s) last ∧ GoodM (cutS L d s) := by
 unfold cutS
 by_cases he : cutRE L d s = 0
 · rw [if_pos he]; exact cut_good hG hM he
 · rw [if_neg he]; exact ⟨hG, hM⟩
noncomputable def setS (L : List RN) (n : Int) (data : ByteArray) : List RN := if setRE L n data = 0 then withL L (setX L n data) else L
theorem tset_calls (p B : Nat) (L : List RN) (last n : Int) (data : ByteArray) (w : World) (h : TreeB w p B (trOf L last)) (hG : GoodL L last) (hM : GoodM L) (hn : wf n) :
  Calls Tryz.prog 92 #[pT p, .int .i64 n, .string data] w fun e w' => e = .returned (.int .i64 (setRE L n data)) ∧ TreeB w' p B (trOf (setS L n data) last) ∧ Frm w w' p B := by
 unfold setS
 by_cases he : setRE L n data = 0
 ·
  refine (set_ok p B (trOf L last) n data w h hn (cnt_lt hG) (by rw [setE_eq hG]; exact he)).mono ?_
  rintro e w' ⟨rfl, hT, hF⟩
  rw [setT_eq hG hM he] at hT
  rw [if_pos he, he]
  exact ⟨rfl, hT, hF⟩
 ·
  refine (set_err p B (trOf L last) n data w h hn (by rw [setE_eq hG]; exact he)).mono ?_
  rintro e w' ⟨rfl, hb⟩
  rw [if_neg he, setE_eq hG]
  exact ⟨rfl, h.below hb, Frm.ofBelow hb⟩
theorem good_set {L : List RN} {last : Int} (hG : GoodL L last) (hM : GoodM L) (n : Int) (data : ByteArray) : GoodL (setS L n data) last ∧ GoodM (setS L n data) := by
 unfold setS
 by_cases he : setRE L n data = 0
 · rw [if_pos he]; exact set_good hG hM he
 · rw [if_neg he]; exact ⟨hG, hM⟩
open Classical in
noncomputable def insV (L : List RN) (last td n : Int) : Bool := decide (∃ k, insF (trOf L last) k td n = some true)
theorem insV_true {L : List RN} {last td n : Int} (h : ∃ k, insF (trOf L last) k td n = some true) : insV L last td n = true := by classical exact decide_eq_true h
theorem insV_false {L : List RN} {last td n : Int} (h : ¬ ∃ k, insF (trOf L last) k td n = some true) : insV L last td n = false := by classical exact decide_eq_false h
noncomputable def movP (L : List RN) (last fr : Int) (s : ByteArray) (td : Int) (z : ByteArray) : Int := movRE L fr s td z (insV L last td (inR L fr s))
def roomL (L : List RN) (td : Int) (z : ByteArray) : List RN := if inR L td z = 0 then L else cutL L (inR L td z)
noncomputable def movM (L : List RN) (last fr : Int) (s : ByteArray) (td : Int) (z : ByteArray) : List RN :=
 if movP L last fr s td z = 0 ∧ (roomRE L (inR L fr s) td z).1 = false then withL (roomL L td z) (movX L (inR L fr s) td z) else L
theorem ins_dir {L : List RN} {last : Int} (h : GoodL L last) {n : Int} : ∀ (k : Nat) (m : Int), insF (trOf L last) k m n = some true → m ≠ n → (atR L m).f3 ≠ 0 → (atR L n).f3 = 1
 | 0, m, hk, _, _ => by simp [insF] at hk
 | k + 1, m, hk, hmn, hm => by
  unfold insF at hk
  rw [if_neg hmn] at hk
  by_cases e2 : m = 1
  · rw [if_pos e2] at hk; cases hk
  ·
   rw [if_neg e2] at hk
   obtain ⟨r, hr, hrm, hra⟩ := at_kind hm
   rw [node_of h, hra] at hk
   have hu := h.up r hr
   by_cases e : r.f1 = n
   · rw [← e]; exact hu
   · exact ins_dir h k r.f1 hk e (by rw [hu]; decide)
structure MovOK (L : List RN) (last fr : Int) (s : ByteArray) (td : Int) (z : ByteArray) (n : Int) : Prop where
 kf : (atR L fr).f3 = 1
 kt : (atR L td).f3 = 1
 ck : Sp.check z.data.toList = 0
 ins : (atR L n).f3 = 1 → ∃ k, insF (trOf L last) k td n = some false
 room : roomRE L n td z = (false, 0)
 good : GoodL (withL (roomL L td z) (movX L n td z)) last ∧ GoodM (withL (roomL L td z) (movX L n td z))
 one : mvA (trOf L last) td z = trOf (roomL L td z) last
 l1 : GoodL (roomL L td z) last
 core : ∀ T2 T3, T2 = mvB (trOf (roomL L td z) last) n td → T3 = mvC T2 fr s →
  mvD T3 td n z = trOf (withL (roomL L td z) (movX L n td z)) last ∧ (T2.cnt = (roomL L td z).length ∧ T3.cnt = (roomL L td z).length) ∧ (T2.node fr).ents = entsOf (roomL L td z) fr ∧ (T3.node td).ents = (if td = fr then cutEn (entsOf (roomL L td z) fr) s else entsOf (roomL L td z) td) ∧ (findE (T3.node td).ents z).2 = false
 mem : ∃ r ∈ roomL L td z, r.f0 = n ∧ r.f1 = fr ∧ r.f2 = s ∧ r.f0 ≠ 1
theorem mov_all {L : List RN} {last : Int} (h : GoodL L last) (hM : GoodM L) {fr : Int} {s : ByteArray} {td : Int} {z : ByteArray} (he : movP L last fr s td z = 0) (hs : (roomRE L (inR L fr s) td z).1 = false) : MovOK L last fr s td z (inR L fr s) := by
 obtain ⟨z1, z2, z3, z4, z5, z6⟩ := movRE_zero he
 have hroom : roomRE L (inR L fr s) td z = (false, 0) := by
  rcases z6 with e | e
  · rw [hs] at e; cases e
  · exact Prod.ext hs e
 obtain ⟨r, hr, hrn, hrd, hrs, hr1, hra⟩ := inR_mem h z3
 generalize inR L fr s = n at *
 have hnt : td ≠ n := by
  intro e
  by_cases k1 : (atR L n).f3 = 1
  ·
   have := z5 k1
   unfold insV at this
   rw [decide_eq_false_iff_not] at this
   exact this ⟨1, by simp [insF, e]⟩
  · rw [e] at z2; exact k1 z2
 have hsub : ∀ k, insF (trOf L last) k td n ≠ some true := by
  intro k hk
  by_cases k1 : (atR L n).f3 = 1
  ·
   have := z5 k1
   unfold insV at this
   rw [decide_eq_false_iff_not] at this
   exact this ⟨k, hk⟩
  · exact k1 (ins_dir h k td hk hnt (by rw [z2]; decide))
 have hins : (atR L n).f3 = 1 → ∃ k, insF (trOf L last) k td n = some false := by
  intro _
  obtain ⟨k, b, hk⟩ := ins_ex h hM n td (by rw [z2]; decide)
  cases b with
  | true => exact absurd hk (hsub k)
  | false => exact ⟨k, hk⟩
 have KEY : GoodL (roomL L td z) last ∧ GoodM (roomL L td z) ∧ r ∈ roomL L td z ∧ (atR (roomL L td z) td).f3 = 1 ∧ inR (roomL L td z) td z = 0 ∧ mvA (trOf L last) td z = trOf (roomL L td z) last ∧ ∀ q ∈ roomL L td z, q ∈ L := by
  unfold roomL mvA roomT
  rw [node_of h td]
  simp only [find_ents h td z, in_dec h]
  by_cases e : inR L td z = 0
  ·
   rw [if_pos e, if_pos e]
   exact ⟨h, hM, hr, z2, e, rfl, fun q hq => hq⟩
  ·
   rw [if_neg e, if_neg e]
   have hc : cutRE L td z = 0 ∧ inR L td z ≠ n := by
    unfold roomRE at hroom
    rw [if_neg e] at hroom
    split at hroom
    · cases hroom
    ·
     rename_i hne
     split at hroom
     · cases hroom
     ·
      split at hroom
      · cases hroom
      · exact ⟨(Prod.mk.inj hroom).2, hne⟩
   obtain ⟨c1, c2, c3⟩ := cutRE_zero hc.1
   obtain ⟨g1, g2⟩ := cut_good h hM hc.1
   obtain ⟨ro, hro, hon, hod, hos, ho1, _⟩ := inR_mem h e
   have hto : td ≠ inR L td z := by
    intro e2
    have := live_ents h hro ho1
    rw [hod, e2] at this
    exact this c3
   refine ⟨g1, g2, cutL_mem.2 ⟨hr, by rw [hrn]; exact fun e2 => hc.2 e2.symm⟩, by rw [cutL_at hto]; exact c1, ?_, cutT_eq h hc.1, fun q hq => (cutL_mem.1 hq).1⟩
   refine Decidable.byContradiction fun hne => ?_
   obtain ⟨q, hq, hqn, hqd, hqs, hq1, _⟩ := inR_mem g1 hne
   obtain ⟨hq2, hqo⟩ := cutL_mem.1 hq
   have hpw := List.pairwise_iff_getElem.1 h.names
   rw [← hon] at hqo
   obtain ⟨i, hi, rfl⟩ := List.mem_iff_getElem.1 hq2
   obtain ⟨j, hj, rfl⟩ := List.mem_iff_getElem.1 hro
   rcases Nat.lt_trichotomy i j with c | c | c
   · exact hpw i j hi hj c (hqd.trans hod.symm) hq1 ho1 (hqs.trans hos.symm)
   · subst c; exact hqo rfl
   · exact hpw j i hj hi c (hod.trans hqd.symm) ho1 hq1 (hos.trans hqs.symm)
 obtain ⟨g1, g2, g3, g4, g5, g6, g7⟩ := KEY
 have hxe : movX (roomL L td z) n td z = movX L n td z := by
  unfold movX
  rw [hra]
  have := at_mem g1 g3
  rw [hrn] at this
  rw [this]
 have hrk : ∃ d : Int → Nat, ∀ q ∈ withL (roomL L td z) (movX (roomL L td z) r.f0 td z), q.f0 ≠ 1 → d q.f1 < d q.f0 := by
  rw [hrn, hxe]
  exact mov_rank h hM (n := n) (td := td) (by show (atR L n).f0 = n; rw [hra]; exact hrn) rfl (by rw [← hrn]; exact hr1) g7 hsub
 have CORE := fun T2 T3 e2 e3 => mov_core g1 g2 g3 hr1 g4 (by rw [hrn]; exact hnt) z4 g5 hrk T2 T3 e2 e3
 rw [hrn, hrd, hrs, hxe] at CORE
 refine ⟨z1, z2, z4, hins, hroom, ?_, g6, g1, fun T2 T3 e2 e3 => (CORE T2 T3 e2 e3).2.2, ⟨r, g3, hrn, hrd, hrs, hr1⟩⟩
 have := CORE _ _ rfl rfl
 exact ⟨this.1, this.2.1⟩
theorem good_mov {L : List RN} {last : Int} (hG : GoodL L last) (hM : GoodM L) (fr : Int) (s : ByteArray) (td : Int) (z : ByteArray) : GoodL (movM L last fr s td z) last ∧ GoodM (movM L last fr s td z) := by
 unfold movM
 by_cases he : movP L last fr s td z = 0 ∧ (roomRE L (inR L fr s) td z).1 = false
 · rw [if_pos he]; exact (mov_all hG hM he.1 he.2).good
 · rw [if_neg he]; exact ⟨hG, hM⟩
theorem tmove_calls (p B : Nat) (L : List RN) (last fr : Int) (s : ByteArray) (td : Int) (z : ByteArray) (w : World) (h : TreeB w p B (trOf L last)) (hG : GoodL L last) (hM : GoodM L) (hf : wf fr) (ht : wf td) (hz : z.size < 4294967281) (hla : last ≤ 1000000) :
  Calls Tryz.prog 115 #[pT p, .int .i64 fr, .string s, .int .i64 td, .string z] w fun e w' => e = .returned (.int .i64 (movP L last fr s td z)) ∧ TreeB w' p B (trOf (movM L last fr s td z) last) ∧ Frm w w' p B := by
 have hO := trOK hG hla
 unfold movM
 by_cases he : movP L last fr s td z = 0 ∧ (roomRE L (inR L fr s) td z).1 = false
 ·
  rw [if_pos he, he.1]
  have M := mov_all hG hM he.1 he.2
  obtain ⟨k, hk⟩ : ∃ k, (atR L (inR L fr s)).f3 = 1 → insF (trOf L last) k td (inR L fr s) = some false := by
   by_cases k1 : (atR L (inR L fr s)).f3 = 1
   ·
    obtain ⟨k, hk⟩ := M.ins k1
    exact ⟨k, fun _ => hk⟩
   · exact ⟨0, fun h => absurd h k1⟩
  obtain ⟨c1, ⟨c2, c3⟩, c4, c5, c6⟩ := M.core _ _ rfl rfl
  obtain ⟨r, hr, hrn, hrd, hrs, hr1⟩ := M.mem
  have hfe : findE ((trOf L last).node fr).ents s = (inR L fr s, true) := by
   rw [node_of hG]
   show findE (entsOf L fr) s = _
   rw [find_ents hG]
   have := (movRE_zero he.1).2.2.1
   have := (inR_le hG fr s).1
   rw [decide_eq_true (by omega)]
  have hl1 := M.l1.len
  have hel := fun m => ents_len (roomL L td z) m
  refine (move_ok p B (trOf L last) (trOf (roomL L td z) last) _ _ fr s td z (inR L fr s) false k w h hO hf ht hz hfe (by rw [node_of hG]; exact M.kf) (by rw [node_of hG]; exact M.kt) M.ck (by rw [node_of hG]; exact hk) (by rw [roomE_eq hG]; exact M.room) (cnt_lt hG) M.one.symm rfl rfl
   (cnt_lt M.l1) (by rw [c2]; omega) (by rw [c3]; omega) (by rw [c4]; have := hel fr; omega) (by rw [c4]; exact M.l1.rt _) ?_ ?_ ?_ c6).mono ?_
  ·
   rw [c4]
   exact findE_some (mem_ents.2 ⟨r, hr, isIn_iff.2 ⟨hrd, hr1⟩, rfl⟩) hrs
  ·
   rw [c5]
   split
   ·
    have := cutEn_len (entsOf (roomL L td z) fr) s
    have := hel fr
    omega
   ·
    have := hel td
    omega
  ·
   rw [c5]
   split
   · exact cutEn_rt (M.l1.rt _) _
   · exact M.l1.rt _
  ·
   rintro e w' ⟨rfl, hT, hF⟩
   rw [c1] at hT
   exact ⟨rfl, hT, hF⟩
 ·
  rw [if_neg he]
  obtain ⟨k, ins, hk, hp⟩ : ∃ k ins, (dirE (atR L td).f3 = 0 → (atR L (inR L fr s)).f3 = 1 → insF (trOf L last) k td (inR L fr s) = some ins) ∧ movRE L fr s td z ins = movP L last fr s td z := by
   by_cases k2 : (atR L td).f3 = 1
   ·
    obtain ⟨k, b, hk⟩ := ins_ex hG hM (inR L fr s) td (by rw [k2]; decide)
    refine ⟨k, b, fun _ _ => hk, ?_⟩
    unfold movP
    congr 1
    cases b with
    | true => exact (insV_true ⟨k, hk⟩).symm
    | false =>
     refine (insV_false ?_).symm
     rintro ⟨k', hk'⟩
     have := insF_det hk hk'
     cases this
   · exact ⟨0, insV L last td (inR L fr s), fun h0 => absurd (dirE_zero h0) k2, rfl⟩
  refine (move_stay p B (trOf L last) fr s td z ins k w h hO hf ht hz (by rw [node_of hG fr, node_of hG td]; simp only [find_ents hG fr s]; rw [node_of hG]; exact hk) ?_).mono ?_
  ·
   unfold movS
   rw [movE_eq hG, hp, node_of hG fr]
   simp only [find_ents hG fr s]
   rw [roomE_eq hG]
   by_cases e1 : movP L last fr s td z = 0
   ·
    right
    cases hb : (roomRE L (inR L fr s) td z).1 with
    | true => rfl
    | false => exact absurd ⟨e1, hb⟩ he
   · exact .inl e1
  ·
   rintro e w' ⟨rfl, hb⟩
   rw [movE_eq hG, hp]
   exact ⟨rfl, h.below hb, Frm.ofBelow hb⟩
theorem beginE_ok {s : ByteArray} (h : beginE s = 0) : s.size ≤ 1024 ∧ s.toList ≠ [] := by
 unfold beginE at h
 split at h
 · cases h
 ·
  split at h
  · cases h
  · exact ⟨by omega, by assumption⟩
def findF (T : Tr) (last : Bool) (k : Nat) (s : ByteArray) : Option (Int × Int) :=
 if beginE s = 0 then (walkF T last k 1 0 (partsB s)).bind fun r => if r.2 = 0 then some (r.1, 0) else some (0, r.2) else some (0, beginE s)
theorem Wk.made {w : World} {p : Nat} {l : List ByteArray} {A : Option Addr} {c : Nat} (hr : Kd.C Kd.string w A l.length l) (hc : l.length ≤ c) :
  Wk (w.alloc (.cells #[pT p, .int .i64 1, .int .i64 0, .slice A l.length c] 191)) w.heap.size p 1 0 l A c :=
 ⟨World.alloc_heap_new w _, Kd.C_below hr ((Below.refl _ w).alloc (Nat.le_refl _) _), hc⟩
theorem seekFind_calls (p : Nat) (T : Tr) (s : ByteArray) (last : Bool) (k : Nat) (R : Int × Int) (w : World) (hT : TreeAt w p T) (hO : TrOK T) (hR : findF T last k s = some R) :
  Calls Tryz.prog 156 #[pT p, .string s, .bool last] w fun e w' => e = .returned (.tuple #[.int .i64 R.1, .int .i64 R.2]) ∧ Below w.heap.size w w' := by
 have HBG := qh (fun W => begin_calls p s W)
 unfold findF at hR
 by_cases h0 : beginE s = 0
 ·
  rw [if_pos h0] at hR
  rw [h0] at HBG
  obtain ⟨hz, -⟩ := beginE_ok h0
  obtain ⟨r, hr, hR⟩ := Option.bind_eq_some_iff.1 hR
  have HP := qh (fun W => path_Parts.calls s (partsB s) W (by rw [path_Parts.f, if_pos (by omega)]; rfl))
  have hpl := partsB_len' s
  have HW := qh (fun W g A c h1 h2 h3 => walk_calls w.heap.size w g p T hT hO last k 1 (partsB s) A c r W h1 h2 h3 wf1 (by omega) (fun x hx => Nat.le_trans (partsB_sz s x hx) (by omega)) hr)
  have HR := qh hR
  clear hT hR hr h0
  generalize partsB s = l at HP HW hpl
  obtain ⟨rn, re⟩ := r
  simp only [] at HR
  go_enter Tryz.func156, Tryz.ntmps156
  go_upto_region 5 with (first | (go_at_call 134; refine (HBG.out _).mono ?_; rintro e w2 ⟨rfl, rfl⟩) | (go_at_call 135; refine (HP.out _).mono ?_; rintro e w3 ⟨v, rfl, ho, hb3⟩; obtain ⟨A3, c3, rfl, hl3, hC3⟩ := Kd.R_reads ho; have HC3 := qh hC3; have HB3 := qh hb3; have HL3 := qh hl3; clear ho hC3 hb3 hl3))
  have hk := Wk.made (p := p) HC3.out HL3.out
  have hB : Below w.heap.size w (w3.alloc (.cells #[pT p, .int .i64 1, .int .i64 0, .slice A3 l.length c3] 191)) := HB3.out.alloc HB3.out.size _
  have hg : w.heap.size ≤ w3.heap.size := HB3.out.size
  generalize w3.alloc (.cells #[pT p, .int .i64 1, .int .i64 0, .slice A3 l.length c3] 191) = w4 at hk hB ⊢
  generalize w3.heap.size = g at hk hg ⊢
  have HWK := qh (HW.out w4 g A3 c3 hk hB hg)
  clear hk hB HW HC3 HB3 HL3
  by_cases he : re = 0
  ·
   subst he
   rw [if_pos rfl] at HR
   go_upto_region 8 with (go_at_call 137; refine HWK.out.mono ?_; rintro e w5 ⟨rfl, hw5⟩)
   obtain ⟨hq, hb5⟩ := hw5
   obtain ⟨h5, l5, A5, c5, hk5⟩ := hq rfl
   obtain ⟨c0, c1, c2, c3⟩ := hk5.cells
   have HB5 := qh hb5
   have hR := Option.some.inj HR.out
   subst hR
   clear hk5 hq hb5
   go_wp2
   go_ret2
   exact ⟨rfl, HB5.out⟩
  ·
   rw [if_neg he] at HR
   have b3 : (re != 0) = true := bne_iff_ne.2 he
   have hR := Option.some.inj HR.out
   subst hR
   clear he
   go_wp2_with (go_at_call 137; refine HWK.out.mono ?_; rintro e w5 ⟨rfl, hw5⟩)
   go_ret2
   exact ⟨rfl, hw5.2⟩
 ·
  rw [if_neg h0] at hR
  have hR := Option.some.inj hR
  subst hR
  have b3 : (beginE s != 0) = true := bne_iff_ne.2 h0
  generalize beginE s = e0 at HBG b3
  clear h0 hT
  go_enter Tryz.func156, Tryz.ntmps156
  go_wp2_with (first | (go_at_call 134; refine (HBG.out _).mono ?_; rintro e w2 ⟨rfl, rfl⟩))
  go_ret2
  exact ⟨rfl, Below.refl _ _⟩
theorem cloneS_calls (A : Option Addr) (c : Nat) (l : List ByteArray) (w : World) (hr : Kd.C Kd.string w A l.length l) (hc : l.length ≤ c) (hl : l.length < 4294967296) :
  Calls Tryz.prog 136 #[.slice A l.length c] w fun e w' => ∃ v, e = .returned v ∧ Kd.R Kd.string 9 w' w.heap.size (fun _ => True) v l ∧ Below w.heap.size w w' := by
 have hq := fun W => Lib.run_eql_slice_nil (P := Tryz.prog) W 186 9 A l.length c 0 0 Tryz.underlying186
 have HR := qh hr
 have HRE := qh (R_empty Kd.string 9 w w.heap.size (Nat.le_refl _))
 have HB := qh ((Below.refl w.heap.size w).alloc (Nat.le_refl _) (.cells #[] 9))
 cases A with
 | none =>
  have h0 : l = [] := by
   cases l with
   | nil => rfl
   | cons a b => obtain ⟨ad, e, _⟩ := hr.2.2 (by simp); cases e
  subst h0
  clear hr HR hq
  have hq := fun W => Lib.run_eql_slice_nil (P := Tryz.prog) W 186 9 none 0 c 0 0 Tryz.underlying186
  simp only [Option.isNone_none] at hq
  go_enter Tryz.func136, Tryz.ntmps136
  go_wp2
  go_ret
  exact ⟨_, rfl, Kd.R_nil _ _ _ _ _, Below.refl _ _⟩
 | some ad =>
  clear hr
  simp only [Option.isNone_some] at hq
  go_enter Tryz.func136, Tryz.ntmps136
  go_wp2_with ((with_reducible refine gate_builtin (b := .append) (xs := #[.tmp 5, .tmp 6]) rfl ?_); at_builtin; refine Kd.R_append_rows Kd.string (w0 := w) w.heap.size rfl (.tmp 5) (.tmp 6) 186 9 (.string ⟨#[]⟩) 16 rfl Tryz.underlying186 infoS rfl (by decide) (by omega) _ [] l _ _ _ (fun _ => True) (fun _ => False) rfl rfl HRE.out (Kd.C_below HR.out HB.out) (fun _ _ h => h) (fun _ h => h.elim) (fun _ _ => trivial) HB.out (by simp) (by simp; omega) ?_; intro v1 w1 ho hb hg hat)
  go_ret
  exact ⟨_, rfl, ho, hb⟩
abbrev R3 := Int × ByteArray × Int
def noS (e : Int) : R3 := (0, ⟨#[]⟩, e)
def spotF (T : Tr) (k : Nat) (s : ByteArray) : Option R3 :=
 if beginE s = 0 then
  match (partsB s).getLast? with
  | none => some (noS 6)
  | some z => if z.toList = [46, 46] then some (noS 6) else (walkF T true k 1 0 (partsB s).dropLast).bind fun r =>
    if r.2 = 0 then (if (T.node r.1).kind = 1 then (if Sp.check z.data.toList = 0 then some (r.1, z, 0) else some (noS (Sp.check z.data.toList))) else some (noS 7)) else some (noS r.2)
 else some (noS (beginE s))
theorem walkF_wf {T : Tr} (hO : TrOK T) (last : Bool) : ∀ (k : Nat) (a h : Int) (l : List ByteArray) (R : Int × Int), wf a → walkF T last k a h l = some R → wf R.1 := by
 intro k
 induction k with
 | zero => intro a h l R _ hR; simp [walkF] at hR
 | succ k ih =>
  intro a h l R ha hR
  cases l with
  | nil => simp only [walkF, Option.some.injEq] at hR; subst hR; exact ha
  | cons s l =>
   simp only [walkF] at hR
   split at hR
   · cases hR; exact ha
   ·
    split at hR
    · exact ih _ _ _ _ (hO.wf_up a) hR
    ·
     split at hR
     · cases hR; exact ha
     ·
      split at hR
      · exact ih _ _ _ _ (hO.wf_down a s) hR
      ·
       split at hR
       · cases hR; exact ha
       ·
        refine ih _ _ _ _ ?_ hR
        split
        · exact wf1
        · exact ha
theorem spot_calls (p : Nat) (T : Tr) (s : ByteArray) (k : Nat) (R : R3) (w : World) (hT : TreeAt w p T) (hO : TrOK T) (hR : spotF T k s = some R) :
  Calls Tryz.prog 93 #[pT p, .string s] w fun e w' => e = .returned (.tuple #[.int .i64 R.1, .string R.2.1, .int .i64 R.2.2]) ∧ Below w.heap.size w w' := by
 have HBG := qh (fun W => begin_calls p s W)
 unfold spotF at hR
 by_cases h0 : beginE s = 0
 ·
  rw [if_pos h0] at hR
  rw [h0] at HBG
  obtain ⟨hz, -⟩ := beginE_ok h0
  have HP := qh (fun W => path_Parts.calls s (partsB s) W (by rw [path_Parts.f, if_pos (by omega)]; rfl))
  have hpl := partsB_len' s
  have hps := partsB_sz s
  generalize partsB s = l at hR HP hpl hps
  clear h0
  rcases List.eq_nil_or_concat l with rfl | ⟨ini, z, rfl⟩
  ·
   have hR := Option.some.inj hR
   subst hR
   go_enter Tryz.func93, Tryz.ntmps93
   go_wp2_with (first | (go_at_call 134; refine (HBG.out _).mono ?_; rintro e w2 ⟨rfl, rfl⟩) | (go_at_call 135; refine (HP.out _).mono ?_; rintro e w3 ⟨v, rfl, ho, hb3⟩; obtain ⟨A3, c3, rfl, hl3, hC3⟩ := Kd.R_reads ho; clear ho hC3))
   go_ret3
   exact ⟨rfl, hb3⟩
  ·
   rw [List.concat_eq_append] at *
   rw [List.getLast?_concat, List.dropLast_concat] at hR
   simp only [] at hR
   have hlen : (ini ++ [z]).length = ini.length + 1 := by simp
   by_cases hdd : z.toList = [46, 46]
   ·
    rw [if_pos hdd] at hR
    have hR := Option.some.inj hR
    subst hR
    have b2 : (z.toList == [46, 46]) = true := by rw [hdd]; rfl
    go_enter Tryz.func93, Tryz.ntmps93
    go_upto_region 6 with (first | (go_at_call 134; refine (HBG.out _).mono ?_; rintro e w2 ⟨rfl, rfl⟩) | (go_at_call 135; refine (HP.out _).mono ?_; rintro e w3 ⟨v, rfl, ho, hb3⟩; obtain ⟨A3, c3, rfl, hl3, hC3⟩ := Kd.R_reads ho; have HC3 := qh hC3; clear ho hC3))
    obtain ⟨ad, eA, x0⟩ := Kd.at_string HC3.out (ini.length : Int) (by omega) (by simp; omega)
    have e0 : rdOf ByteArray.empty (ini ++ [z]) (ini.length : Int) = z := by simp [rdOf]
    rw [e0, Int.toNat_natCast] at x0
    subst eA
    have d0 : decide ((ini.length : Int) < 0) = false := decide_eq_false (by omega)
    have i0 : (0 : Int) ≤ (ini.length : Int) := by omega
    have i1 : (ini.length : Int) < (ini.length : Int) + 1 := by omega
    have i2 : (ini.length : Int) ≤ (ini.length : Int) + 1 := by omega
    clear e0
    go_wp2
    go_ret3
    exact ⟨rfl, hb3⟩
   ·
    rw [if_neg hdd] at hR
    have b2 : (z.toList == [46, 46]) = false := by simpa using hdd
    clear hdd
    obtain ⟨r, hr, hR⟩ := Option.bind_eq_some_iff.1 hR
    have hwr := walkF_wf hO true k 1 0 ini r wf1 hr
    have HW := qh (fun w4 (hT4 : TreeAt w4 p T) W g A c h1 h2 h3 => walk_calls w4.heap.size w4 g p T hT4 hO true k 1 ini A c r W h1 h2 h3 wf1 (by simp at hpl; omega) (fun x hx => Nat.le_trans (hps x (List.mem_append_left _ hx)) (by omega)) hr)
    have HT := qh hT
    have HR := qh hR
    have hzz : z.size < 4294967281 := by have := hps z (by simp); omega
    have HCK := qh (fun W => name_Check.calls z (Sp.check z.data.toList) W (by rw [name_Check.f, if_pos hzz]))
    have HKD := qh (fun W (h : TreeAt W p T) => kind_calls p T r.1 W h hwr)
    have hini : ini.length < 4294967296 := by simp at hpl; omega
    clear hT hR hr hps hwr
    obtain ⟨rn, re⟩ := r
    simp only [] at HR HKD
    go_enter Tryz.func93, Tryz.ntmps93
    go_upto_region 6 with (first | (go_at_call 134; refine (HBG.out _).mono ?_; rintro e w2 ⟨rfl, rfl⟩) | (go_at_call 135; refine (HP.out _).mono ?_; rintro e w3 ⟨v, rfl, ho, hb3⟩; obtain ⟨A3, c3, rfl, hl3, hC3⟩ := Kd.R_reads ho; have HC3 := qh hC3; clear ho hC3))
    obtain ⟨ad, eA, x0⟩ := Kd.at_string HC3.out (ini.length : Int) (by omega) (by simp; omega)
    have e0 : rdOf ByteArray.empty (ini ++ [z]) (ini.length : Int) = z := by simp [rdOf]
    rw [e0, Int.toNat_natCast] at x0
    subst eA
    have d0 : decide ((ini.length : Int) < 0) = false := decide_eq_false (by omega)
    have i0 : (0 : Int) ≤ (ini.length : Int) := by omega
    have i1 : (ini.length : Int) < (ini.length : Int) + 1 := by omega
    have i2 : (ini.length : Int) ≤ (ini.length : Int) + 1 := by omega
    clear e0
    have X0 := qh x0
    have HB3 := qh hb3
    have hct := Kd.C_take (m := ini.length) HC3.out (by simp)
    rw [List.take_left] at hct
    have HCT := qh hct
    clear hct hb3
    go_upto_region 9 with (go_at_call 136; refine (cloneS_calls _ _ ini _ HCT.out (by simp at hl3; omega) hini).mono ?_; rintro e w4 ⟨v4, rfl, ho4, hb4⟩; obtain ⟨A4, c4, rfl, hl4, hC4⟩ := Kd.R_reads ho4; have HC4 := qh hC4; have HB4 := qh (HB3.out.trans (hb4.mono HB3.out.size)); have x4 := pw_cell_below hb4 X0.out; clear ho4 hC4 hb4)
    have hk := Wk.made (p := p) HC4.out hl4
    have hB : Below w4.heap.size w4 (w4.alloc (.cells #[pT p, .int .i64 1, .int .i64 0, .slice A4 ini.length c4] 191)) := (Below.refl _ w4).alloc (Nat.le_refl _) _
    have hg : w4.heap.size ≤ w4.heap.size := Nat.le_refl _
    generalize w4.alloc (.cells #[pT p, .int .i64 1, .int .i64 0, .slice A4 ini.length c4] 191) = w5 at hk hB ⊢
    have HWK := qh (HW.out w4 (HT.out.below HB4.out) w5 w4.heap.size A4 c4 hk hB hg)
    have X4 := qh x4
    clear hk hB hg HW HC4 x0 x4 hl4 HCT
    generalize hgg : w4.heap.size = g at HWK ⊢
    have HG := qh hgg
    clear hgg
    by_cases he : re = 0
    ·
     subst he
     rw [if_pos rfl] at HR
     by_cases hkd : (T.node rn).kind = 1
     ·
      rw [if_pos hkd] at HR
      rw [hkd] at HKD
      clear hkd
      generalize Sp.check z.data.toList = ck at HR HCK
      by_cases hc0 : ck = 0
      ·
       subst hc0
       rw [if_pos rfl] at HR
       have hR := Option.some.inj HR.out
       subst hR
       go_upto_region 17 with (first | (go_at_call 137; refine HWK.out.mono ?_; rintro e w6 ⟨rfl, hw6⟩; obtain ⟨hq, hb6⟩ := hw6; obtain ⟨h6, l6, A6, c6, hk6⟩ := hq rfl; have y6 := pw_cell_below hb6 X4.out; obtain ⟨c0, c1, c2, c3⟩ := hk6.cells; have HK6 := qh hk6; have HB6 := qh (HB4.out.trans (hb6.mono HB4.out.size)); clear hk6 hq) | (go_at_call 69; refine (HKD.out _ (HT.out.below HB6.out)).mono ?_; rintro e w7 ⟨rfl, hb7⟩; have y7 := pw_cell_below hb7 y6; have c17 := pw_cell_below hb7 c1; have HB7 := qh (HB6.out.trans (hb7.mono HB6.out.size))) | (go_at_call 98; refine (HCK.out _).mono ?_; rintro e w8 ⟨rfl, hb8⟩; have y8 := pw_cell_below hb8 y7; have c18 := pw_cell_below hb8 c17; have HB8 := qh (HB7.out.trans (hb8.mono HB7.out.size))))
       clear hb6 hb7 hb8 y6 y7 c0 c1 c2 c3 c17
       go_quiet (fail)
       go_wp2
       go_ret3
       exact ⟨rfl, pw_below_drewN HB8.out nq⟩
      ·
       rw [if_neg hc0] at HR
       have b6 : (ck != 0) = true := bne_iff_ne.2 hc0
       have hR := Option.some.inj HR.out
       subst hR
       clear hc0
       go_wp2_with (first | (go_at_call 137; refine HWK.out.mono ?_; rintro e w6 ⟨rfl, hw6⟩; obtain ⟨hq, hb6⟩ := hw6; obtain ⟨h6, l6, A6, c6, hk6⟩ := hq rfl; have y6 := pw_cell_below hb6 X4.out; obtain ⟨c0, c1, c2, c3⟩ := hk6.cells; have HK6 := qh hk6; have HB6 := qh (HB4.out.trans (hb6.mono HB4.out.size)); clear hk6 hq) | (go_at_call 69; refine (HKD.out _ (HT.out.below HB6.out)).mono ?_; rintro e w7 ⟨rfl, hb7⟩; have y7 := pw_cell_below hb7 y6; have c17 := pw_cell_below hb7 c1; have HB7 := qh (HB6.out.trans (hb7.mono HB6.out.size))) | (go_at_call 98; refine (HCK.out _).mono ?_; rintro e w8 ⟨rfl, hb8⟩; have y8 := pw_cell_below hb8 y7; have c18 := pw_cell_below hb8 c17; have HB8 := qh (HB7.out.trans (hb8.mono HB7.out.size))))
       go_ret3
       exact ⟨rfl, HB8.out⟩
     ·
      rw [if_neg hkd] at HR
      have b5 : ((T.node rn).kind != 1) = true := bne_iff_ne.2 hkd
      generalize (T.node rn).kind = kd at HKD b5
      have hR := Option.some.inj HR.out
      subst hR
      clear hkd
      go_wp2_with (first | (go_at_call 137; refine HWK.out.mono ?_; rintro e w6 ⟨rfl, hw6⟩; obtain ⟨hq, hb6⟩ := hw6; obtain ⟨h6, l6, A6, c6, hk6⟩ := hq rfl; have y6 := pw_cell_below hb6 X4.out; obtain ⟨c0, c1, c2, c3⟩ := hk6.cells; have HK6 := qh hk6; have HB6 := qh (HB4.out.trans (hb6.mono HB4.out.size)); clear hk6 hq) | (go_at_call 69; refine (HKD.out _ (HT.out.below HB6.out)).mono ?_; rintro e w7 ⟨rfl, hb7⟩; have y7 := pw_cell_below hb7 y6; have c17 := pw_cell_below hb7 c1; have HB7 := qh (HB6.out.trans (hb7.mono HB6.out.size))))
      go_ret3
      exact ⟨rfl, HB7.out⟩
    ·
     rw [if_neg he] at HR
     have b4 : (re != 0) = true := bne_iff_ne.2 he
     have hR := Option.some.inj HR.out
     subst hR
     clear he
     go_wp2_with (go_at_call 137; refine HWK.out.mono ?_; rintro e w6 ⟨rfl, hw6⟩)
     go_ret3
     exact ⟨rfl, HB4.out.trans (hw6.2.mono HB4.out.size)⟩
 ·
  rw [if_neg h0] at hR
  have hR := Option.some.inj hR
  subst hR
  have b3 : (beginE s != 0) = true := bne_iff_ne.2 h0
  generalize beginE s = e0 at HBG b3
  clear h0 hT
  go_enter Tryz.func93, Tryz.ntmps93
  go_wp2_with (first | (go_at_call 134; refine (HBG.out _).mono ?_; rintro e w2 ⟨rfl, rfl⟩))
  go_ret3
  exact ⟨rfl, Below.refl _ _⟩
end Go.Proofs.YtnpeeiikdcankaaGreat.Tw

namespace Go.Proofs.YtnpeeiikdcankaaGreat.X
open Go.RowKit Go.Proofs.YtnpeeiikdcankaaGreatW.PrintWords Go.Proofs.YtnpeeiikdcankaaGreatW.PrintLast Go.Proofs.YtnpeeiikdcankaaGreatW.PrintMore Go.Proofs.YtnpeeiikdcankaaGreat.Ext
attribute [local go_sem] max2_int min2_int max_two min_two max_three min_three max_four min_four
mutual
def linhayref08_Go.j0 : Nat → Int → List ByteArray → Bool → Int → Int → Bool → List (S106) → Int → Int → Int → ByteArray → Int → ByteArray → Option (Int × Int × Int)
 | 0, _, _, _, _, _, _, _, _, _, _, _, _, _ => none
 | k + 1, x1, x2, x3, x4, x14, x75, x186000, x186001, x211000, x211001, x211002, x211003, x211004 => if x75 = true then (if 1 ≤ (x2.length : Int) then ((linhayref08_Go.f k x186000 x186001 x14 (x2.drop 1) x3 x4).bind fun bt212 => (some (bt212.1, bt212.2.1, bt212.2.2))) else (none)) else (if x4 = 40 then (some (0, x4, 10)) else (if 0 < (x211004.size : Int) then (if (bt x211004 0) = 47 then ((linhayref04_Parts.f k x211004).bind fun t215 => (if ([] : List ByteArray).length + t215.length < 8796093022208 then ((some (([] : List ByteArray) ++ t215 : List ByteArray)).bind fun y218 => (if 1 ≤ (x2.length : Int) then (if y218.length + (x2.drop 1).length < 8796093022208 then ((linhayref08_Go.f k x186000 x186001 1 (y218 ++ (x2.drop 1)) x3 (wrap64 (x4 + 1))).bind fun bt225 => (some (bt225.1, bt225.2.1, bt225.2.2))) else (none)) else (none))) else (none))) else ((linhayref04_Parts.f k x211004).bind fun t228 => (if ([] : List ByteArray).length + t228.length < 8796093022208 then ((some (([] : List ByteArray) ++ t228 : List ByteArray)).bind fun y231 => (if 1 ≤ (x2.length : Int) then (if y231.length + (x2.drop 1).length < 8796093022208 then ((linhayref08_Go.f k x186000 x186001 x1 (y231 ++ (x2.drop 1)) x3 (wrap64 (x4 + 1))).bind fun bt238 => (some (bt238.1, bt238.2.1, bt238.2.2))) else (none)) else (none))) else (none)))) else (none)))
def linhayref08_Go.f : Nat → List (S106) → Int → Int → List ByteArray → Bool → Int → Option (Int × Int × Int)
 | 0, _, _, _, _, _, _ => none
 | k + 1, l0_0, a0_1, a1, l2, a3, a4 => if (l2.length : Int) = 0 then (some (a1, a4, 0)) else ((linhayref07_At.f k l0_0 a0_1 a1).bind fun bt186 => (if bt186.2.2.2.1 = 1 then (if 0 < (l2.length : Int) then (if (rdOf ByteArray.empty l2 0).toList = ([46, 46] : List UInt8) then ((linhayref07_At.f k l0_0 a0_1 a1).bind fun bt192 => (if 1 ≤ (l2.length : Int) then ((linhayref08_Go.f k l0_0 a0_1 bt192.2.1 (l2.drop 1) a3 a4).bind fun bt198 => (some (bt198.1, bt198.2.1, bt198.2.2))) else (none))) else ((linhayref03_Check.f k (rdOf ByteArray.empty l2 0)).bind fun t202 => (if t202 = 0 then ((linhayref07_In.f k l0_0 a0_1 a1 (rdOf ByteArray.empty l2 0)).bind fun t204 => ((linhayref07_At.f k l0_0 a0_1 t204).bind fun bt205 => (if t204 = 0 then (some (0, a4, 5)) else (if bt205.2.2.2.1 = 3 then (if (l2.length : Int) = 1 then (linhayref08_Go.j0 k a1 l2 a3 a4 t204 (!a3) l0_0 a0_1 bt205.1 bt205.2.1 bt205.2.2.1 bt205.2.2.2.1 bt205.2.2.2.2) else (linhayref08_Go.j0 k a1 l2 a3 a4 t204 false l0_0 a0_1 bt205.1 bt205.2.1 bt205.2.2.1 bt205.2.2.2.1 bt205.2.2.2.2)) else (linhayref08_Go.j0 k a1 l2 a3 a4 t204 true l0_0 a0_1 bt205.1 bt205.2.1 bt205.2.2.1 bt205.2.2.2.1 bt205.2.2.2.2))))) else (some (0, a4, t202))))) else (none)) else (some (0, a4, 7))))
end
def linhayref08_Go.T6 : Bool × List (List Nat × List Nat) := (true, [([], []), ([], []), ([], []), ([1, 2], [1, 2]), ([3], [3]), ([], []), ([5], [5]), ([], []), ([], []), ([0, 4, 6, 7, 8, 3], [0, 4, 6, 7, 8]), ([9], [9]), ([9], [9]), ([9], [9]), ([10, 9, 0, 1, 2, 3, 4, 5, 6, 7, 8, 9, 10, 11, 12], [10]), ([11, 13, 0, 1, 2, 3, 4, 5, 6, 7, 8, 9, 10, 11, 12, 13], [11]), ([12, 14, 0, 1, 2, 3, 4, 5, 6, 7, 8, 9, 10, 11, 12, 13, 14], [12])])
def linhayref08_Go.B6 : List Nat := [0, 0, 0, 6, 14, 0, 32, 0, 0, 511, 1023, 1023, 1023, 8191, 16383, 32767]
theorem linhayref08_Go.tab6 : rtab .any (opsOf Tryz.f144 6) = linhayref08_Go.T6 := by kernel_rfl
theorem linhayref08_Go.bits6 : waitsOk linhayref08_Go.T6.2 linhayref08_Go.B6 = true := by kernel_rfl
def linhayref08_Go.T15 : Bool × List (List Nat × List Nat) := (true, [([], []), ([], []), ([], []), ([2], [2]), ([], []), ([], []), ([0, 1, 3, 4, 5], [0, 1, 3, 4, 5]), ([6], [6]), ([6], [6]), ([6], [6]), ([7, 6, 0, 1, 2, 3, 4, 5, 6, 7, 8, 9], [7]), ([8, 10, 0, 1, 2, 3, 4, 5, 6, 7, 8, 9, 10], [8]), ([9, 11, 0, 1, 2, 3, 4, 5, 6, 7, 8, 9, 10, 11], [9])])
def linhayref08_Go.B15 : List Nat := [0, 0, 0, 4, 0, 0, 63, 127, 127, 127, 1023, 2047, 4095]
theorem linhayref08_Go.tab15 : rtab .any (opsOf Tryz.f144 15) = linhayref08_Go.T15 := by kernel_rfl
theorem linhayref08_Go.bits15 : waitsOk linhayref08_Go.T15.2 linhayref08_Go.B15 = true := by kernel_rfl
def linhayref08_Go.T20 : Bool × List (List Nat × List Nat) := (true, [([], []), ([], []), ([], []), ([2], [2]), ([3], [3]), ([4, 4], [4]), ([], []), ([6], [6]), ([5, 7, 5], [5, 7]), ([], []), ([], []), ([10], [10]), ([0, 1, 8, 9, 11, 8], [0, 1, 8, 9, 11]), ([12], [12]), ([12], [12]), ([12], [12]), ([13, 12, 0, 1, 2, 3, 4, 5, 6, 7, 8, 9, 10, 11, 12, 13, 14, 15], [13]), ([14, 16, 0, 1, 2, 3, 4, 5, 6, 7, 8, 9, 10, 11, 12, 13, 14, 15, 16], [14]), ([15, 17, 0, 1, 2, 3, 4, 5, 6, 7, 8, 9, 10, 11, 12, 13, 14, 15, 16, 17], [15])])
def linhayref08_Go.B20 : List Nat := [0, 0, 0, 4, 12, 28, 0, 64, 252, 0, 0, 1024, 4095, 8191, 8191, 8191, 65535, 131071, 262143]
theorem linhayref08_Go.tab20 : rtab .any (opsOf Tryz.f144 20) = linhayref08_Go.T20 := by kernel_rfl
theorem linhayref08_Go.bits20 : waitsOk linhayref08_Go.T20.2 linhayref08_Go.B20 = true := by kernel_rfl
theorem linhayref08_Go.calls (k : Nat) : ∀ (A0_0 : Option Addr) (c0_0 : Nat) (l0_0 : List (S106)) (a0_1 : Int) (a1 : Int) (A2 : Option Addr) (c2 : Nat) (l2 : List ByteArray) (a3 : Bool) (a4 : Int) (r1 : Int) (r2 : Int) (r3 : Int) (w : World) (hr0_0 : Kd.C k106 w A0_0 l0_0.length l0_0) (hc0_0 : l0_0.length ≤ c0_0) (hr2 : Kd.C Kd.string w A2 l2.length l2) (hc2 : l2.length ≤ c2) (h : linhayref08_Go.f k l0_0 a0_1 a1 l2 a3 a4 = some (r1, r2, r3)),
  Calls Tryz.prog 144 #[.agg #[.slice A0_0 l0_0.length c0_0, .int .i64 a0_1], .int .i64 a1, .slice A2 l2.length c2, .bool a3, .int .i64 a4] w fun e w' => e = .returned (.tuple #[.int .i64 r1, .int .i64 r2, .int .i64 r3]) ∧ Below w.heap.size w w' := by
 have hu36 := Tryz.underlying36
 have hu49 := Tryz.underlying49
 have hu66 := Tryz.underlying66
 have hu93 := Tryz.underlying93
 have hu115 := Tryz.underlying115
 have hu130 := Tryz.underlying130
 have hu162 := Tryz.underlying162
 induction k using Nat.strongRecOn with
 | _ k ih =>
 intro A0_0 c0_0 l0_0 a0_1 a1 A2 c2 l2 a3 a4 r1 r2 r3 w hr0_0 hc0_0 hr2 hc2 h
 cases k with
 | zero => exact absurd h (by simp [linhayref08_Go.f])
 | succ k =>
 simp only [linhayref08_Go.f] at h
 have hu30 := Tryz.underlying30
 have hu106 := Tryz.underlying106
 have HR0_0 := qa hr0_0
 have HC0_0 := qa hc0_0
 clear hr0_0 hc0_0
 have HR2 := qa hr2
 have HC2 := qa hc2
 clear hr2 hc2
 have HB := qa (Below.refl w.heap.size w)
 have H : (if (l2.length : Int) = 0 then (some (a1, a4, 0)) else ((linhayref07_At.f k l0_0 a0_1 a1).bind fun bt186 => (if bt186.2.2.2.1 = 1 then (if 0 < (l2.length : Int) then (if (rdOf ByteArray.empty l2 0).toList = ([46, 46] : List UInt8) then ((linhayref07_At.f k l0_0 a0_1 a1).bind fun bt192 => (if 1 ≤ (l2.length : Int) then ((linhayref08_Go.f k l0_0 a0_1 bt192.2.1 (l2.drop 1) a3 a4).bind fun bt198 => (some (bt198.1, bt198.2.1, bt198.2.2))) else (none))) else ((linhayref03_Check.f k (rdOf ByteArray.empty l2 0)).bind fun t202 => (if t202 = 0 then ((linhayref07_In.f k l0_0 a0_1 a1 (rdOf ByteArray.empty l2 0)).bind fun t204 => ((linhayref07_At.f k l0_0 a0_1 t204).bind fun bt205 => (if t204 = 0 then (some (0, a4, 5)) else (if bt205.2.2.2.1 = 3 then (if (l2.length : Int) = 1 then (linhayref08_Go.j0 k a1 l2 a3 a4 t204 (!a3) l0_0 a0_1 bt205.1 bt205.2.1 bt205.2.2.1 bt205.2.2.2.1 bt205.2.2.2.2) else (linhayref08_Go.j0 k a1 l2 a3 a4 t204 false l0_0 a0_1 bt205.1 bt205.2.1 bt205.2.2.1 bt205.2.2.2.1 bt205.2.2.2.2)) else (linhayref08_Go.j0 k a1 l2 a3 a4 t204 true l0_0 a0_1 bt205.1 bt205.2.1 bt205.2.2.1 bt205.2.2.2.1 bt205.2.2.2.2))))) else (some (0, a4, t202))))) else (none)) else (some (0, a4, 7))))) = some (r1, r2, r3) := h
 clear h
 by_cases c6 : (l2.length : Int) = 0
 ·
  rw [if_pos c6] at H
  have c6b0 : ((l2.length : Int) == 0) = true := beq_iff_eq.mpr c6
  have c6b1 : ((l2.length : Int) != 0) = false := bne_eq_false_iff_eq.mpr c6
  clear c6
  simp only [Option.some.injEq, Prod.mk.injEq] at H
  obtain ⟨rfl, rfl, rfl⟩ := H
  go_enter Tryz.func144, Tryz.ntmps144
  go_wp2_with (first | ((with_reducible refine gate_dst (N := 5) rfl ?_); (try (refine gate_guard (by rfl) ?_; dsimp only)); refine box_event ?hg (N := 5) ?hd (cs := #[.slice A0_0 l0_0.length c0_0, .int .i64 a0_1]) (t := 30) ?hr ?_; (case hd => rfl); (case hg => rfl); (case hr => first | (go_simp; done) | (go_simp; rfl)); intro gb185 hg w7 hbox hb; have n0_ := qa (below_step (by repeat (first | (with_reducible first | exact HB.out | apply below_alloc | apply pw_below_drewN | apply below_drew1) | exact HB.out)) hb); have n1_ := qa (hbox); have n2_ := qa ((by rw [hg]; exact (below_size (by repeat (first | (with_reducible first | exact HB.out | apply below_alloc | apply pw_below_drewN | apply below_drew1) | exact HB.out))) : w.heap.size ≤ gb185)); have n3_ := qa ((by rw [hg]; exact (below_size (by repeat (first | (with_reducible first | exact HB.out | apply below_alloc | apply pw_below_drewN | apply below_drew1) | exact HB.out))) : w.heap.size ≤ gb185)); clear HB; have HB := n0_; have BK185 := n1_; have GW185 := n2_; have GE185 := n3_; clear n0_ n1_ n2_ n3_; clear hb hbox hg))
  go_ret3
  exact ⟨by first | rfl | (simp [errW_none, errW_some] <;> rfl) | (simp [*, errW_none, errW_some] <;> rfl) | (simp [errW_none, errW_some, bne_nil]; done) | (simp [*, bne_nil]; done) | (simp [bne]; done), by repeat (first | (with_reducible first | exact HB.out | apply below_alloc | apply pw_below_drewN | apply below_drew1 | refine below_set ?_ GE185.out) | exact HB.out)⟩
 ·
  rw [if_neg c6] at H
  have c6b0 : ((l2.length : Int) == 0) = false := beq_eq_false_iff_ne.mpr c6
  have c6b1 : ((l2.length : Int) != 0) = true := bne_iff_ne.mpr c6
  have c6b2 : ¬ (l2 = []) := fun h_ => c6 (by rw [h_]; rfl)
  replace H := Option.bind_eq_some_iff.mp H
  obtain ⟨⟨t186, t187, t188, t189, t190⟩, A80, H⟩ := H
  replace H : (if t189 = 1 then (if 0 < (l2.length : Int) then (if (rdOf ByteArray.empty l2 0).toList = ([46, 46] : List UInt8) then ((linhayref07_At.f k l0_0 a0_1 a1).bind fun bt192 => (if 1 ≤ (l2.length : Int) then ((linhayref08_Go.f k l0_0 a0_1 bt192.2.1 (l2.drop 1) a3 a4).bind fun bt198 => (some (bt198.1, bt198.2.1, bt198.2.2))) else (none))) else ((linhayref03_Check.f k (rdOf ByteArray.empty l2 0)).bind fun t202 => (if t202 = 0 then ((linhayref07_In.f k l0_0 a0_1 a1 (rdOf ByteArray.empty l2 0)).bind fun t204 => ((linhayref07_At.f k l0_0 a0_1 t204).bind fun bt205 => (if t204 = 0 then (some (0, a4, 5)) else (if bt205.2.2.2.1 = 3 then (if (l2.length : Int) = 1 then (linhayref08_Go.j0 k a1 l2 a3 a4 t204 (!a3) l0_0 a0_1 bt205.1 bt205.2.1 bt205.2.2.1 bt205.2.2.2.1 bt205.2.2.2.2) else (linhayref08_Go.j0 k a1 l2 a3 a4 t204 false l0_0 a0_1 bt205.1 bt205.2.1 bt205.2.2.1 bt205.2.2.2.1 bt205.2.2.2.2)) else (linhayref08_Go.j0 k a1 l2 a3 a4 t204 true l0_0 a0_1 bt205.1 bt205.2.1 bt205.2.2.1 bt205.2.2.2.1 bt205.2.2.2.2))))) else (some (0, a4, t202))))) else (none)) else (some (0, a4, 7))) = some (r1, r2, r3) := H
  have A8 := qa A80
  clear A80
  by_cases c9 : t189 = 1
  ·
   rw [if_pos c9] at H
   have c9b0 : (t189 == 1) = true := beq_iff_eq.mpr c9
   have c9b1 : (t189 != 1) = false := bne_eq_false_iff_eq.mpr c9
   clear c9
   by_cases c10 : 0 < (l2.length : Int)
   ·
    rw [if_pos c10] at H
    have c10b0 : decide (0 < (l2.length : Int)) = true := decide_eq_true c10
    have c10b1 : decide (0 < l2.length) = true := decide_eq_true (by omega)
    clear c10
    by_cases c11 : (rdOf ByteArray.empty l2 0).toList = ([46, 46] : List UInt8)
    ·
     rw [if_pos c11] at H
     have c11b0 : ((rdOf ByteArray.empty l2 0).toList == ([46, 46] : List UInt8)) = true := beq_iff_eq.mpr c11
     have c11b1 : ((rdOf ByteArray.empty l2 0).toList != ([46, 46] : List UInt8)) = false := bne_eq_false_iff_eq.mpr c11
     clear c11
     replace H := Option.bind_eq_some_iff.mp H
     obtain ⟨⟨t192, t193, t194, t195, t196⟩, A120, H⟩ := H
     replace H : (if 1 ≤ (l2.length : Int) then ((linhayref08_Go.f k l0_0 a0_1 t193 (l2.drop 1) a3 a4).bind fun bt198 => (some (bt198.1, bt198.2.1, bt198.2.2))) else (none)) = some (r1, r2, r3) := H
     have A12 := qa A120
     clear A120
     by_cases c13 : 1 ≤ (l2.length : Int)
     ·
      rw [if_pos c13] at H
      have c13b0 := eq_true c13
      have c13b1 : decide (1 ≤ (l2.length : Int)) = true := decide_eq_true c13
      clear c13
      replace H := Option.bind_eq_some_iff.mp H
      obtain ⟨⟨t198, t199, t200⟩, A140, H⟩ := H
      replace H : (some (t198, t199, t200)) = some (r1, r2, r3) := H
      have A14 := qa A140
      clear A140
      simp only [Option.some.injEq, Prod.mk.injEq] at H
      obtain ⟨rfl, rfl, rfl⟩ := H
      go_enter Tryz.func144, Tryz.ntmps144
      try go_wp2_with (first | ((with_reducible refine gate_dst (N := 5) rfl ?_); (try (refine gate_guard (by rfl) ?_; dsimp only)); refine box_event ?hg (N := 5) ?hd (cs := #[.slice A0_0 l0_0.length c0_0, .int .i64 a0_1]) (t := 30) ?hr ?_; (case hd => rfl); (case hg => rfl); (case hr => first | (go_simp; done) | (go_simp; rfl)); intro gb185 hg w15 hbox hb; have n0_ := qa (below_step (by repeat (first | (with_reducible first | exact HB.out | apply below_alloc | apply pw_below_drewN | apply below_drew1) | exact HB.out)) hb); have n1_ := qa (hbox); have n2_ := qa ((by rw [hg]; exact (below_size (by repeat (first | (with_reducible first | exact HB.out | apply below_alloc | apply pw_below_drewN | apply below_drew1) | exact HB.out))) : w.heap.size ≤ gb185)); have n3_ := qa ((by rw [hg]; exact (below_size (by repeat (first | (with_reducible first | exact HB.out | apply below_alloc | apply pw_below_drewN | apply below_drew1) | exact HB.out))) : w.heap.size ≤ gb185)); clear HB; have HB := n0_; have BK185 := n1_; have GW185 := n2_; have GE185 := n3_; clear n0_ n1_ n2_ n3_; clear hb hbox hg; have hcz16_0 : w15.cell? ⟨gb185, 0, none⟩ = some (.slice A0_0 l0_0.length c0_0) := (blk_cell BK185.out 0).trans rfl; have hcz16_1 : w15.cell? ⟨gb185, 1, none⟩ = some (.int .i64 a0_1) := (blk_cell BK185.out 1).trans rfl; have hfz16_0 := blk_frozen BK185.out 0; have hfz16_1 := blk_frozen BK185.out 1) | ((with_reducible refine gate_callee (f := 68) rfl ?_); refine goesL_ (some 23) rfl rfl Tryz.func68 (by kernel_rfl) rfl #[.agg #[.slice A0_0 l0_0.length c0_0, .int .i64 a0_1], .int .i64 a1] rfl (by (try simp only [List.map_toArray, List.map_cons, List.map_nil]); first | done | rfl | (simp only [List.length_drop, List.length_take]; rfl)) ?_; (with_reducible refine (linhayref07_At.calls k _ _ l0_0 a0_1 a1 t186 t187 t188 t189 t190 _ ?side1 ?side2 A8.out).mono ?_); (case side1 => repeat (first | exact (Kd.C_below HR0_0.out HB.out) | (with_reducible refine Kd.C_alloc ?_ _) | (with_reducible refine Kd.C_drewN ?_ _) | (with_reducible refine Kd.C_drew ?_))); (case side2 => exact HC0_0.out); rintro e w17 ⟨rfl, hb⟩; refine ⟨_, rfl, ?_⟩; have n0_ := qa (blk_below (g := gb185) (o := .cells #[.slice A0_0 l0_0.length c0_0, .int .i64 a0_1] 30 (0, 0)) (by (with_reducible repeat (first | refine blk_drewN ?_ _ | refine blk_drew ?_ | refine blk_alloc ?_ _)); exact BK185.out) hb); have n1_ := qa (below_step (by repeat (first | (with_reducible first | exact HB.out | apply below_alloc | apply pw_below_drewN | apply below_drew1 | refine below_set ?_ GE185.out) | exact HB.out)) hb); clear BK185; clear HB; have BK185 := n0_; have HB := n1_; clear n0_ n1_; (try clear hb); (try clear hb2); (try clear hk); (try clear hi); have p191 : 0 ≤ (0 : Int) := (by omega); have q191 : 0 < (l2.length : Int) := of_decide_eq_true (by first | (with_reducible assumption) | assumption); obtain ⟨ad191, e191, hx191_0⟩ := Kd.at_string HR2.out 0 p191 q191; cases e191; have qi191 : (0 < l2.length) = True := eq_true (by omega); (try rw [show ((0 : Int)).toNat = 0 from rfl] at hx191_0); (try rw [Addr.add_zero'] at hx191_0); replace hx191_0 := (HB.out.cell (World.block_lt_of_cell? w _ hx191_0)).trans hx191_0; replace p191 := eq_true p191; replace q191 := eq_true q191))
      have n0_ := qa (blk_drew BK185.out)
      have n1_ := qa (below_drew1 HB.out)
      clear BK185
      clear HB
      have BK185 := n0_
      have HB := n1_
      clear n0_ n1_
      obtain ⟨i019, hi019, _, hsz19, _⟩ := info_parts info9
      obtain ⟨A19, hcut19, hA19, hC19⟩ := print_drop_of (P := Tryz.prog) Value.string (⟨#[]⟩ : ByteArray) 186 9 .i64 Tryz.underlying186 hi019 hsz19 (some ad191) c2 l2 1 (by omega) (of_decide_eq_true (by first | (with_reducible assumption) | assumption)) HC2.out
      have HR197 := qa (Kd.C_of_reads (h1 := fun _ => rfl) (hA19 _ (Kd.reads_of_C HR2.out)))
      have HC197 := qa hC19
      clear hA19 hC19 hi019 hsz19
      refine start_ (n := 16) (S := fun w' => w'.cell? ⟨gb185, 0, none⟩ = some (.slice A0_0 l0_0.length c0_0) ∧ w'.cell? ⟨gb185, 1, none⟩ = some (.int .i64 a0_1)) (ds := []) #[false, false, false, false, false, false, false, false, false, false, false, false, false, false, false, false] (by kernel_rfl) rfl rfl ⟨(blk_cell BK185.out 0).trans rfl, (blk_cell BK185.out 1).trans rfl⟩ (fun hHeld => ?_); refine with_tabW linhayref08_Go.tab6 linhayref08_Go.bits6 (fun HT_ HW_ => ?_)
      generalize w17.drew = w18 at BK185 HB HR197 hHeld ⊢
      refine pure_ (i := 2) (N := some 33) (v := ?_) (a' := ?_) #[false, false, true, false, false, false, false, false, false, false, false, false, false, false, false, false] rfl rfl (any_of HT_.out (by kernel_rfl)) (fun _ _ _ h => h) (Or.inl ⟨by rfl, ?_⟩) ?_ ?_
      rotate_left
      ·
       intro w'
       go_simp
       with_reducible rfl
      rotate_left
      ·
       simp only [Act.put, List.setIfInBounds_toArray, List.set_cons_zero, List.set_cons_succ, i64_w, i32_w]
       rfl
      refine pure_ (i := 5) (N := some 36) (v := ?_) (a' := ?_) #[false, false, true, false, false, true, false, false, false, false, false, false, false, false, false, false] rfl rfl (any_of HT_.out (by kernel_rfl)) (fun _ _ _ h => h) (Or.inl ⟨by rfl, ?_⟩) ?_ ?_
      rotate_left
      ·
       intro w'
       go_simp
       with_reducible rfl
      rotate_left
      ·
       simp only [Act.put, List.setIfInBounds_toArray, List.set_cons_zero, List.set_cons_succ, i64_w, i32_w]
       rfl
      refine pure_ (i := 6) (N := some 37) (v := ?_) (a' := ?_) #[false, false, true, false, false, true, true, false, false, false, false, false, false, false, false, false] rfl rfl (any_of HT_.out (by kernel_rfl)) (fun _ _ _ h => h) (Or.inl ⟨by rfl, ?_⟩) ?_ ?_
      rotate_left
      ·
       intro w'
       go_simp
       with_reducible rfl
      rotate_left
      ·
       simp only [Act.put, List.setIfInBounds_toArray, List.set_cons_zero, List.set_cons_succ, i64_w, i32_w]
       rfl
      refine pure_ (i := 7) (N := some 38) (v := ?_) (a' := ?_) #[false, false, true, false, false, true, true, true, false, false, false, false, false, false, false, false] rfl rfl (any_of HT_.out (by kernel_rfl)) (fun _ _ _ h => h) (Or.inl ⟨by rfl, ?_⟩) ?_ ?_
      rotate_left
      ·
       intro w'
       go_simp
       with_reducible rfl
      rotate_left
      ·
       simp only [Act.put, List.setIfInBounds_toArray, List.set_cons_zero, List.set_cons_succ, i64_w, i32_w]
       rfl
      refine pure_ (i := 8) (N := some 39) (v := ?_) (a' := ?_) #[false, false, true, false, false, true, true, true, true, false, false, false, false, false, false, false] rfl rfl (any_of HT_.out (by kernel_rfl)) (fun _ _ _ h => h) (Or.inl ⟨by rfl, ?_⟩) ?_ ?_
      rotate_left
      ·
       intro w'
       go_simp
       with_reducible rfl
      rotate_left
      ·
       simp only [Act.put, List.setIfInBounds_toArray, List.set_cons_zero, List.set_cons_succ, i64_w, i32_w]
       rfl
      refine take_ (i := 0) (N := some 31) (v := ?_) (a' := ?_) #[true, false, true, false, false, true, true, true, true, false, false, false, false, false, false, false] rfl rfl (take_ofW HT_.out HW_.out (by kernel_rfl)) (fun _ _ _ h => h) (Or.inl ⟨by rfl, ?_⟩) hHeld ?_ ?_
      rotate_left
      ·
       rintro w' ⟨s0, s1⟩
       go_simp
       with_reducible rfl
      rotate_left
      ·
       simp only [Act.put, List.setIfInBounds_toArray, List.set_cons_zero, List.set_cons_succ, i64_w, i32_w]
       rfl
      refine take_ (i := 1) (N := some 32) (v := ?_) (a' := ?_) #[true, true, true, false, false, true, true, true, true, false, false, false, false, false, false, false] rfl rfl (take_ofW HT_.out HW_.out (by kernel_rfl)) (fun _ _ _ h => h) (Or.inl ⟨by rfl, ?_⟩) hHeld ?_ ?_
      rotate_left
      ·
       rintro w' ⟨s0, s1⟩
       go_simp
       with_reducible rfl
      rotate_left
      ·
       simp only [Act.put, List.setIfInBounds_toArray, List.set_cons_zero, List.set_cons_succ, i64_w, i32_w]
       rfl
      refine one_ (i := 3) (N := some 34) #[true, true, true, true, false, true, true, true, true, false, false, false, false, false, false, false] rfl rfl (one_of HT_.out (by kernel_rfl)) (by decide) (fun K hK => ?_)
      refine goes_ Tryz.func68 (by kernel_rfl) rfl #[.agg #[.slice A0_0 l0_0.length c0_0, .int .i64 a0_1], .int .i64 a1] (by rfl) rfl rfl (by (try simp only [List.map_toArray, List.map_cons, List.map_nil]); first | done | rfl | (simp only [List.length_drop, List.length_take]; rfl)) ?_
      with_reducible refine (linhayref07_At.calls k _ _ l0_0 a0_1 a1 t192 t193 t194 t195 t196 _ ?side1 ?side2 A12.out).mono ?_
      (case side1 => repeat (first | exact (Kd.C_below HR0_0.out HB.out) | (with_reducible refine Kd.C_alloc ?_ _) | (with_reducible refine Kd.C_drewN ?_ _) | (with_reducible refine Kd.C_drew ?_)))
      (case side2 => exact HC0_0.out)
      rintro e w20 ⟨rfl, hb⟩
      refine ⟨_, rfl, ?_⟩
      have n0_ := qa (blk_below (g := gb185) (o := .cells #[.slice A0_0 l0_0.length c0_0, .int .i64 a0_1] 30 (0, 0)) (by (with_reducible repeat (first | refine blk_drewN ?_ _ | refine blk_drew ?_ | refine blk_alloc ?_ _)); exact BK185.out) hb)
      have n1_ := qa (below_step (by repeat (first | (with_reducible first | exact HB.out | apply below_alloc | apply pw_below_drewN | apply below_drew1 | refine below_set ?_ GE185.out) | exact HB.out)) hb)
      clear BK185
      clear HB
      have BK185 := n0_
      have HB := n1_
      clear n0_ n1_
      (try clear hb)
      (try clear hb2)
      (try clear hk)
      (try clear hi)
      refine hK.out _ _ ⟨(blk_cell BK185.out 0).trans rfl, (blk_cell BK185.out 1).trans rfl⟩ (fun hHeld => ?_)
      clear hK K
      refine norm_ (a' := ?_) ?_ ?_
      rotate_left
      ·
       show Act.put _ (some 34) _ = _
       simp only [Act.put, List.setIfInBounds_toArray, List.set_cons_zero, List.set_cons_succ, i64_w, i32_w]
       rfl
      refine pure_ (i := 4) (N := some 35) (v := ?_) (a' := ?_) #[true, true, true, true, true, true, true, true, true, false, false, false, false, false, false, false] rfl rfl (any_of HT_.out (by kernel_rfl)) (fun _ _ _ h => h) (Or.inl ⟨by rfl, ?_⟩) ?_ ?_
      rotate_left
      ·
       intro w'
       go_simp
       with_reducible rfl
      rotate_left
      ·
       simp only [Act.put, List.setIfInBounds_toArray, List.set_cons_zero, List.set_cons_succ, i64_w, i32_w]
       rfl
      refine one_ (i := 9) (N := some 40) #[true, true, true, true, true, true, true, true, true, true, false, false, false, false, false, false] rfl rfl (one_of HT_.out (by kernel_rfl)) (by decide) (fun K hK => ?_)
      refine goes_ Tryz.func144 (by kernel_rfl) rfl #[.agg #[.slice A0_0 l0_0.length c0_0, .int .i64 a0_1], .int .i64 t193, .slice A19 (l2.drop 1).length (c2 - 1), .bool a3, .int .i64 a4] (by rfl) rfl rfl (by (try simp only [List.map_toArray, List.map_cons, List.map_nil]); first | done | (rw [show (l2.drop 1).length = (l2.length - 1) from List.length_drop] <;> rfl) | rfl | (simp only [List.length_drop, List.length_take]; rfl)) ?_
      with_reducible refine (ih k (by omega) _ _ l0_0 a0_1 t193 _ _ (l2.drop 1) a3 a4 t198 t199 t200 _ ?side1 ?side2 ?side3 ?side4 A14.out).mono ?_
      (case side1 => repeat (first | exact (Kd.C_below HR0_0.out HB.out) | (with_reducible refine Kd.C_alloc ?_ _) | (with_reducible refine Kd.C_drewN ?_ _) | (with_reducible refine Kd.C_drew ?_)))
      (case side2 => exact HC0_0.out)
      (case side3 => repeat (first | exact (Kd.C_below HR197.out HB.out) | (with_reducible refine Kd.C_alloc ?_ _) | (with_reducible refine Kd.C_drewN ?_ _) | (with_reducible refine Kd.C_drew ?_)))
      (case side4 => exact HC197.out)
      rintro e w21 ⟨rfl, hb⟩
      refine ⟨_, rfl, ?_⟩
      have n0_ := qa (blk_below (g := gb185) (o := .cells #[.slice A0_0 l0_0.length c0_0, .int .i64 a0_1] 30 (0, 0)) (by (with_reducible repeat (first | refine blk_drewN ?_ _ | refine blk_drew ?_ | refine blk_alloc ?_ _)); exact BK185.out) hb)
      have n1_ := qa (below_step (by repeat (first | (with_reducible first | exact HB.out | apply below_alloc | apply pw_below_drewN | apply below_drew1 | refine below_set ?_ GE185.out) | exact HB.out)) hb)
      clear BK185
      clear HB
      have BK185 := n0_
      have HB := n1_
      clear n0_ n1_
      (try clear hb)
      (try clear hb2)
      (try clear hk)
      (try clear hi)
      refine hK.out _ _ ⟨(blk_cell BK185.out 0).trans rfl, (blk_cell BK185.out 1).trans rfl⟩ (fun hHeld => ?_)
      clear hK K
      refine norm_ (a' := ?_) ?_ ?_
      rotate_left
      ·
       show Act.put _ (some 40) _ = _
       simp only [Act.put, List.setIfInBounds_toArray, List.set_cons_zero, List.set_cons_succ, i64_w, i32_w]
       rfl
      refine pure_ (i := 10) (N := some 41) (v := ?_) (a' := ?_) #[true, true, true, true, true, true, true, true, true, true, true, false, false, false, false, false] rfl rfl (any_of HT_.out (by kernel_rfl)) (fun _ _ _ h => h) (Or.inl ⟨by rfl, ?_⟩) ?_ ?_
      rotate_left
      ·
       intro w'
       go_simp
       with_reducible rfl
      rotate_left
      ·
       simp only [Act.put, List.setIfInBounds_toArray, List.set_cons_zero, List.set_cons_succ, i64_w, i32_w]
       rfl
      refine pure_ (i := 11) (N := some 42) (v := ?_) (a' := ?_) #[true, true, true, true, true, true, true, true, true, true, true, true, false, false, false, false] rfl rfl (any_of HT_.out (by kernel_rfl)) (fun _ _ _ h => h) (Or.inl ⟨by rfl, ?_⟩) ?_ ?_
      rotate_left
      ·
       intro w'
       go_simp
       with_reducible rfl
      rotate_left
      ·
       simp only [Act.put, List.setIfInBounds_toArray, List.set_cons_zero, List.set_cons_succ, i64_w, i32_w]
       rfl
      refine pure_ (i := 12) (N := some 43) (v := ?_) (a' := ?_) #[true, true, true, true, true, true, true, true, true, true, true, true, true, false, false, false] rfl rfl (any_of HT_.out (by kernel_rfl)) (fun _ _ _ h => h) (Or.inl ⟨by rfl, ?_⟩) ?_ ?_
      rotate_left
      ·
       intro w'
       go_simp
       with_reducible rfl
      rotate_left
      ·
       simp only [Act.put, List.setIfInBounds_toArray, List.set_cons_zero, List.set_cons_succ, i64_w, i32_w]
       rfl
      refine pure_ (i := 13) (N := some 10) (v := ?_) (a' := ?_) #[true, true, true, true, true, true, true, true, true, true, true, true, true, true, false, false] rfl rfl (any_of HT_.out (by kernel_rfl)) (fun _ _ _ h => h) (Or.inl ⟨by rfl, ?_⟩) ?_ ?_
      rotate_left
      ·
       intro w'
       go_simp
       with_reducible rfl
      rotate_left
      ·
       simp only [Act.put, List.setIfInBounds_toArray, List.set_cons_zero, List.set_cons_succ, i64_w, i32_w]
       rfl
      refine pure_ (i := 14) (N := some 11) (v := ?_) (a' := ?_) #[true, true, true, true, true, true, true, true, true, true, true, true, true, true, true, false] rfl rfl (any_of HT_.out (by kernel_rfl)) (fun _ _ _ h => h) (Or.inl ⟨by rfl, ?_⟩) ?_ ?_
      rotate_left
      ·
       intro w'
       go_simp
       with_reducible rfl
      rotate_left
      ·
       simp only [Act.put, List.setIfInBounds_toArray, List.set_cons_zero, List.set_cons_succ, i64_w, i32_w]
       rfl
      refine pure_ (i := 15) (N := some 12) (v := ?_) (a' := ?_) #[true, true, true, true, true, true, true, true, true, true, true, true, true, true, true, true] rfl rfl (any_of HT_.out (by kernel_rfl)) (fun _ _ _ h => h) (Or.inl ⟨by rfl, ?_⟩) ?_ ?_
      rotate_left
      ·
       intro w'
       go_simp
       with_reducible rfl
      rotate_left
      ·
       simp only [Act.put, List.setIfInBounds_toArray, List.set_cons_zero, List.set_cons_succ, i64_w, i32_w]
       rfl
      refine done_ (done_of HT_.out (by kernel_rfl)) ?_
      try go_wp2
      go_ret3
      exact ⟨by first | rfl | (simp [errW_none, errW_some] <;> rfl) | (simp [*, errW_none, errW_some] <;> rfl) | (simp [errW_none, errW_some, bne_nil]; done) | (simp [*, bne_nil]; done) | (simp [bne]; done), by repeat (first | (with_reducible first | exact HB.out | apply below_alloc | apply pw_below_drewN | apply below_drew1 | refine below_set ?_ GE185.out) | exact HB.out)⟩
     ·
      rw [if_neg c13] at H
      exact absurd H (by simp)
    ·
     rw [if_neg c11] at H
     have c11b0 : ((rdOf ByteArray.empty l2 0).toList == ([46, 46] : List UInt8)) = false := beq_eq_false_iff_ne.mpr c11
     have c11b1 : ((rdOf ByteArray.empty l2 0).toList != ([46, 46] : List UInt8)) = true := bne_iff_ne.mpr c11
     replace H := Option.bind_eq_some_iff.mp H
     obtain ⟨t202, A220, H⟩ := H
     replace H : (if t202 = 0 then ((linhayref07_In.f k l0_0 a0_1 a1 (rdOf ByteArray.empty l2 0)).bind fun t204 => ((linhayref07_At.f k l0_0 a0_1 t204).bind fun bt205 => (if t204 = 0 then (some (0, a4, 5)) else (if bt205.2.2.2.1 = 3 then (if (l2.length : Int) = 1 then (linhayref08_Go.j0 k a1 l2 a3 a4 t204 (!a3) l0_0 a0_1 bt205.1 bt205.2.1 bt205.2.2.1 bt205.2.2.2.1 bt205.2.2.2.2) else (linhayref08_Go.j0 k a1 l2 a3 a4 t204 false l0_0 a0_1 bt205.1 bt205.2.1 bt205.2.2.1 bt205.2.2.2.1 bt205.2.2.2.2)) else (linhayref08_Go.j0 k a1 l2 a3 a4 t204 true l0_0 a0_1 bt205.1 bt205.2.1 bt205.2.2.1 bt205.2.2.2.1 bt205.2.2.2.2))))) else (some (0, a4, t202))) = some (r1, r2, r3) := H
     have A22 := qa A220
     clear A220
     by_cases c23 : t202 = 0
     ·
      rw [if_pos c23] at H
      have c23b0 : (t202 == 0) = true := beq_iff_eq.mpr c23
      have c23b1 : (t202 != 0) = false := bne_eq_false_iff_eq.mpr c23
      clear c23
      replace H := Option.bind_eq_some_iff.mp H
      obtain ⟨t204, A240, H⟩ := H
      replace H : ((linhayref07_At.f k l0_0 a0_1 t204).bind fun bt205 => (if t204 = 0 then (some (0, a4, 5)) else (if bt205.2.2.2.1 = 3 then (if (l2.length : Int) = 1 then (linhayref08_Go.j0 k a1 l2 a3 a4 t204 (!a3) l0_0 a0_1 bt205.1 bt205.2.1 bt205.2.2.1 bt205.2.2.2.1 bt205.2.2.2.2) else (linhayref08_Go.j0 k a1 l2 a3 a4 t204 false l0_0 a0_1 bt205.1 bt205.2.1 bt205.2.2.1 bt205.2.2.2.1 bt205.2.2.2.2)) else (linhayref08_Go.j0 k a1 l2 a3 a4 t204 true l0_0 a0_1 bt205.1 bt205.2.1 bt205.2.2.1 bt205.2.2.2.1 bt205.2.2.2.2)))) = some (r1, r2, r3) := H
      have A24 := qa A240
      clear A240
      replace H := Option.bind_eq_some_iff.mp H
      obtain ⟨⟨t205, t206, t207, t208, t209⟩, A250, H⟩ := H
      replace H : (if t204 = 0 then (some (0, a4, 5)) else (if t208 = 3 then (if (l2.length : Int) = 1 then (linhayref08_Go.j0 k a1 l2 a3 a4 t204 (!a3) l0_0 a0_1 t205 t206 t207 t208 t209) else (linhayref08_Go.j0 k a1 l2 a3 a4 t204 false l0_0 a0_1 t205 t206 t207 t208 t209)) else (linhayref08_Go.j0 k a1 l2 a3 a4 t204 true l0_0 a0_1 t205 t206 t207 t208 t209))) = some (r1, r2, r3) := H
      have A25 := qa A250
      clear A250
      by_cases c26 : t204 = 0
      ·
       rw [if_pos c26] at H
       have c26b0 : (t204 == 0) = true := beq_iff_eq.mpr c26
       have c26b1 : (t204 != 0) = false := bne_eq_false_iff_eq.mpr c26
       clear c26
       simp only [Option.some.injEq, Prod.mk.injEq] at H
       obtain ⟨rfl, rfl, rfl⟩ := H
       go_enter Tryz.func144, Tryz.ntmps144
       try go_wp2_with (first | ((with_reducible refine gate_dst (N := 5) rfl ?_); (try (refine gate_guard (by rfl) ?_; dsimp only)); refine box_event ?hg (N := 5) ?hd (cs := #[.slice A0_0 l0_0.length c0_0, .int .i64 a0_1]) (t := 30) ?hr ?_; (case hd => rfl); (case hg => rfl); (case hr => first | (go_simp; done) | (go_simp; rfl)); intro gb185 hg w27 hbox hb; have n0_ := qa (below_step (by repeat (first | (with_reducible first | exact HB.out | apply below_alloc | apply pw_below_drewN | apply below_drew1) | exact HB.out)) hb); have n1_ := qa (hbox); have n2_ := qa ((by rw [hg]; exact (below_size (by repeat (first | (with_reducible first | exact HB.out | apply below_alloc | apply pw_below_drewN | apply below_drew1) | exact HB.out))) : w.heap.size ≤ gb185)); have n3_ := qa ((by rw [hg]; exact (below_size (by repeat (first | (with_reducible first | exact HB.out | apply below_alloc | apply pw_below_drewN | apply below_drew1) | exact HB.out))) : w.heap.size ≤ gb185)); clear HB; have HB := n0_; have BK185 := n1_; have GW185 := n2_; have GE185 := n3_; clear n0_ n1_ n2_ n3_; clear hb hbox hg; have hcz28_0 : w27.cell? ⟨gb185, 0, none⟩ = some (.slice A0_0 l0_0.length c0_0) := (blk_cell BK185.out 0).trans rfl; have hcz28_1 : w27.cell? ⟨gb185, 1, none⟩ = some (.int .i64 a0_1) := (blk_cell BK185.out 1).trans rfl; have hfz28_0 := blk_frozen BK185.out 0; have hfz28_1 := blk_frozen BK185.out 1) | ((with_reducible refine gate_callee (f := 68) rfl ?_); refine goesL_ (some 23) rfl rfl Tryz.func68 (by kernel_rfl) rfl #[.agg #[.slice A0_0 l0_0.length c0_0, .int .i64 a0_1], .int .i64 a1] rfl (by (try simp only [List.map_toArray, List.map_cons, List.map_nil]); first | done | rfl | (simp only [List.length_drop, List.length_take]; rfl)) ?_; (with_reducible refine (linhayref07_At.calls k _ _ l0_0 a0_1 a1 t186 t187 t188 t189 t190 _ ?side1 ?side2 A8.out).mono ?_); (case side1 => repeat (first | exact (Kd.C_below HR0_0.out HB.out) | (with_reducible refine Kd.C_alloc ?_ _) | (with_reducible refine Kd.C_drewN ?_ _) | (with_reducible refine Kd.C_drew ?_))); (case side2 => exact HC0_0.out); rintro e w29 ⟨rfl, hb⟩; refine ⟨_, rfl, ?_⟩; have n0_ := qa (blk_below (g := gb185) (o := .cells #[.slice A0_0 l0_0.length c0_0, .int .i64 a0_1] 30 (0, 0)) (by (with_reducible repeat (first | refine blk_drewN ?_ _ | refine blk_drew ?_ | refine blk_alloc ?_ _)); exact BK185.out) hb); have n1_ := qa (below_step (by repeat (first | (with_reducible first | exact HB.out | apply below_alloc | apply pw_below_drewN | apply below_drew1 | refine below_set ?_ GE185.out) | exact HB.out)) hb); clear BK185; clear HB; have BK185 := n0_; have HB := n1_; clear n0_ n1_; (try clear hb); (try clear hb2); (try clear hk); (try clear hi); have p191 : 0 ≤ (0 : Int) := (by omega); have q191 : 0 < (l2.length : Int) := of_decide_eq_true (by first | (with_reducible assumption) | assumption); obtain ⟨ad191, e191, hx191_0⟩ := Kd.at_string HR2.out 0 p191 q191; cases e191; have qi191 : (0 < l2.length) = True := eq_true (by omega); (try rw [show ((0 : Int)).toNat = 0 from rfl] at hx191_0); (try rw [Addr.add_zero'] at hx191_0); replace hx191_0 := (HB.out.cell (World.block_lt_of_cell? w _ hx191_0)).trans hx191_0; replace p191 := eq_true p191; replace q191 := eq_true q191; have p201 : 0 ≤ (0 : Int) := (by omega); have q201 : 0 < (l2.length : Int) := of_decide_eq_true (by first | (with_reducible assumption) | assumption); obtain ⟨ad201, e201, hx201_0⟩ := Kd.at_string HR2.out 0 p201 q201; obtain rfl : ad191 = ad201 := (by injection e201); have qi201 : (0 < l2.length) = True := eq_true (by omega); (try rw [show ((0 : Int)).toNat = 0 from rfl] at hx201_0); (try rw [Addr.add_zero'] at hx201_0); replace hx201_0 := (HB.out.cell (World.block_lt_of_cell? w _ hx201_0)).trans hx201_0; replace p201 := eq_true p201; replace q201 := eq_true q201) | ((with_reducible refine gate_callee (f := 104) rfl ?_); refine goesL_ (some 47) rfl rfl Tryz.func104 (by kernel_rfl) rfl #[.string (rdOf ByteArray.empty l2 0)] rfl (by (try simp only [List.map_toArray, List.map_cons, List.map_nil]); first | done | rfl | (simp only [List.length_drop, List.length_take]; rfl)) ?_; (with_reducible refine (linhayref03_Check.calls k (rdOf ByteArray.empty l2 0) t202 _ A22.out).mono ?_); rintro e w' ⟨rfl, ⟨nd, rfl⟩⟩; refine ⟨_, rfl, ?_⟩; (try (rw [drewN_self w29]; generalize hq_ : World.drewN w29 _ = w29; have n0_ : Aside0 (w29.heap[gb185]? = some (.cells #[.slice A0_0 l0_0.length c0_0, .int .i64 a0_1] 30 (0, 0))) := ⟨by rw [← hq_]; exact (by (with_reducible repeat (first | refine blk_drewN ?_ _ | refine blk_drew ?_ | refine blk_alloc ?_ _)); exact BK185.out)⟩; have n1_ : Aside0 (Below w.heap.size w w29) := ⟨by rw [← hq_]; exact (by repeat (first | (with_reducible first | exact HB.out | apply below_alloc | apply pw_below_drewN | apply below_drew1 | refine below_set ?_ GE185.out) | exact HB.out))⟩; clear BK185 HB hq_; have BK185 := n0_; have HB := n1_; clear n0_ n1_))))
       have n0_ := qa (blk_drew BK185.out)
       have n1_ := qa (below_drew1 HB.out)
       clear BK185
       clear HB
       have BK185 := n0_
       have HB := n1_
       clear n0_ n1_
       have p203 : 0 ≤ (0 : Int) := (by omega)
       have q203 : 0 < (l2.length : Int) := of_decide_eq_true (by first | (with_reducible assumption) | assumption)
       obtain ⟨ad203, e203, hx203_0⟩ := Kd.at_string HR2.out 0 p203 q203
       have hw203_0 := hx203_0
       (try rw [show ((0 : Int)).toNat = 0 from rfl] at hw203_0)
       (try rw [show 0 * 1 = 0 from rfl] at hw203_0)
       (try rw [Addr.add_zero'] at hw203_0)
       obtain rfl : ad191 = ad203 := (by injection e203)
       have qi203 : (0 < l2.length) = True := eq_true (by omega)
       (try rw [show ((0 : Int)).toNat = 0 from rfl] at hx203_0)
       (try rw [Addr.add_zero'] at hx203_0)
       replace hx203_0 := (HB.out.cell (World.block_lt_of_cell? w _ hx203_0)).trans hx203_0
       replace p203 := eq_true p203
       replace q203 := eq_true q203
       refine start_ (n := 7) (S := fun w' => w'.cell? ⟨gb185, 0, none⟩ = some (.slice A0_0 l0_0.length c0_0) ∧ w'.cell? ⟨gb185, 1, none⟩ = some (.int .i64 a0_1) ∧ w'.cell? ad191 = some (.string (rdOf ByteArray.empty l2 0))) (ds := []) #[false, false, false, false, false, false, false] (by kernel_rfl) rfl rfl ⟨(blk_cell BK185.out 0).trans rfl, (blk_cell BK185.out 1).trans rfl, ((HB.out.cell (World.block_lt_of_cell? w _ hw203_0)).trans hw203_0)⟩ (fun hHeld => ?_)
       generalize w29.drew = w30 at BK185 HB hx203_0 hHeld ⊢
       refine pure_ (i := 1) (N := some 53) (v := ?_) (a' := ?_) #[false, true, false, false, false, false, false] rfl rfl (by kernel_rfl) (fun _ _ _ h => h) (Or.inl ⟨by rfl, ?_⟩) ?_ ?_
       rotate_left
       ·
        intro w'
        go_simp
        with_reducible rfl
       rotate_left
       ·
        simp only [Act.put, List.setIfInBounds_toArray, List.set_cons_zero, List.set_cons_succ, i64_w, i32_w]
        rfl
       refine pure_ (i := 2) (N := some 54) (v := ?_) (a' := ?_) #[false, true, true, false, false, false, false] rfl rfl (by kernel_rfl) (fun _ _ _ h => h) (Or.inl ⟨by rfl, ?_⟩) ?_ ?_
       rotate_left
       ·
        intro w'
        go_simp
        with_reducible rfl
       rotate_left
       ·
        simp only [Act.put, List.setIfInBounds_toArray, List.set_cons_zero, List.set_cons_succ, i64_w, i32_w]
        rfl
       refine pure_ (i := 3) (N := some 55) (v := ?_) (a' := ?_) #[false, true, true, true, false, false, false] rfl rfl (by kernel_rfl) (fun _ _ _ h => h) (Or.inl ⟨by rfl, ?_⟩) ?_ ?_
       rotate_left
       ·
        intro w'
        go_simp
        with_reducible rfl
       rotate_left
       ·
        simp only [Act.put, List.setIfInBounds_toArray, List.set_cons_zero, List.set_cons_succ, i64_w, i32_w]
        rfl
       refine take_ (i := 0) (N := some 52) (v := ?_) (a' := ?_) #[true, true, true, true, false, false, false] rfl rfl (by kernel_rfl) (fun _ _ _ h => h) (Or.inl ⟨by rfl, ?_⟩) hHeld ?_ ?_
       rotate_left
       ·
        rintro w' ⟨s0, s1, s2⟩
        go_simp
        with_reducible rfl
       rotate_left
       ·
        simp only [Act.put, List.setIfInBounds_toArray, List.set_cons_zero, List.set_cons_succ, i64_w, i32_w]
        rfl
       refine take_ (i := 4) (N := some 56) (v := ?_) (a' := ?_) #[true, true, true, true, true, false, false] rfl rfl (by kernel_rfl) (fun _ _ _ h => h) (Or.inl ⟨by rfl, ?_⟩) hHeld ?_ ?_
       rotate_left
       ·
        rintro w' ⟨s0, s1, s2⟩
        go_simp
        with_reducible rfl
       rotate_left
       ·
        simp only [Act.put, List.setIfInBounds_toArray, List.set_cons_zero, List.set_cons_succ, i64_w, i32_w]
        rfl
       refine one_ (i := 5) (N := some 57) #[true, true, true, true, true, true, false] rfl rfl (by kernel_rfl) (by decide) (fun K hK => ?_)
       refine goes_ Tryz.func105 (by kernel_rfl) rfl #[.agg #[.slice A0_0 l0_0.length c0_0, .int .i64 a0_1], .int .i64 a1, .string (rdOf ByteArray.empty l2 0)] (by rfl) rfl rfl (by (try simp only [List.map_toArray, List.map_cons, List.map_nil]); first | done | rfl | (simp only [List.length_drop, List.length_take]; rfl)) ?_
       with_reducible refine (linhayref07_In.calls k _ _ l0_0 a0_1 a1 (rdOf ByteArray.empty l2 0) t204 _ ?side1 ?side2 A24.out).mono ?_
       (case side1 => repeat (first | exact (Kd.C_below HR0_0.out HB.out) | (with_reducible refine Kd.C_alloc ?_ _) | (with_reducible refine Kd.C_drewN ?_ _) | (with_reducible refine Kd.C_drew ?_)))
       (case side2 => exact HC0_0.out)
       rintro e w31 ⟨rfl, hb⟩
       refine ⟨_, rfl, ?_⟩
       have n0_ := qa (blk_below (g := gb185) (o := .cells #[.slice A0_0 l0_0.length c0_0, .int .i64 a0_1] 30 (0, 0)) (by (with_reducible repeat (first | refine blk_drewN ?_ _ | refine blk_drew ?_ | refine blk_alloc ?_ _)); exact BK185.out) hb)
       have n1_ := qa (below_step (by repeat (first | (with_reducible first | exact HB.out | apply below_alloc | apply pw_below_drewN | apply below_drew1 | refine below_set ?_ GE185.out) | exact HB.out)) hb)
       clear BK185
       clear HB
       have BK185 := n0_
       have HB := n1_
       clear n0_ n1_
       (try clear hb)
       (try clear hb2)
       (try clear hk)
       (try clear hi)
       refine hK.out _ _ ⟨(blk_cell BK185.out 0).trans rfl, (blk_cell BK185.out 1).trans rfl, ((HB.out.cell (World.block_lt_of_cell? w _ hw203_0)).trans hw203_0)⟩ (fun hHeld => ?_)
       clear hK K
       refine norm_ (a' := ?_) ?_ ?_
       rotate_left
       ·
        show Act.put _ (some 57) _ = _
        simp only [Act.put, List.setIfInBounds_toArray, List.set_cons_zero, List.set_cons_succ, i64_w, i32_w]
        rfl
       refine pure_ (i := 6) (N := some 14) (v := ?_) (a' := ?_) #[true, true, true, true, true, true, true] rfl rfl (by kernel_rfl) (fun _ _ _ h => h) (Or.inl ⟨by rfl, ?_⟩) ?_ ?_
       rotate_left
       ·
        intro w'
        go_simp
        with_reducible rfl
       rotate_left
       ·
        simp only [Act.put, List.setIfInBounds_toArray, List.set_cons_zero, List.set_cons_succ, i64_w, i32_w]
        rfl
       refine done_ (by kernel_rfl) ?_
       have hcz32_0 : w31.cell? ⟨gb185, 0, none⟩ = some (.slice A0_0 l0_0.length c0_0) := (blk_cell BK185.out 0).trans rfl
       have hcz32_1 : w31.cell? ⟨gb185, 1, none⟩ = some (.int .i64 a0_1) := (blk_cell BK185.out 1).trans rfl
       have hfz32_0 := blk_frozen BK185.out 0
       have hfz32_1 := blk_frozen BK185.out 1
       try go_wp2_with (first | ((with_reducible refine gate_callee (f := 68) rfl ?_); refine goesL_ (some 60) rfl rfl Tryz.func68 (by kernel_rfl) rfl #[.agg #[.slice A0_0 l0_0.length c0_0, .int .i64 a0_1], .int .i64 t204] rfl (by (try simp only [List.map_toArray, List.map_cons, List.map_nil]); first | done | rfl | (simp only [List.length_drop, List.length_take]; rfl)) ?_; (with_reducible refine (linhayref07_At.calls k _ _ l0_0 a0_1 t204 t205 t206 t207 t208 t209 _ ?side1 ?side2 A25.out).mono ?_); (case side1 => repeat (first | exact (Kd.C_below HR0_0.out HB.out) | (with_reducible refine Kd.C_alloc ?_ _) | (with_reducible refine Kd.C_drewN ?_ _) | (with_reducible refine Kd.C_drew ?_))); (case side2 => exact HC0_0.out); rintro e w33 ⟨rfl, hb⟩; refine ⟨_, rfl, ?_⟩; have n0_ := qa (blk_below (g := gb185) (o := .cells #[.slice A0_0 l0_0.length c0_0, .int .i64 a0_1] 30 (0, 0)) (by (with_reducible repeat (first | refine blk_drewN ?_ _ | refine blk_drew ?_ | refine blk_alloc ?_ _)); exact BK185.out) hb); have n1_ := qa (below_step (by repeat (first | (with_reducible first | exact HB.out | apply below_alloc | apply pw_below_drewN | apply below_drew1 | refine below_set ?_ GE185.out) | exact HB.out)) hb); clear BK185; clear HB; have BK185 := n0_; have HB := n1_; clear n0_ n1_; (try clear hb); (try clear hb2); (try clear hk); (try clear hi)) | ((with_reducible refine gate_dst (N := 15) rfl ?_); (try (refine gate_guard (by rfl) ?_; dsimp only)); refine box_event ?hg (N := 15) ?hd (cs := #[.int .i64 0, .int .i64 0, .string (⟨#[]⟩ : ByteArray), .int .i64 0, .string (⟨#[]⟩ : ByteArray)]) (t := 106) ?hr ?_; (case hd => rfl); (case hg => rfl); (case hr => first | (go_simp; done) | (go_simp; rfl)); intro gb210 hg w34 hbox hb; have n0_ := qa (blk_below (g := gb185) (o := .cells #[.slice A0_0 l0_0.length c0_0, .int .i64 a0_1] 30 (0, 0)) (by (with_reducible repeat (first | refine blk_drewN ?_ _ | refine blk_drew ?_ | refine blk_alloc ?_ _)); exact BK185.out) hb); have n1_ := qa (below_step (by repeat (first | (with_reducible first | exact HB.out | apply below_alloc | apply pw_below_drewN | apply below_drew1 | refine below_set ?_ GE185.out) | exact HB.out)) hb); have n2_ := qa (hbox); have n3_ := qa ((by rw [hg]; exact (below_size (by repeat (first | (with_reducible first | exact HB.out | apply below_alloc | apply pw_below_drewN | apply below_drew1 | refine below_set ?_ GE185.out) | exact HB.out))) : w.heap.size ≤ gb210)); have n4_ := qa ((by rw [hg]; exact (below_size (by repeat (first | (with_reducible first | exact HB.out | apply below_alloc | apply pw_below_drewN | apply below_drew1 | refine below_set ?_ GE185.out) | exact HB.out))) : w.heap.size ≤ gb210)); have n5_ := qa ((by rw [hg]; exact Nat.ne_of_lt (blk_lt (g := gb185) (o := .cells #[.slice A0_0 l0_0.length c0_0, .int .i64 a0_1] 30 (0, 0)) (by (with_reducible repeat (first | refine blk_drewN ?_ _ | refine blk_drew ?_ | refine blk_alloc ?_ _)); exact BK185.out)) : gb185 ≠ gb210)); have n6_ := qa ((by rw [hg]; exact Nat.ne_of_gt (blk_lt (g := gb185) (o := .cells #[.slice A0_0 l0_0.length c0_0, .int .i64 a0_1] 30 (0, 0)) (by (with_reducible repeat (first | refine blk_drewN ?_ _ | refine blk_drew ?_ | refine blk_alloc ?_ _)); exact BK185.out)) : gb210 ≠ gb185)); clear BK185; clear HB; have BK185 := n0_; have HB := n1_; have BK210 := n2_; have GW210 := n3_; have GE210 := n4_; have NB185_210 := n5_; have NB210_185 := n6_; clear n0_ n1_ n2_ n3_ n4_ n5_ n6_; clear hb hbox hg; have hnb35 := NB210_185.out; have hnc35 := NB185_210.out; have hcz36_0 : w34.cell? ⟨gb210, 0, none⟩ = some (.int .i64 0) := (blk_cell BK210.out 0).trans rfl; have hcz36_1 : w34.cell? ⟨gb210, 1, none⟩ = some (.int .i64 0) := (blk_cell BK210.out 1).trans rfl; have hcz36_2 : w34.cell? ⟨gb210, 2, none⟩ = some (.string (⟨#[]⟩ : ByteArray)) := (blk_cell BK210.out 2).trans rfl; have hcz36_3 : w34.cell? ⟨gb210, 3, none⟩ = some (.int .i64 0) := (blk_cell BK210.out 3).trans rfl; have hcz36_4 : w34.cell? ⟨gb210, 4, none⟩ = some (.string (⟨#[]⟩ : ByteArray)) := (blk_cell BK210.out 4).trans rfl; have hfz36_0 := blk_frozen BK210.out 0; have hfz36_1 := blk_frozen BK210.out 1; have hfz36_2 := blk_frozen BK210.out 2; have hfz36_3 := blk_frozen BK210.out 3; have hfz36_4 := blk_frozen BK210.out 4))
       go_ret3
       exact ⟨by first | rfl | (simp [errW_none, errW_some] <;> rfl) | (simp [*, errW_none, errW_some] <;> rfl) | (simp [errW_none, errW_some, bne_nil]; done) | (simp [*, bne_nil]; done) | (simp [bne]; done), by repeat (first | (with_reducible first | exact HB.out | apply below_alloc | apply pw_below_drewN | apply below_drew1 | refine below_set ?_ GE185.out | refine below_set ?_ GE210.out) | exact HB.out)⟩
      ·
       rw [if_neg c26] at H
       have c26b0 : (t204 == 0) = false := beq_eq_false_iff_ne.mpr c26
       have c26b1 : (t204 != 0) = true := bne_iff_ne.mpr c26
       have HC37 := qa H
       clear H
       go_enter Tryz.func144, Tryz.ntmps144
       try go_wp2_with (first | ((with_reducible refine gate_dst (N := 5) rfl ?_); (try (refine gate_guard (by rfl) ?_; dsimp only)); refine box_event ?hg (N := 5) ?hd (cs := #[.slice A0_0 l0_0.length c0_0, .int .i64 a0_1]) (t := 30) ?hr ?_; (case hd => rfl); (case hg => rfl); (case hr => first | (go_simp; done) | (go_simp; rfl)); intro gb185 hg w38 hbox hb; have n0_ := qa (below_step (by repeat (first | (with_reducible first | exact HB.out | apply below_alloc | apply pw_below_drewN | apply below_drew1) | exact HB.out)) hb); have n1_ := qa (hbox); have n2_ := qa ((by rw [hg]; exact (below_size (by repeat (first | (with_reducible first | exact HB.out | apply below_alloc | apply pw_below_drewN | apply below_drew1) | exact HB.out))) : w.heap.size ≤ gb185)); have n3_ := qa ((by rw [hg]; exact (below_size (by repeat (first | (with_reducible first | exact HB.out | apply below_alloc | apply pw_below_drewN | apply below_drew1) | exact HB.out))) : w.heap.size ≤ gb185)); clear HB; have HB := n0_; have BK185 := n1_; have GW185 := n2_; have GE185 := n3_; clear n0_ n1_ n2_ n3_; clear hb hbox hg; have hcz39_0 : w38.cell? ⟨gb185, 0, none⟩ = some (.slice A0_0 l0_0.length c0_0) := (blk_cell BK185.out 0).trans rfl; have hcz39_1 : w38.cell? ⟨gb185, 1, none⟩ = some (.int .i64 a0_1) := (blk_cell BK185.out 1).trans rfl; have hfz39_0 := blk_frozen BK185.out 0; have hfz39_1 := blk_frozen BK185.out 1) | ((with_reducible refine gate_callee (f := 68) rfl ?_); refine goesL_ (some 23) rfl rfl Tryz.func68 (by kernel_rfl) rfl #[.agg #[.slice A0_0 l0_0.length c0_0, .int .i64 a0_1], .int .i64 a1] rfl (by (try simp only [List.map_toArray, List.map_cons, List.map_nil]); first | done | rfl | (simp only [List.length_drop, List.length_take]; rfl)) ?_; (with_reducible refine (linhayref07_At.calls k _ _ l0_0 a0_1 a1 t186 t187 t188 t189 t190 _ ?side1 ?side2 A8.out).mono ?_); (case side1 => repeat (first | exact (Kd.C_below HR0_0.out HB.out) | (with_reducible refine Kd.C_alloc ?_ _) | (with_reducible refine Kd.C_drewN ?_ _) | (with_reducible refine Kd.C_drew ?_))); (case side2 => exact HC0_0.out); rintro e w40 ⟨rfl, hb⟩; refine ⟨_, rfl, ?_⟩; have n0_ := qa (blk_below (g := gb185) (o := .cells #[.slice A0_0 l0_0.length c0_0, .int .i64 a0_1] 30 (0, 0)) (by (with_reducible repeat (first | refine blk_drewN ?_ _ | refine blk_drew ?_ | refine blk_alloc ?_ _)); exact BK185.out) hb); have n1_ := qa (below_step (by repeat (first | (with_reducible first | exact HB.out | apply below_alloc | apply pw_below_drewN | apply below_drew1 | refine below_set ?_ GE185.out) | exact HB.out)) hb); clear BK185; clear HB; have BK185 := n0_; have HB := n1_; clear n0_ n1_; (try clear hb); (try clear hb2); (try clear hk); (try clear hi); have p191 : 0 ≤ (0 : Int) := (by omega); have q191 : 0 < (l2.length : Int) := of_decide_eq_true (by first | (with_reducible assumption) | assumption); obtain ⟨ad191, e191, hx191_0⟩ := Kd.at_string HR2.out 0 p191 q191; cases e191; have qi191 : (0 < l2.length) = True := eq_true (by omega); (try rw [show ((0 : Int)).toNat = 0 from rfl] at hx191_0); (try rw [Addr.add_zero'] at hx191_0); replace hx191_0 := (HB.out.cell (World.block_lt_of_cell? w _ hx191_0)).trans hx191_0; replace p191 := eq_true p191; replace q191 := eq_true q191; have p201 : 0 ≤ (0 : Int) := (by omega); have q201 : 0 < (l2.length : Int) := of_decide_eq_true (by first | (with_reducible assumption) | assumption); obtain ⟨ad201, e201, hx201_0⟩ := Kd.at_string HR2.out 0 p201 q201; obtain rfl : ad191 = ad201 := (by injection e201); have qi201 : (0 < l2.length) = True := eq_true (by omega); (try rw [show ((0 : Int)).toNat = 0 from rfl] at hx201_0); (try rw [Addr.add_zero'] at hx201_0); replace hx201_0 := (HB.out.cell (World.block_lt_of_cell? w _ hx201_0)).trans hx201_0; replace p201 := eq_true p201; replace q201 := eq_true q201) | ((with_reducible refine gate_callee (f := 104) rfl ?_); refine goesL_ (some 47) rfl rfl Tryz.func104 (by kernel_rfl) rfl #[.string (rdOf ByteArray.empty l2 0)] rfl (by (try simp only [List.map_toArray, List.map_cons, List.map_nil]); first | done | rfl | (simp only [List.length_drop, List.length_take]; rfl)) ?_; (with_reducible refine (linhayref03_Check.calls k (rdOf ByteArray.empty l2 0) t202 _ A22.out).mono ?_); rintro e w' ⟨rfl, ⟨nd, rfl⟩⟩; refine ⟨_, rfl, ?_⟩; (try (rw [drewN_self w40]; generalize hq_ : World.drewN w40 _ = w40; have n0_ : Aside0 (w40.heap[gb185]? = some (.cells #[.slice A0_0 l0_0.length c0_0, .int .i64 a0_1] 30 (0, 0))) := ⟨by rw [← hq_]; exact (by (with_reducible repeat (first | refine blk_drewN ?_ _ | refine blk_drew ?_ | refine blk_alloc ?_ _)); exact BK185.out)⟩; have n1_ : Aside0 (Below w.heap.size w w40) := ⟨by rw [← hq_]; exact (by repeat (first | (with_reducible first | exact HB.out | apply below_alloc | apply pw_below_drewN | apply below_drew1 | refine below_set ?_ GE185.out) | exact HB.out))⟩; clear BK185 HB hq_; have BK185 := n0_; have HB := n1_; clear n0_ n1_))))
       have n0_ := qa (blk_drew BK185.out)
       have n1_ := qa (below_drew1 HB.out)
       clear BK185
       clear HB
       have BK185 := n0_
       have HB := n1_
       clear n0_ n1_
       have p203 : 0 ≤ (0 : Int) := (by omega)
       have q203 : 0 < (l2.length : Int) := of_decide_eq_true (by first | (with_reducible assumption) | assumption)
       obtain ⟨ad203, e203, hx203_0⟩ := Kd.at_string HR2.out 0 p203 q203
       have hw203_0 := hx203_0
       (try rw [show ((0 : Int)).toNat = 0 from rfl] at hw203_0)
       (try rw [show 0 * 1 = 0 from rfl] at hw203_0)
       (try rw [Addr.add_zero'] at hw203_0)
       obtain rfl : ad191 = ad203 := (by injection e203)
       have qi203 : (0 < l2.length) = True := eq_true (by omega)
       (try rw [show ((0 : Int)).toNat = 0 from rfl] at hx203_0)
       (try rw [Addr.add_zero'] at hx203_0)
       replace hx203_0 := (HB.out.cell (World.block_lt_of_cell? w _ hx203_0)).trans hx203_0
       replace p203 := eq_true p203
       replace q203 := eq_true q203
       refine start_ (n := 7) (S := fun w' => w'.cell? ⟨gb185, 0, none⟩ = some (.slice A0_0 l0_0.length c0_0) ∧ w'.cell? ⟨gb185, 1, none⟩ = some (.int .i64 a0_1) ∧ w'.cell? ad191 = some (.string (rdOf ByteArray.empty l2 0))) (ds := []) #[false, false, false, false, false, false, false] (by kernel_rfl) rfl rfl ⟨(blk_cell BK185.out 0).trans rfl, (blk_cell BK185.out 1).trans rfl, ((HB.out.cell (World.block_lt_of_cell? w _ hw203_0)).trans hw203_0)⟩ (fun hHeld => ?_)
       generalize w40.drew = w41 at BK185 HB hx203_0 hHeld ⊢
       refine pure_ (i := 1) (N := some 53) (v := ?_) (a' := ?_) #[false, true, false, false, false, false, false] rfl rfl (by kernel_rfl) (fun _ _ _ h => h) (Or.inl ⟨by rfl, ?_⟩) ?_ ?_
       rotate_left
       ·
        intro w'
        go_simp
        with_reducible rfl
       rotate_left
       ·
        simp only [Act.put, List.setIfInBounds_toArray, List.set_cons_zero, List.set_cons_succ, i64_w, i32_w]
        rfl
       refine pure_ (i := 2) (N := some 54) (v := ?_) (a' := ?_) #[false, true, true, false, false, false, false] rfl rfl (by kernel_rfl) (fun _ _ _ h => h) (Or.inl ⟨by rfl, ?_⟩) ?_ ?_
       rotate_left
       ·
        intro w'
        go_simp
        with_reducible rfl
       rotate_left
       ·
        simp only [Act.put, List.setIfInBounds_toArray, List.set_cons_zero, List.set_cons_succ, i64_w, i32_w]
        rfl
       refine pure_ (i := 3) (N := some 55) (v := ?_) (a' := ?_) #[false, true, true, true, false, false, false] rfl rfl (by kernel_rfl) (fun _ _ _ h => h) (Or.inl ⟨by rfl, ?_⟩) ?_ ?_
       rotate_left
       ·
        intro w'
        go_simp
        with_reducible rfl
       rotate_left
       ·
        simp only [Act.put, List.setIfInBounds_toArray, List.set_cons_zero, List.set_cons_succ, i64_w, i32_w]
        rfl
       refine take_ (i := 0) (N := some 52) (v := ?_) (a' := ?_) #[true, true, true, true, false, false, false] rfl rfl (by kernel_rfl) (fun _ _ _ h => h) (Or.inl ⟨by rfl, ?_⟩) hHeld ?_ ?_
       rotate_left
       ·
        rintro w' ⟨s0, s1, s2⟩
        go_simp
        with_reducible rfl
       rotate_left
       ·
        simp only [Act.put, List.setIfInBounds_toArray, List.set_cons_zero, List.set_cons_succ, i64_w, i32_w]
        rfl
       refine take_ (i := 4) (N := some 56) (v := ?_) (a' := ?_) #[true, true, true, true, true, false, false] rfl rfl (by kernel_rfl) (fun _ _ _ h => h) (Or.inl ⟨by rfl, ?_⟩) hHeld ?_ ?_
       rotate_left
       ·
        rintro w' ⟨s0, s1, s2⟩
        go_simp
        with_reducible rfl
       rotate_left
       ·
        simp only [Act.put, List.setIfInBounds_toArray, List.set_cons_zero, List.set_cons_succ, i64_w, i32_w]
        rfl
       refine one_ (i := 5) (N := some 57) #[true, true, true, true, true, true, false] rfl rfl (by kernel_rfl) (by decide) (fun K hK => ?_)
       refine goes_ Tryz.func105 (by kernel_rfl) rfl #[.agg #[.slice A0_0 l0_0.length c0_0, .int .i64 a0_1], .int .i64 a1, .string (rdOf ByteArray.empty l2 0)] (by rfl) rfl rfl (by (try simp only [List.map_toArray, List.map_cons, List.map_nil]); first | done | rfl | (simp only [List.length_drop, List.length_take]; rfl)) ?_
       with_reducible refine (linhayref07_In.calls k _ _ l0_0 a0_1 a1 (rdOf ByteArray.empty l2 0) t204 _ ?side1 ?side2 A24.out).mono ?_
       (case side1 => repeat (first | exact (Kd.C_below HR0_0.out HB.out) | (with_reducible refine Kd.C_alloc ?_ _) | (with_reducible refine Kd.C_drewN ?_ _) | (with_reducible refine Kd.C_drew ?_)))
       (case side2 => exact HC0_0.out)
       rintro e w42 ⟨rfl, hb⟩
       refine ⟨_, rfl, ?_⟩
       have n0_ := qa (blk_below (g := gb185) (o := .cells #[.slice A0_0 l0_0.length c0_0, .int .i64 a0_1] 30 (0, 0)) (by (with_reducible repeat (first | refine blk_drewN ?_ _ | refine blk_drew ?_ | refine blk_alloc ?_ _)); exact BK185.out) hb)
       have n1_ := qa (below_step (by repeat (first | (with_reducible first | exact HB.out | apply below_alloc | apply pw_below_drewN | apply below_drew1 | refine below_set ?_ GE185.out) | exact HB.out)) hb)
       clear BK185
       clear HB
       have BK185 := n0_
       have HB := n1_
       clear n0_ n1_
       (try clear hb)
       (try clear hb2)
       (try clear hk)
       (try clear hi)
       refine hK.out _ _ ⟨(blk_cell BK185.out 0).trans rfl, (blk_cell BK185.out 1).trans rfl, ((HB.out.cell (World.block_lt_of_cell? w _ hw203_0)).trans hw203_0)⟩ (fun hHeld => ?_)
       clear hK K
       refine norm_ (a' := ?_) ?_ ?_
       rotate_left
       ·
        show Act.put _ (some 57) _ = _
        simp only [Act.put, List.setIfInBounds_toArray, List.set_cons_zero, List.set_cons_succ, i64_w, i32_w]
        rfl
       refine pure_ (i := 6) (N := some 14) (v := ?_) (a' := ?_) #[true, true, true, true, true, true, true] rfl rfl (by kernel_rfl) (fun _ _ _ h => h) (Or.inl ⟨by rfl, ?_⟩) ?_ ?_
       rotate_left
       ·
        intro w'
        go_simp
        with_reducible rfl
       rotate_left
       ·
        simp only [Act.put, List.setIfInBounds_toArray, List.set_cons_zero, List.set_cons_succ, i64_w, i32_w]
        rfl
       refine done_ (by kernel_rfl) ?_
       have hcz43_0 : w42.cell? ⟨gb185, 0, none⟩ = some (.slice A0_0 l0_0.length c0_0) := (blk_cell BK185.out 0).trans rfl
       have hcz43_1 : w42.cell? ⟨gb185, 1, none⟩ = some (.int .i64 a0_1) := (blk_cell BK185.out 1).trans rfl
       have hfz43_0 := blk_frozen BK185.out 0
       have hfz43_1 := blk_frozen BK185.out 1
       go_upto_region 14 with (first | ((with_reducible refine gate_callee (f := 68) rfl ?_); refine goesL_ (some 60) rfl rfl Tryz.func68 (by kernel_rfl) rfl #[.agg #[.slice A0_0 l0_0.length c0_0, .int .i64 a0_1], .int .i64 t204] rfl (by (try simp only [List.map_toArray, List.map_cons, List.map_nil]); first | done | rfl | (simp only [List.length_drop, List.length_take]; rfl)) ?_; (with_reducible refine (linhayref07_At.calls k _ _ l0_0 a0_1 t204 t205 t206 t207 t208 t209 _ ?side1 ?side2 A25.out).mono ?_); (case side1 => repeat (first | exact (Kd.C_below HR0_0.out HB.out) | (with_reducible refine Kd.C_alloc ?_ _) | (with_reducible refine Kd.C_drewN ?_ _) | (with_reducible refine Kd.C_drew ?_))); (case side2 => exact HC0_0.out); rintro e w44 ⟨rfl, hb⟩; refine ⟨_, rfl, ?_⟩; have n0_ := qa (blk_below (g := gb185) (o := .cells #[.slice A0_0 l0_0.length c0_0, .int .i64 a0_1] 30 (0, 0)) (by (with_reducible repeat (first | refine blk_drewN ?_ _ | refine blk_drew ?_ | refine blk_alloc ?_ _)); exact BK185.out) hb); have n1_ := qa (below_step (by repeat (first | (with_reducible first | exact HB.out | apply below_alloc | apply pw_below_drewN | apply below_drew1 | refine below_set ?_ GE185.out) | exact HB.out)) hb); clear BK185; clear HB; have BK185 := n0_; have HB := n1_; clear n0_ n1_; (try clear hb); (try clear hb2); (try clear hk); (try clear hi)) | ((with_reducible refine gate_dst (N := 15) rfl ?_); (try (refine gate_guard (by rfl) ?_; dsimp only)); refine box_event ?hg (N := 15) ?hd (cs := #[.int .i64 0, .int .i64 0, .string (⟨#[]⟩ : ByteArray), .int .i64 0, .string (⟨#[]⟩ : ByteArray)]) (t := 106) ?hr ?_; (case hd => rfl); (case hg => rfl); (case hr => first | (go_simp; done) | (go_simp; rfl)); intro gb210 hg w45 hbox hb; have n0_ := qa (blk_below (g := gb185) (o := .cells #[.slice A0_0 l0_0.length c0_0, .int .i64 a0_1] 30 (0, 0)) (by (with_reducible repeat (first | refine blk_drewN ?_ _ | refine blk_drew ?_ | refine blk_alloc ?_ _)); exact BK185.out) hb); have n1_ := qa (below_step (by repeat (first | (with_reducible first | exact HB.out | apply below_alloc | apply pw_below_drewN | apply below_drew1 | refine below_set ?_ GE185.out) | exact HB.out)) hb); have n2_ := qa (hbox); have n3_ := qa ((by rw [hg]; exact (below_size (by repeat (first | (with_reducible first | exact HB.out | apply below_alloc | apply pw_below_drewN | apply below_drew1 | refine below_set ?_ GE185.out) | exact HB.out))) : w.heap.size ≤ gb210)); have n4_ := qa ((by rw [hg]; exact (below_size (by repeat (first | (with_reducible first | exact HB.out | apply below_alloc | apply pw_below_drewN | apply below_drew1 | refine below_set ?_ GE185.out) | exact HB.out))) : w.heap.size ≤ gb210)); have n5_ := qa ((by rw [hg]; exact Nat.ne_of_lt (blk_lt (g := gb185) (o := .cells #[.slice A0_0 l0_0.length c0_0, .int .i64 a0_1] 30 (0, 0)) (by (with_reducible repeat (first | refine blk_drewN ?_ _ | refine blk_drew ?_ | refine blk_alloc ?_ _)); exact BK185.out)) : gb185 ≠ gb210)); have n6_ := qa ((by rw [hg]; exact Nat.ne_of_gt (blk_lt (g := gb185) (o := .cells #[.slice A0_0 l0_0.length c0_0, .int .i64 a0_1] 30 (0, 0)) (by (with_reducible repeat (first | refine blk_drewN ?_ _ | refine blk_drew ?_ | refine blk_alloc ?_ _)); exact BK185.out)) : gb210 ≠ gb185)); clear BK185; clear HB; have BK185 := n0_; have HB := n1_; have BK210 := n2_; have GW210 := n3_; have GE210 := n4_; have NB185_210 := n5_; have NB210_185 := n6_; clear n0_ n1_ n2_ n3_ n4_ n5_ n6_; clear hb hbox hg; have hnb46 := NB210_185.out; have hnc46 := NB185_210.out; have hcz47_0 : w45.cell? ⟨gb210, 0, none⟩ = some (.int .i64 0) := (blk_cell BK210.out 0).trans rfl; have hcz47_1 : w45.cell? ⟨gb210, 1, none⟩ = some (.int .i64 0) := (blk_cell BK210.out 1).trans rfl; have hcz47_2 : w45.cell? ⟨gb210, 2, none⟩ = some (.string (⟨#[]⟩ : ByteArray)) := (blk_cell BK210.out 2).trans rfl; have hcz47_3 : w45.cell? ⟨gb210, 3, none⟩ = some (.int .i64 0) := (blk_cell BK210.out 3).trans rfl; have hcz47_4 : w45.cell? ⟨gb210, 4, none⟩ = some (.string (⟨#[]⟩ : ByteArray)) := (blk_cell BK210.out 4).trans rfl; have hfz47_0 := blk_frozen BK210.out 0; have hfz47_1 := blk_frozen BK210.out 1; have hfz47_2 := blk_frozen BK210.out 2; have hfz47_3 := blk_frozen BK210.out 3; have hfz47_4 := blk_frozen BK210.out 4))
       (try simp only [Act.put, List.setIfInBounds_toArray, List.set_cons_zero, List.set_cons_succ])
       go_cut [75] (fun v75 wc => ∃ (kq : Nat) (x75_36 : Bool), v75 = .bool x75_36 ∧ Aside0 (linhayref08_Go.j0 kq a1 l2 a3 a4 t204 x75_36 l0_0 a0_1 t205 t206 t207 t208 t209 = some (r1, r2, r3)) ∧ Aside0 (kq ≤ k) ∧ Aside0 (wc.heap[gb185]? = some (.cells #[(.slice A0_0 l0_0.length c0_0), .int .i64 a0_1] 30 (0, 0))) ∧ Aside0 (wc.heap[gb210]? = some (.cells #[.int .i64 t205, .int .i64 t206, .string t207, .int .i64 t208, .string t209] 106 (0, 0))) ∧ Aside0 (Below w.heap.size w wc))
       case first =>
        have H := HC37.out
        clear HC37
        by_cases c48 : t208 = 3
        ·
         rw [if_pos c48] at H
         have c48b0 : (t208 == 3) = true := beq_iff_eq.mpr c48
         have c48b1 : (t208 != 3) = false := bne_eq_false_iff_eq.mpr c48
         clear c48
         (first | rw [c48b0] | (simp only [i64_w, i32_w]; rw [c48b0]) | skip)
         by_cases c49 : (l2.length : Int) = 1
         ·
          rw [if_pos c49] at H
          have c49b0 : ((l2.length : Int) == 1) = true := beq_iff_eq.mpr c49
          have c49b1 : ((l2.length : Int) != 1) = false := bne_eq_false_iff_eq.mpr c49
          clear c49
          have H' := qa H
          clear H
          have hnb50 := NB210_185.out
          have hnc50 := NB185_210.out
          have hcz51_0 : w45.cell? ⟨gb210, 0, none⟩ = some (.int .i64 0) := (blk_cell BK210.out 0).trans rfl
          have hcz51_1 : w45.cell? ⟨gb210, 1, none⟩ = some (.int .i64 0) := (blk_cell BK210.out 1).trans rfl
          have hcz51_2 : w45.cell? ⟨gb210, 2, none⟩ = some (.string (⟨#[]⟩ : ByteArray)) := (blk_cell BK210.out 2).trans rfl
          have hcz51_3 : w45.cell? ⟨gb210, 3, none⟩ = some (.int .i64 0) := (blk_cell BK210.out 3).trans rfl
          have hcz51_4 : w45.cell? ⟨gb210, 4, none⟩ = some (.string (⟨#[]⟩ : ByteArray)) := (blk_cell BK210.out 4).trans rfl
          have hfz51_0 := blk_frozen BK210.out 0
          have hfz51_1 := blk_frozen BK210.out 1
          have hfz51_2 := blk_frozen BK210.out 2
          have hfz51_3 := blk_frozen BK210.out 3
          have hfz51_4 := blk_frozen BK210.out 4
          go_wp2
          go_meet
          case rel => exact ⟨_, (!a3), (by first | rfl | (simp; done) | (simp [*]; done) | (simp [bne_nil]; done)), H', ⟨by first | omega | exact Nat.le_refl _⟩, ⟨by (with_reducible repeat (first | refine blk_drewN ?_ _ | refine blk_drew ?_ | refine blk_alloc ?_ _)); refine blk_far ?_ NB185_210.out _; (with_reducible repeat (first | refine blk_drewN ?_ _ | refine blk_drew ?_ | refine blk_alloc ?_ _)); refine blk_far ?_ NB185_210.out _; (with_reducible repeat (first | refine blk_drewN ?_ _ | refine blk_drew ?_ | refine blk_alloc ?_ _)); refine blk_far ?_ NB185_210.out _; (with_reducible repeat (first | refine blk_drewN ?_ _ | refine blk_drew ?_ | refine blk_alloc ?_ _)); refine blk_far ?_ NB185_210.out _; (with_reducible repeat (first | refine blk_drewN ?_ _ | refine blk_drew ?_ | refine blk_alloc ?_ _)); refine blk_far ?_ NB185_210.out _; (with_reducible repeat (first | refine blk_drewN ?_ _ | refine blk_drew ?_ | refine blk_alloc ?_ _)); exact BK185.out⟩, ⟨by (with_reducible repeat (first | refine blk_drewN ?_ _ | refine blk_drew ?_ | refine blk_alloc ?_ _)); refine blk_put (cs := #[.int .i64 t205, .int .i64 t206, .string t207, .int .i64 t208, .string (⟨#[]⟩ : ByteArray)]) ?_ 4 _ rfl; (with_reducible repeat (first | refine blk_drewN ?_ _ | refine blk_drew ?_ | refine blk_alloc ?_ _)); refine blk_put (cs := #[.int .i64 t205, .int .i64 t206, .string t207, .int .i64 0, .string (⟨#[]⟩ : ByteArray)]) ?_ 3 _ rfl; (with_reducible repeat (first | refine blk_drewN ?_ _ | refine blk_drew ?_ | refine blk_alloc ?_ _)); refine blk_put (cs := #[.int .i64 t205, .int .i64 t206, .string (⟨#[]⟩ : ByteArray), .int .i64 0, .string (⟨#[]⟩ : ByteArray)]) ?_ 2 _ rfl; (with_reducible repeat (first | refine blk_drewN ?_ _ | refine blk_drew ?_ | refine blk_alloc ?_ _)); refine blk_put (cs := #[.int .i64 t205, .int .i64 0, .string (⟨#[]⟩ : ByteArray), .int .i64 0, .string (⟨#[]⟩ : ByteArray)]) ?_ 1 _ rfl; (with_reducible repeat (first | refine blk_drewN ?_ _ | refine blk_drew ?_ | refine blk_alloc ?_ _)); refine blk_put (cs := #[.int .i64 0, .int .i64 0, .string (⟨#[]⟩ : ByteArray), .int .i64 0, .string (⟨#[]⟩ : ByteArray)]) ?_ 0 _ rfl; (with_reducible repeat (first | refine blk_drewN ?_ _ | refine blk_drew ?_ | refine blk_alloc ?_ _)); exact BK210.out⟩, ⟨by repeat (first | (with_reducible first | exact HB.out | apply below_alloc | apply pw_below_drewN | apply below_drew1 | refine below_set ?_ GE185.out | refine below_set ?_ GE210.out) | exact HB.out)⟩⟩
         ·
          rw [if_neg c49] at H
          have c49b0 : ((l2.length : Int) == 1) = false := beq_eq_false_iff_ne.mpr c49
          have c49b1 : ((l2.length : Int) != 1) = true := bne_iff_ne.mpr c49
          have H' := qa H
          clear H
          have hnb52 := NB210_185.out
          have hnc52 := NB185_210.out
          have hcz53_0 : w45.cell? ⟨gb210, 0, none⟩ = some (.int .i64 0) := (blk_cell BK210.out 0).trans rfl
          have hcz53_1 : w45.cell? ⟨gb210, 1, none⟩ = some (.int .i64 0) := (blk_cell BK210.out 1).trans rfl
          have hcz53_2 : w45.cell? ⟨gb210, 2, none⟩ = some (.string (⟨#[]⟩ : ByteArray)) := (blk_cell BK210.out 2).trans rfl
          have hcz53_3 : w45.cell? ⟨gb210, 3, none⟩ = some (.int .i64 0) := (blk_cell BK210.out 3).trans rfl
          have hcz53_4 : w45.cell? ⟨gb210, 4, none⟩ = some (.string (⟨#[]⟩ : ByteArray)) := (blk_cell BK210.out 4).trans rfl
          have hfz53_0 := blk_frozen BK210.out 0
          have hfz53_1 := blk_frozen BK210.out 1
          have hfz53_2 := blk_frozen BK210.out 2
          have hfz53_3 := blk_frozen BK210.out 3
          have hfz53_4 := blk_frozen BK210.out 4
          go_wp2
          go_meet
          case rel => exact ⟨_, (false), (by first | rfl | (simp; done) | (simp [*]; done) | (simp [bne_nil]; done)), H', ⟨by first | omega | exact Nat.le_refl _⟩, ⟨by (with_reducible repeat (first | refine blk_drewN ?_ _ | refine blk_drew ?_ | refine blk_alloc ?_ _)); refine blk_far ?_ NB185_210.out _; (with_reducible repeat (first | refine blk_drewN ?_ _ | refine blk_drew ?_ | refine blk_alloc ?_ _)); refine blk_far ?_ NB185_210.out _; (with_reducible repeat (first | refine blk_drewN ?_ _ | refine blk_drew ?_ | refine blk_alloc ?_ _)); refine blk_far ?_ NB185_210.out _; (with_reducible repeat (first | refine blk_drewN ?_ _ | refine blk_drew ?_ | refine blk_alloc ?_ _)); refine blk_far ?_ NB185_210.out _; (with_reducible repeat (first | refine blk_drewN ?_ _ | refine blk_drew ?_ | refine blk_alloc ?_ _)); refine blk_far ?_ NB185_210.out _; (with_reducible repeat (first | refine blk_drewN ?_ _ | refine blk_drew ?_ | refine blk_alloc ?_ _)); exact BK185.out⟩, ⟨by (with_reducible repeat (first | refine blk_drewN ?_ _ | refine blk_drew ?_ | refine blk_alloc ?_ _)); refine blk_put (cs := #[.int .i64 t205, .int .i64 t206, .string t207, .int .i64 t208, .string (⟨#[]⟩ : ByteArray)]) ?_ 4 _ rfl; (with_reducible repeat (first | refine blk_drewN ?_ _ | refine blk_drew ?_ | refine blk_alloc ?_ _)); refine blk_put (cs := #[.int .i64 t205, .int .i64 t206, .string t207, .int .i64 0, .string (⟨#[]⟩ : ByteArray)]) ?_ 3 _ rfl; (with_reducible repeat (first | refine blk_drewN ?_ _ | refine blk_drew ?_ | refine blk_alloc ?_ _)); refine blk_put (cs := #[.int .i64 t205, .int .i64 t206, .string (⟨#[]⟩ : ByteArray), .int .i64 0, .string (⟨#[]⟩ : ByteArray)]) ?_ 2 _ rfl; (with_reducible repeat (first | refine blk_drewN ?_ _ | refine blk_drew ?_ | refine blk_alloc ?_ _)); refine blk_put (cs := #[.int .i64 t205, .int .i64 0, .string (⟨#[]⟩ : ByteArray), .int .i64 0, .string (⟨#[]⟩ : ByteArray)]) ?_ 1 _ rfl; (with_reducible repeat (first | refine blk_drewN ?_ _ | refine blk_drew ?_ | refine blk_alloc ?_ _)); refine blk_put (cs := #[.int .i64 0, .int .i64 0, .string (⟨#[]⟩ : ByteArray), .int .i64 0, .string (⟨#[]⟩ : ByteArray)]) ?_ 0 _ rfl; (with_reducible repeat (first | refine blk_drewN ?_ _ | refine blk_drew ?_ | refine blk_alloc ?_ _)); exact BK210.out⟩, ⟨by repeat (first | (with_reducible first | exact HB.out | apply below_alloc | apply pw_below_drewN | apply below_drew1 | refine below_set ?_ GE185.out | refine below_set ?_ GE210.out) | exact HB.out)⟩⟩
        ·
         rw [if_neg c48] at H
         have c48b0 : (t208 == 3) = false := beq_eq_false_iff_ne.mpr c48
         have c48b1 : (t208 != 3) = true := bne_iff_ne.mpr c48
         (first | rw [c48b0] | (simp only [i64_w, i32_w]; rw [c48b0]) | skip)
         have H' := qa H
         clear H
         have hnb54 := NB210_185.out
         have hnc54 := NB185_210.out
         have hcz55_0 : w45.cell? ⟨gb210, 0, none⟩ = some (.int .i64 0) := (blk_cell BK210.out 0).trans rfl
         have hcz55_1 : w45.cell? ⟨gb210, 1, none⟩ = some (.int .i64 0) := (blk_cell BK210.out 1).trans rfl
         have hcz55_2 : w45.cell? ⟨gb210, 2, none⟩ = some (.string (⟨#[]⟩ : ByteArray)) := (blk_cell BK210.out 2).trans rfl
         have hcz55_3 : w45.cell? ⟨gb210, 3, none⟩ = some (.int .i64 0) := (blk_cell BK210.out 3).trans rfl
         have hcz55_4 : w45.cell? ⟨gb210, 4, none⟩ = some (.string (⟨#[]⟩ : ByteArray)) := (blk_cell BK210.out 4).trans rfl
         have hfz55_0 := blk_frozen BK210.out 0
         have hfz55_1 := blk_frozen BK210.out 1
         have hfz55_2 := blk_frozen BK210.out 2
         have hfz55_3 := blk_frozen BK210.out 3
         have hfz55_4 := blk_frozen BK210.out 4
         go_wp2
         go_meet
         case rel => exact ⟨_, (true), (by first | rfl | (simp; done) | (simp [*]; done) | (simp [bne_nil]; done)), H', ⟨by first | omega | exact Nat.le_refl _⟩, ⟨by (with_reducible repeat (first | refine blk_drewN ?_ _ | refine blk_drew ?_ | refine blk_alloc ?_ _)); refine blk_far ?_ NB185_210.out _; (with_reducible repeat (first | refine blk_drewN ?_ _ | refine blk_drew ?_ | refine blk_alloc ?_ _)); refine blk_far ?_ NB185_210.out _; (with_reducible repeat (first | refine blk_drewN ?_ _ | refine blk_drew ?_ | refine blk_alloc ?_ _)); refine blk_far ?_ NB185_210.out _; (with_reducible repeat (first | refine blk_drewN ?_ _ | refine blk_drew ?_ | refine blk_alloc ?_ _)); refine blk_far ?_ NB185_210.out _; (with_reducible repeat (first | refine blk_drewN ?_ _ | refine blk_drew ?_ | refine blk_alloc ?_ _)); refine blk_far ?_ NB185_210.out _; (with_reducible repeat (first | refine blk_drewN ?_ _ | refine blk_drew ?_ | refine blk_alloc ?_ _)); exact BK185.out⟩, ⟨by (with_reducible repeat (first | refine blk_drewN ?_ _ | refine blk_drew ?_ | refine blk_alloc ?_ _)); refine blk_put (cs := #[.int .i64 t205, .int .i64 t206, .string t207, .int .i64 t208, .string (⟨#[]⟩ : ByteArray)]) ?_ 4 _ rfl; (with_reducible repeat (first | refine blk_drewN ?_ _ | refine blk_drew ?_ | refine blk_alloc ?_ _)); refine blk_put (cs := #[.int .i64 t205, .int .i64 t206, .string t207, .int .i64 0, .string (⟨#[]⟩ : ByteArray)]) ?_ 3 _ rfl; (with_reducible repeat (first | refine blk_drewN ?_ _ | refine blk_drew ?_ | refine blk_alloc ?_ _)); refine blk_put (cs := #[.int .i64 t205, .int .i64 t206, .string (⟨#[]⟩ : ByteArray), .int .i64 0, .string (⟨#[]⟩ : ByteArray)]) ?_ 2 _ rfl; (with_reducible repeat (first | refine blk_drewN ?_ _ | refine blk_drew ?_ | refine blk_alloc ?_ _)); refine blk_put (cs := #[.int .i64 t205, .int .i64 0, .string (⟨#[]⟩ : ByteArray), .int .i64 0, .string (⟨#[]⟩ : ByteArray)]) ?_ 1 _ rfl; (with_reducible repeat (first | refine blk_drewN ?_ _ | refine blk_drew ?_ | refine blk_alloc ?_ _)); refine blk_put (cs := #[.int .i64 0, .int .i64 0, .string (⟨#[]⟩ : ByteArray), .int .i64 0, .string (⟨#[]⟩ : ByteArray)]) ?_ 0 _ rfl; (with_reducible repeat (first | refine blk_drewN ?_ _ | refine blk_drew ?_ | refine blk_alloc ?_ _)); exact BK210.out⟩, ⟨by repeat (first | (with_reducible first | exact HB.out | apply below_alloc | apply pw_below_drewN | apply below_drew1 | refine below_set ?_ GE185.out | refine below_set ?_ GE210.out) | exact HB.out)⟩⟩
       case rest =>
        clear HC37
        try clear c1
        try clear p1
        try clear q1
        try clear hx1
        try clear qi1
        try clear c2
        try clear p2
        try clear q2
        try clear hx2
        try clear qi2
        try clear c3
        try clear c4
        try clear c5
        try clear c6
        try clear c6b0
        try clear c6b1
        try clear c6b2
        try clear c9
        try clear c9b0
        try clear c9b1
        try clear c10
        try clear c10b0
        try clear c10b1
        try clear c11
        try clear c11b0
        try clear c11b1
        try clear c13
        try clear c13b0
        try clear c13b1
        try clear c14
        try clear p19
        try clear q19
        try clear hx19
        try clear qi19
        try clear p20
        try clear q20
        try clear hx20
        try clear qi20
        try clear c23
        try clear c23b0
        try clear c23b1
        try clear c26
        try clear c26b0
        try clear c26b1
        try clear c35
        try clear c46
        try clear c48
        try clear c48b0
        try clear c48b1
        try clear c49
        try clear c49b0
        try clear c49b1
        try clear c50
        try clear c52
        try clear c54
        try clear hcz16_0
        try clear hcz16_1
        try clear hcz28_0
        try clear hcz28_1
        try clear hcz32_0
        try clear hcz32_1
        try clear hcz36_0
        try clear hcz36_1
        try clear hcz36_2
        try clear hcz36_3
        try clear hcz36_4
        try clear hcz39_0
        try clear hcz39_1
        try clear hcz43_0
        try clear hcz43_1
        try clear hcz47_0
        try clear hcz47_1
        try clear hcz47_2
        try clear hcz47_3
        try clear hcz47_4
        try clear hcz51_0
        try clear hcz51_1
        try clear hcz51_2
        try clear hcz51_3
        try clear hcz51_4
        try clear hcz53_0
        try clear hcz53_1
        try clear hcz53_2
        try clear hcz53_3
        try clear hcz53_4
        try clear hcz55_0
        try clear hcz55_1
        try clear hcz55_2
        try clear hcz55_3
        try clear hcz55_4
        try clear hfz16_0
        try clear hfz16_1
        try clear hfz28_0
        try clear hfz28_1
        try clear hfz32_0
        try clear hfz32_1
        try clear hfz36_0
        try clear hfz36_1
        try clear hfz36_2
        try clear hfz36_3
        try clear hfz36_4
        try clear hfz39_0
        try clear hfz39_1
        try clear hfz43_0
        try clear hfz43_1
        try clear hfz47_0
        try clear hfz47_1
        try clear hfz47_2
        try clear hfz47_3
        try clear hfz47_4
        try clear hfz51_0
        try clear hfz51_1
        try clear hfz51_2
        try clear hfz51_3
        try clear hfz51_4
        try clear hfz53_0
        try clear hfz53_1
        try clear hfz53_2
        try clear hfz53_3
        try clear hfz53_4
        try clear hfz55_0
        try clear hfz55_1
        try clear hfz55_2
        try clear hfz55_3
        try clear hfz55_4
        try clear hx191_0
        try clear hx201_0
        try clear hx203_0
        try clear p191
        try clear p201
        try clear p203
        try clear q191
        try clear q201
        try clear q203
        obtain ⟨kq, x75_36, rfl, HA, HJ36, BK185, BK210, HB⟩ := hcut
        cases kq with
        | zero => exact absurd HA.out (by simp [linhayref08_Go.j0])
        | succ kj36 =>
         have H := HA.out
         clear HA
         simp only [linhayref08_Go.j0] at H
         by_cases c56 : x75_36 = true
         ·
          subst c56
          have H1 : (if 1 ≤ (l2.length : Int) then ((linhayref08_Go.f kj36 l0_0 a0_1 t204 (l2.drop 1) a3 a4).bind fun bt212 => (some (bt212.1, bt212.2.1, bt212.2.2))) else (none)) = some (r1, r2, r3) := by rw [if_pos rfl] at H; exact H
          clear H
          have H := H1
          clear H1
          by_cases c57 : 1 ≤ (l2.length : Int)
          ·
           rw [if_pos c57] at H
           have c57b0 := eq_true c57
           have c57b1 : decide (1 ≤ (l2.length : Int)) = true := decide_eq_true c57
           clear c57
           replace H := Option.bind_eq_some_iff.mp H
           obtain ⟨⟨t212, t213, t214⟩, A580, H⟩ := H
           replace H : (some (t212, t213, t214)) = some (r1, r2, r3) := H
           have A58 := qa A580
           clear A580
           simp only [Option.some.injEq, Prod.mk.injEq] at H
           obtain ⟨rfl, rfl, rfl⟩ := H
           try go_wp2
           have n0_ := qa (blk_drew BK185.out)
           have n1_ := qa (blk_drew BK210.out)
           have n2_ := qa (below_drew1 HB.out)
           clear BK185
           clear BK210
           clear HB
           have BK185 := n0_
           have BK210 := n1_
           have HB := n2_
           clear n0_ n1_ n2_
           obtain ⟨i060, hi060, _, hsz60, _⟩ := info_parts info9
           obtain ⟨A60, hcut60, hA60, hC60⟩ := print_drop_of (P := Tryz.prog) Value.string (⟨#[]⟩ : ByteArray) 186 9 .i64 Tryz.underlying186 hi060 hsz60 (some ad191) c2 l2 1 (by omega) (of_decide_eq_true (by first | (with_reducible assumption) | assumption)) HC2.out
           have HR211 := qa (Kd.C_of_reads (h1 := fun _ => rfl) (hA60 _ (Kd.reads_of_C HR2.out)))
           have HC211 := qa hC60
           clear hA60 hC60 hi060 hsz60
           refine start_ (n := 13) (S := fun w' => w'.cell? ⟨gb185, 0, none⟩ = some (.slice A0_0 l0_0.length c0_0) ∧ w'.cell? ⟨gb185, 1, none⟩ = some (.int .i64 a0_1)) (ds := []) #[false, false, false, false, false, false, false, false, false, false, false, false, false] (by kernel_rfl) rfl rfl ⟨(blk_cell BK185.out 0).trans rfl, (blk_cell BK185.out 1).trans rfl⟩ (fun hHeld => ?_); refine with_tabW linhayref08_Go.tab15 linhayref08_Go.bits15 (fun HT_ HW_ => ?_)
           generalize wc.drew = w59 at BK185 BK210 HB HR211 hHeld ⊢
           refine pure_ (i := 1) (N := some 77) (v := ?_) (a' := ?_) #[false, true, false, false, false, false, false, false, false, false, false, false, false] rfl rfl (any_of HT_.out (by kernel_rfl)) (fun _ _ _ h => h) (Or.inl ⟨by rfl, ?_⟩) ?_ ?_
           rotate_left
           ·
            intro w'
            go_simp
            with_reducible rfl
           rotate_left
           ·
            simp only [Act.put, List.setIfInBounds_toArray, List.set_cons_zero, List.set_cons_succ, i64_w, i32_w]
            rfl
           refine pure_ (i := 2) (N := some 78) (v := ?_) (a' := ?_) #[false, true, true, false, false, false, false, false, false, false, false, false, false] rfl rfl (any_of HT_.out (by kernel_rfl)) (fun _ _ _ h => h) (Or.inl ⟨by rfl, ?_⟩) ?_ ?_
           rotate_left
           ·
            intro w'
            go_simp
            with_reducible rfl
           rotate_left
           ·
            simp only [Act.put, List.setIfInBounds_toArray, List.set_cons_zero, List.set_cons_succ, i64_w, i32_w]
            rfl
           refine pure_ (i := 3) (N := some 79) (v := ?_) (a' := ?_) #[false, true, true, true, false, false, false, false, false, false, false, false, false] rfl rfl (any_of HT_.out (by kernel_rfl)) (fun _ _ _ h => h) (Or.inl ⟨by rfl, ?_⟩) ?_ ?_
           rotate_left
           ·
            intro w'
            go_simp
            with_reducible rfl
           rotate_left
           ·
            simp only [Act.put, List.setIfInBounds_toArray, List.set_cons_zero, List.set_cons_succ, i64_w, i32_w]
            rfl
           refine pure_ (i := 4) (N := some 80) (v := ?_) (a' := ?_) #[false, true, true, true, true, false, false, false, false, false, false, false, false] rfl rfl (any_of HT_.out (by kernel_rfl)) (fun _ _ _ h => h) (Or.inl ⟨by rfl, ?_⟩) ?_ ?_
           rotate_left
           ·
            intro w'
            go_simp
            with_reducible rfl
           rotate_left
           ·
            simp only [Act.put, List.setIfInBounds_toArray, List.set_cons_zero, List.set_cons_succ, i64_w, i32_w]
            rfl
           refine pure_ (i := 5) (N := some 81) (v := ?_) (a' := ?_) #[false, true, true, true, true, true, false, false, false, false, false, false, false] rfl rfl (any_of HT_.out (by kernel_rfl)) (fun _ _ _ h => h) (Or.inl ⟨by rfl, ?_⟩) ?_ ?_
           rotate_left
           ·
            intro w'
            go_simp
            with_reducible rfl
           rotate_left
           ·
            simp only [Act.put, List.setIfInBounds_toArray, List.set_cons_zero, List.set_cons_succ, i64_w, i32_w]
            rfl
           refine take_ (i := 0) (N := some 76) (v := ?_) (a' := ?_) #[true, true, true, true, true, true, false, false, false, false, false, false, false] rfl rfl (take_ofW HT_.out HW_.out (by kernel_rfl)) (fun _ _ _ h => h) (Or.inl ⟨by rfl, ?_⟩) hHeld ?_ ?_
           rotate_left
           ·
            rintro w' ⟨s0, s1⟩
            go_simp
            with_reducible rfl
           rotate_left
           ·
            simp only [Act.put, List.setIfInBounds_toArray, List.set_cons_zero, List.set_cons_succ, i64_w, i32_w]
            rfl
           refine one_ (i := 6) (N := some 82) #[true, true, true, true, true, true, true, false, false, false, false, false, false] rfl rfl (one_of HT_.out (by kernel_rfl)) (by decide) (fun K hK => ?_)
           refine goes_ Tryz.func144 (by kernel_rfl) rfl #[.agg #[.slice A0_0 l0_0.length c0_0, .int .i64 a0_1], .int .i64 t204, .slice A60 (l2.drop 1).length (c2 - 1), .bool a3, .int .i64 a4] (by rfl) rfl rfl (by (try simp only [List.map_toArray, List.map_cons, List.map_nil]); first | done | (rw [show (l2.drop 1).length = (l2.length - 1) from List.length_drop] <;> rfl) | rfl | (simp only [List.length_drop, List.length_take]; rfl)) ?_
           with_reducible refine (ih kj36 (by have := HJ36.out; omega) _ _ l0_0 a0_1 t204 _ _ (l2.drop 1) a3 a4 t212 t213 t214 _ ?side1 ?side2 ?side3 ?side4 A58.out).mono ?_
           (case side1 => repeat (first | exact (Kd.C_below HR0_0.out HB.out) | (with_reducible refine Kd.C_alloc ?_ _) | (with_reducible refine Kd.C_drewN ?_ _) | (with_reducible refine Kd.C_drew ?_)))
           (case side2 => exact HC0_0.out)
           (case side3 => repeat (first | exact (Kd.C_below HR211.out HB.out) | (with_reducible refine Kd.C_alloc ?_ _) | (with_reducible refine Kd.C_drewN ?_ _) | (with_reducible refine Kd.C_drew ?_)))
           (case side4 => exact HC211.out)
           rintro e w61 ⟨rfl, hb⟩
           refine ⟨_, rfl, ?_⟩
           have n0_ := qa (blk_below (g := gb185) (o := .cells #[.slice A0_0 l0_0.length c0_0, .int .i64 a0_1] 30 (0, 0)) (by (with_reducible repeat (first | refine blk_drewN ?_ _ | refine blk_drew ?_ | refine blk_alloc ?_ _)); exact BK185.out) hb)
           have n1_ := qa (blk_below (g := gb210) (o := .cells #[.int .i64 t205, .int .i64 t206, .string t207, .int .i64 t208, .string t209] 106 (0, 0)) (by (with_reducible repeat (first | refine blk_drewN ?_ _ | refine blk_drew ?_ | refine blk_alloc ?_ _)); exact BK210.out) hb)
           have n2_ := qa (below_step (by repeat (first | (with_reducible first | exact HB.out | apply below_alloc | apply pw_below_drewN | apply below_drew1 | refine below_set ?_ GE185.out | refine below_set ?_ GE210.out) | exact HB.out)) hb)
           clear BK185
           clear BK210
           clear HB
           have BK185 := n0_
           have BK210 := n1_
           have HB := n2_
           clear n0_ n1_ n2_
           (try clear hb)
           (try clear hb2)
           (try clear hk)
           (try clear hi)
           refine hK.out _ _ ⟨(blk_cell BK185.out 0).trans rfl, (blk_cell BK185.out 1).trans rfl⟩ (fun hHeld => ?_)
           clear hK K
           refine norm_ (a' := ?_) ?_ ?_
           rotate_left
           ·
            show Act.put _ (some 82) _ = _
            simp only [Act.put, List.setIfInBounds_toArray, List.set_cons_zero, List.set_cons_succ, i64_w, i32_w]
            rfl
           refine pure_ (i := 7) (N := some 83) (v := ?_) (a' := ?_) #[true, true, true, true, true, true, true, true, false, false, false, false, false] rfl rfl (any_of HT_.out (by kernel_rfl)) (fun _ _ _ h => h) (Or.inl ⟨by rfl, ?_⟩) ?_ ?_
           rotate_left
           ·
            intro w'
            go_simp
            with_reducible rfl
           rotate_left
           ·
            simp only [Act.put, List.setIfInBounds_toArray, List.set_cons_zero, List.set_cons_succ, i64_w, i32_w]
            rfl
           refine pure_ (i := 8) (N := some 84) (v := ?_) (a' := ?_) #[true, true, true, true, true, true, true, true, true, false, false, false, false] rfl rfl (any_of HT_.out (by kernel_rfl)) (fun _ _ _ h => h) (Or.inl ⟨by rfl, ?_⟩) ?_ ?_
           rotate_left
           ·
            intro w'
            go_simp
            with_reducible rfl
           rotate_left
           ·
            simp only [Act.put, List.setIfInBounds_toArray, List.set_cons_zero, List.set_cons_succ, i64_w, i32_w]
            rfl
           refine pure_ (i := 9) (N := some 85) (v := ?_) (a' := ?_) #[true, true, true, true, true, true, true, true, true, true, false, false, false] rfl rfl (any_of HT_.out (by kernel_rfl)) (fun _ _ _ h => h) (Or.inl ⟨by rfl, ?_⟩) ?_ ?_
           rotate_left
           ·
            intro w'
            go_simp
            with_reducible rfl
           rotate_left
           ·
            simp only [Act.put, List.setIfInBounds_toArray, List.set_cons_zero, List.set_cons_succ, i64_w, i32_w]
            rfl
           refine pure_ (i := 10) (N := some 10) (v := ?_) (a' := ?_) #[true, true, true, true, true, true, true, true, true, true, true, false, false] rfl rfl (any_of HT_.out (by kernel_rfl)) (fun _ _ _ h => h) (Or.inl ⟨by rfl, ?_⟩) ?_ ?_
           rotate_left
           ·
            intro w'
            go_simp
            with_reducible rfl
           rotate_left
           ·
            simp only [Act.put, List.setIfInBounds_toArray, List.set_cons_zero, List.set_cons_succ, i64_w, i32_w]
            rfl
           refine pure_ (i := 11) (N := some 11) (v := ?_) (a' := ?_) #[true, true, true, true, true, true, true, true, true, true, true, true, false] rfl rfl (any_of HT_.out (by kernel_rfl)) (fun _ _ _ h => h) (Or.inl ⟨by rfl, ?_⟩) ?_ ?_
           rotate_left
           ·
            intro w'
            go_simp
            with_reducible rfl
           rotate_left
           ·
            simp only [Act.put, List.setIfInBounds_toArray, List.set_cons_zero, List.set_cons_succ, i64_w, i32_w]
            rfl
           refine pure_ (i := 12) (N := some 12) (v := ?_) (a' := ?_) #[true, true, true, true, true, true, true, true, true, true, true, true, true] rfl rfl (any_of HT_.out (by kernel_rfl)) (fun _ _ _ h => h) (Or.inl ⟨by rfl, ?_⟩) ?_ ?_
           rotate_left
           ·
            intro w'
            go_simp
            with_reducible rfl
           rotate_left
           ·
            simp only [Act.put, List.setIfInBounds_toArray, List.set_cons_zero, List.set_cons_succ, i64_w, i32_w]
            rfl
           refine done_ (done_of HT_.out (by kernel_rfl)) ?_
           try go_wp2
           go_ret3
           exact ⟨by first | rfl | (simp [errW_none, errW_some] <;> rfl) | (simp [*, errW_none, errW_some] <;> rfl) | (simp [errW_none, errW_some, bne_nil]; done) | (simp [*, bne_nil]; done) | (simp [bne]; done), by repeat (first | (with_reducible first | exact HB.out | apply below_alloc | apply pw_below_drewN | apply below_drew1 | refine below_set ?_ GE185.out | refine below_set ?_ GE210.out) | exact HB.out)⟩
          ·
           rw [if_neg c57] at H
           exact absurd H (by simp)
         ·
          replace c56 := Bool.eq_false_iff.mpr c56
          subst c56
          have H1 : (if a4 = 40 then (some (0, a4, 10)) else (if 0 < (t209.size : Int) then (if (bt t209 0) = 47 then ((linhayref04_Parts.f kj36 t209).bind fun t215 => (if ([] : List ByteArray).length + t215.length < 8796093022208 then ((some (([] : List ByteArray) ++ t215 : List ByteArray)).bind fun y218 => (if 1 ≤ (l2.length : Int) then (if y218.length + (l2.drop 1).length < 8796093022208 then ((linhayref08_Go.f kj36 l0_0 a0_1 1 (y218 ++ (l2.drop 1)) a3 (wrap64 (a4 + 1))).bind fun bt225 => (some (bt225.1, bt225.2.1, bt225.2.2))) else (none)) else (none))) else (none))) else ((linhayref04_Parts.f kj36 t209).bind fun t228 => (if ([] : List ByteArray).length + t228.length < 8796093022208 then ((some (([] : List ByteArray) ++ t228 : List ByteArray)).bind fun y231 => (if 1 ≤ (l2.length : Int) then (if y231.length + (l2.drop 1).length < 8796093022208 then ((linhayref08_Go.f kj36 l0_0 a0_1 a1 (y231 ++ (l2.drop 1)) a3 (wrap64 (a4 + 1))).bind fun bt238 => (some (bt238.1, bt238.2.1, bt238.2.2))) else (none)) else (none))) else (none)))) else (none))) = some (r1, r2, r3) := by rw [if_neg (show ¬ (false = true) by decide)] at H; exact H
          clear H
          have H := H1
          clear H1
          by_cases c62 : a4 = 40
          ·
           rw [if_pos c62] at H
           have c62b0 : (a4 == 40) = true := beq_iff_eq.mpr c62
           have c62b1 : (a4 != 40) = false := bne_eq_false_iff_eq.mpr c62
           clear c62
           simp only [Option.some.injEq, Prod.mk.injEq] at H
           obtain ⟨rfl, rfl, rfl⟩ := H
           go_wp2
           go_ret3
           exact ⟨by first | rfl | (simp [errW_none, errW_some] <;> rfl) | (simp [*, errW_none, errW_some] <;> rfl) | (simp [errW_none, errW_some, bne_nil]; done) | (simp [*, bne_nil]; done) | (simp [bne]; done), by repeat (first | (with_reducible first | exact HB.out | apply below_alloc | apply pw_below_drewN | apply below_drew1 | refine below_set ?_ GE185.out | refine below_set ?_ GE210.out) | exact HB.out)⟩
          ·
           rw [if_neg c62] at H
           have c62b0 : (a4 == 40) = false := beq_eq_false_iff_ne.mpr c62
           have c62b1 : (a4 != 40) = true := bne_iff_ne.mpr c62
           by_cases c63 : 0 < (t209.size : Int)
           ·
            rw [if_pos c63] at H
            have c63b0 : decide (0 < (t209.size : Int)) = true := decide_eq_true c63
            have c63b1 : decide (0 < t209.size) = true := decide_eq_true (by omega)
            clear c63
            by_cases c65 : (bt t209 0) = 47
            ·
             rw [if_pos c65] at H
             have c65b0 : ((bt t209 0) == 47) = true := beq_iff_eq.mpr c65
             have c65b1 : ((bt t209 0) != 47) = false := bne_eq_false_iff_eq.mpr c65
             clear c65
             replace H := Option.bind_eq_some_iff.mp H
             obtain ⟨t215, A660, H⟩ := H
             replace H : (if ([] : List ByteArray).length + t215.length < 8796093022208 then ((some (([] : List ByteArray) ++ t215 : List ByteArray)).bind fun y218 => (if 1 ≤ (l2.length : Int) then (if y218.length + (l2.drop 1).length < 8796093022208 then ((linhayref08_Go.f kj36 l0_0 a0_1 1 (y218 ++ (l2.drop 1)) a3 (wrap64 (a4 + 1))).bind fun bt225 => (some (bt225.1, bt225.2.1, bt225.2.2))) else (none)) else (none))) else (none)) = some (r1, r2, r3) := H
             have A66 := qa A660
             clear A660
             by_cases c67 : ([] : List ByteArray).length + t215.length < 8796093022208
             ·
              rw [if_pos c67] at H
              have LMc67 := qa c67
              clear c67
              obtain ⟨y218, hy218⟩ : ∃ y_ : List ByteArray, y_ = (([] : List ByteArray) ++ t215) := ⟨_, rfl⟩
              replace H : (if 1 ≤ (l2.length : Int) then (if y218.length + (l2.drop 1).length < 8796093022208 then ((linhayref08_Go.f kj36 l0_0 a0_1 1 (y218 ++ (l2.drop 1)) a3 (wrap64 (a4 + 1))).bind fun bt225 => (some (bt225.1, bt225.2.1, bt225.2.2))) else (none)) else (none)) = some (r1, r2, r3) := by first | (rw [hy218]; with_reducible exact H) | (have H2_ := (Option.bind_some _ _).symm.trans H; rw [hy218]; with_reducible exact H2_) | (have H2_ := (Option.bind_some _ _).symm.trans H; with_reducible exact H2_) | with_reducible exact H | (rw [hy218]; exact H) | exact H
              have Ny218 := qa hy218
              clear hy218
              by_cases c68 : 1 ≤ (l2.length : Int)
              ·
               rw [if_pos c68] at H
               have c68b0 := eq_true c68
               have c68b1 : decide (1 ≤ (l2.length : Int)) = true := decide_eq_true c68
               clear c68
               by_cases c69 : y218.length + (l2.drop 1).length < 8796093022208
               ·
                rw [if_pos c69] at H
                have LMc69 := qa c69
                clear c69
                obtain ⟨y222, hy222⟩ : ∃ y_ : List ByteArray, y_ = (y218 ++ (l2.drop 1)) := ⟨_, rfl⟩
                replace H : ((linhayref08_Go.f kj36 l0_0 a0_1 1 y222 a3 (wrap64 (a4 + 1))).bind fun bt225 => (some (bt225.1, bt225.2.1, bt225.2.2))) = some (r1, r2, r3) := by first | (rw [hy222]; with_reducible exact H) | (have H2_ := (Option.bind_some _ _).symm.trans H; rw [hy222]; with_reducible exact H2_) | (have H2_ := (Option.bind_some _ _).symm.trans H; with_reducible exact H2_) | with_reducible exact H | (rw [hy222]; exact H) | exact H
                have Ny222 := qa hy222
                clear hy222
                replace H := Option.bind_eq_some_iff.mp H
                obtain ⟨⟨t225, t226, t227⟩, A700, H⟩ := H
                replace H : (some (t225, t226, t227)) = some (r1, r2, r3) := H
                have A70 := qa A700
                clear A700
                simp only [Option.some.injEq, Prod.mk.injEq] at H
                obtain ⟨rfl, rfl, rfl⟩ := H
                have hnb71 := NB210_185.out
                have hnc71 := NB185_210.out
                have hcz72_0 : wc.cell? ⟨gb210, 0, none⟩ = some (.int .i64 t205) := (blk_cell BK210.out 0).trans rfl
                have hcz72_1 : wc.cell? ⟨gb210, 1, none⟩ = some (.int .i64 t206) := (blk_cell BK210.out 1).trans rfl
                have hcz72_2 : wc.cell? ⟨gb210, 2, none⟩ = some (.string t207) := (blk_cell BK210.out 2).trans rfl
                have hcz72_3 : wc.cell? ⟨gb210, 3, none⟩ = some (.int .i64 t208) := (blk_cell BK210.out 3).trans rfl
                have hcz72_4 : wc.cell? ⟨gb210, 4, none⟩ = some (.string t209) := (blk_cell BK210.out 4).trans rfl
                have hfz72_0 := blk_frozen BK210.out 0
                have hfz72_1 := blk_frozen BK210.out 1
                have hfz72_2 := blk_frozen BK210.out 2
                have hfz72_3 := blk_frozen BK210.out 3
                have hfz72_4 := blk_frozen BK210.out 4
                have p64 : 0 ≤ (0 : Int) := (by omega)
                have q64 : 0 < t209.size := (by have : (0 : Int) < (t209.size : Int) := of_decide_eq_true (by first | (with_reducible assumption) | assumption); omega)
                have hx64 : ∀ h : 0 < t209.size, ((t209[0]'h).toNat : Int) = bt t209 0 := bt_at t209 0
                clear p64
                have qi64 : (0 < (t209.size : Int)) = True := eq_true (of_decide_eq_true (by first | (with_reducible assumption) | assumption))
                replace q64 := eq_true q64
                try go_wp2
                have n0_ := qa (blk_drew BK185.out)
                have n1_ := qa (blk_drew BK210.out)
                have n2_ := qa (below_drew1 HB.out)
                clear BK185
                clear BK210
                clear HB
                have BK185 := n0_
                have BK210 := n1_
                have HB := n2_
                clear n0_ n1_ n2_
                obtain ⟨i074, hi074, _, hsz74, _⟩ := info_parts info9
                obtain ⟨A74, hcut74, hA74, hC74⟩ := print_drop_of (P := Tryz.prog) Value.string (⟨#[]⟩ : ByteArray) 186 9 .i64 Tryz.underlying186 hi074 hsz74 (some ad191) c2 l2 1 (by omega) (of_decide_eq_true (by first | (with_reducible assumption) | assumption)) HC2.out
                have HR221 := qa (Kd.C_of_reads (h1 := fun _ => rfl) (hA74 _ (Kd.reads_of_C HR2.out)))
                have HC221 := qa hC74
                clear hA74 hC74 hi074 hsz74
                refine start_ (n := 19) (S := fun w' => w'.cell? ⟨gb185, 0, none⟩ = some (.slice A0_0 l0_0.length c0_0) ∧ w'.cell? ⟨gb185, 1, none⟩ = some (.int .i64 a0_1) ∧ w'.cell? ⟨gb210, 0, none⟩ = some (.int .i64 t205) ∧ w'.cell? ⟨gb210, 1, none⟩ = some (.int .i64 t206) ∧ w'.cell? ⟨gb210, 2, none⟩ = some (.string t207) ∧ w'.cell? ⟨gb210, 3, none⟩ = some (.int .i64 t208) ∧ w'.cell? ⟨gb210, 4, none⟩ = some (.string t209)) (ds := []) #[false, false, false, false, false, false, false, false, false, false, false, false, false, false, false, false, false, false, false] (by kernel_rfl) rfl rfl ⟨(blk_cell BK185.out 0).trans rfl, (blk_cell BK185.out 1).trans rfl, (blk_cell BK210.out 0).trans rfl, (blk_cell BK210.out 1).trans rfl, (blk_cell BK210.out 2).trans rfl, (blk_cell BK210.out 3).trans rfl, (blk_cell BK210.out 4).trans rfl⟩ (fun hHeld => ?_); refine with_tabW linhayref08_Go.tab20 linhayref08_Go.bits20 (fun HT_ HW_ => ?_)
                generalize wc.drew = w73 at BK185 BK210 HB HR221 hHeld ⊢
                refine pure_ (i := 1) (N := some 94) (v := ?_) (a' := ?_) #[false, true, false, false, false, false, false, false, false, false, false, false, false, false, false, false, false, false, false] rfl rfl (any_of HT_.out (by kernel_rfl)) (fun _ _ _ h => h) (Or.inl ⟨by rfl, ?_⟩) ?_ ?_
                rotate_left
                ·
                 intro w'
                 go_simp
                 with_reducible rfl
                rotate_left
                ·
                 simp only [Act.put, List.setIfInBounds_toArray, List.set_cons_zero, List.set_cons_succ, i64_w, i32_w]
                 rfl
                refine pure_ (i := 2) (N := some 95) (v := ?_) (a' := ?_) #[false, true, true, false, false, false, false, false, false, false, false, false, false, false, false, false, false, false, false] rfl rfl (any_of HT_.out (by kernel_rfl)) (fun _ _ _ h => h) (Or.inl ⟨by rfl, ?_⟩) ?_ ?_
                rotate_left
                ·
                 intro w'
                 go_simp
                 with_reducible rfl
                rotate_left
                ·
                 simp only [Act.put, List.setIfInBounds_toArray, List.set_cons_zero, List.set_cons_succ, i64_w, i32_w]
                 rfl
                refine pure_ (i := 6) (N := some 99) (v := ?_) (a' := ?_) #[false, true, true, false, false, false, true, false, false, false, false, false, false, false, false, false, false, false, false] rfl rfl (any_of HT_.out (by kernel_rfl)) (fun _ _ _ h => h) (Or.inl ⟨by rfl, ?_⟩) ?_ ?_
                rotate_left
                ·
                 intro w'
                 go_simp
                 with_reducible rfl
                rotate_left
                ·
                 simp only [Act.put, List.setIfInBounds_toArray, List.set_cons_zero, List.set_cons_succ, i64_w, i32_w]
                 rfl
                refine pure_ (i := 7) (N := some 100) (v := ?_) (a' := ?_) #[false, true, true, false, false, false, true, true, false, false, false, false, false, false, false, false, false, false, false] rfl rfl (any_of HT_.out (by kernel_rfl)) (fun _ _ _ h => h) (Or.inl ⟨by rfl, ?_⟩) ?_ ?_
                rotate_left
                ·
                 intro w'
                 go_simp
                 with_reducible rfl
                rotate_left
                ·
                 simp only [Act.put, List.setIfInBounds_toArray, List.set_cons_zero, List.set_cons_succ, i64_w, i32_w]
                 rfl
                refine pure_ (i := 9) (N := some 102) (v := ?_) (a' := ?_) #[false, true, true, false, false, false, true, true, false, true, false, false, false, false, false, false, false, false, false] rfl rfl (any_of HT_.out (by kernel_rfl)) (fun _ _ _ h => h) (Or.inl ⟨by rfl, ?_⟩) ?_ ?_
                rotate_left
                ·
                 intro w'
                 go_simp
                 with_reducible rfl
                rotate_left
                ·
                 simp only [Act.put, List.setIfInBounds_toArray, List.set_cons_zero, List.set_cons_succ, i64_w, i32_w]
                 rfl
                refine pure_ (i := 10) (N := some 103) (v := ?_) (a' := ?_) #[false, true, true, false, false, false, true, true, false, true, true, false, false, false, false, false, false, false, false] rfl rfl (any_of HT_.out (by kernel_rfl)) (fun _ _ _ h => h) (Or.inl ⟨by rfl, ?_⟩) ?_ ?_
                rotate_left
                ·
                 intro w'
                 go_simp
                 with_reducible rfl
                rotate_left
                ·
                 simp only [Act.put, List.setIfInBounds_toArray, List.set_cons_zero, List.set_cons_succ, i64_w, i32_w]
                 rfl
                refine pure_ (i := 11) (N := some 104) (v := ?_) (a' := ?_) #[false, true, true, false, false, false, true, true, false, true, true, true, false, false, false, false, false, false, false] rfl rfl (any_of HT_.out (by kernel_rfl)) (fun _ _ _ h => h) (Or.inl ⟨by rfl, ?_⟩) ?_ ?_
                rotate_left
                ·
                 intro w'
                 go_simp
                 with_reducible rfl
                rotate_left
                ·
                 simp only [Act.put, List.setIfInBounds_toArray, List.set_cons_zero, List.set_cons_succ, i64_w, i32_w]
                 rfl
                refine take_ (i := 0) (N := some 93) (v := ?_) (a' := ?_) #[true, true, true, false, false, false, true, true, false, true, true, true, false, false, false, false, false, false, false] rfl rfl (take_ofW HT_.out HW_.out (by kernel_rfl)) (fun _ _ _ h => h) (Or.inl ⟨by rfl, ?_⟩) hHeld ?_ ?_
                rotate_left
                ·
                 rintro w' ⟨s0, s1, s2, s3, s4, s5, s6⟩
                 go_simp
                 with_reducible rfl
                rotate_left
                ·
                 simp only [Act.put, List.setIfInBounds_toArray, List.set_cons_zero, List.set_cons_succ, i64_w, i32_w]
                 rfl
                refine take_ (i := 3) (N := some 96) (v := ?_) (a' := ?_) #[true, true, true, true, false, false, true, true, false, true, true, true, false, false, false, false, false, false, false] rfl rfl (take_ofW HT_.out HW_.out (by kernel_rfl)) (fun _ _ _ h => h) (Or.inl ⟨by rfl, ?_⟩) hHeld ?_ ?_
                rotate_left
                ·
                 rintro w' ⟨s0, s1, s2, s3, s4, s5, s6⟩
                 go_simp
                 with_reducible rfl
                rotate_left
                ·
                 simp only [Act.put, List.setIfInBounds_toArray, List.set_cons_zero, List.set_cons_succ, i64_w, i32_w]
                 rfl
                refine one_ (i := 4) (N := some 97) #[true, true, true, true, true, false, true, true, false, true, true, true, false, false, false, false, false, false, false] rfl rfl (one_of HT_.out (by kernel_rfl)) (by decide) (fun K hK => ?_)
                refine goes_ Tryz.func143 (by kernel_rfl) rfl #[.string t209] (by rfl) rfl rfl (by (try simp only [List.map_toArray, List.map_cons, List.map_nil]); first | done | rfl | (simp only [List.length_drop, List.length_take]; rfl)) ?_
                with_reducible refine (linhayref04_Parts.calls kj36 t209 t215 _ A66.out).mono ?_
                rintro e w75 ⟨v216, rfl, ho0, hb⟩
                refine ⟨_, rfl, ?_⟩
                have n0_ := qa (Kd.R_lower ho0 (below_size (by repeat (first | (with_reducible first | exact HB.out | apply below_alloc | apply pw_below_drewN | apply below_drew1 | refine below_set ?_ GE185.out | refine below_set ?_ GE210.out) | exact HB.out))))
                have n1_ := qa (blk_below (g := gb185) (o := .cells #[.slice A0_0 l0_0.length c0_0, .int .i64 a0_1] 30 (0, 0)) (by (with_reducible repeat (first | refine blk_drewN ?_ _ | refine blk_drew ?_ | refine blk_alloc ?_ _)); exact BK185.out) hb)
                have n2_ := qa (blk_below (g := gb210) (o := .cells #[.int .i64 t205, .int .i64 t206, .string t207, .int .i64 t208, .string t209] 106 (0, 0)) (by (with_reducible repeat (first | refine blk_drewN ?_ _ | refine blk_drew ?_ | refine blk_alloc ?_ _)); exact BK210.out) hb)
                have n3_ := qa (below_step (by repeat (first | (with_reducible first | exact HB.out | apply below_alloc | apply pw_below_drewN | apply below_drew1 | refine below_set ?_ GE185.out | refine below_set ?_ GE210.out) | exact HB.out)) hb)
                clear BK185
                clear BK210
                clear HB
                have HO217 := n0_
                have BK185 := n1_
                have BK210 := n2_
                have HB := n3_
                clear n0_ n1_ n2_ n3_
                (try clear hb)
                (try clear hb2)
                (try clear hk)
                (try clear hi)
                (try clear ho0)
                obtain ⟨Ao77, co77, eo77⟩ := Kd.R_slice HO217.out
                (first | subst eo77 | (injection eo77 with f1_ f2_ f3_; have f4_ := f1_.symm; have f5_ := f3_.symm; clear f1_ f2_ f3_; subst f4_; subst f5_))
                refine hK.out _ _ ⟨(blk_cell BK185.out 0).trans rfl, (blk_cell BK185.out 1).trans rfl, (blk_cell BK210.out 0).trans rfl, (blk_cell BK210.out 1).trans rfl, (blk_cell BK210.out 2).trans rfl, (blk_cell BK210.out 3).trans rfl, (blk_cell BK210.out 4).trans rfl⟩ (fun hHeld => ?_)
                clear hK K
                refine norm_ (a' := ?_) ?_ ?_
                rotate_left
                ·
                 show Act.put _ (some 97) _ = _
                 simp only [Act.put, List.setIfInBounds_toArray, List.set_cons_zero, List.set_cons_succ, i64_w, i32_w]
                 rfl
                refine one_ (i := 5) (N := some 98) #[true, true, true, true, true, true, true, true, false, true, true, true, false, false, false, false, false, false, false] rfl rfl (one_of HT_.out (by kernel_rfl)) (by decide) (fun K hK => ?_)
                refine Kd.R_append_rows_step Kd.string (w0 := w) w.heap.size (by rfl) (.const (.slice none 0 0)) (.tmp 97) 186 9 (.string ⟨#[]⟩) 16 rfl Tryz.underlying186 info9 rfl (by decide) (by omega) (.slice none 0 0) ([] : List ByteArray) t215 _ _ _ (fun k_ => some k_ ≠ (.slice Ao77 t215.length co77 : Value).ownBlock) (fun _ => False) rfl rfl ?aO ?aR (fun _ _ h => h) (fun _ h => h.elim) ?aF ?aB ?aS ?aL ?_
                (case aR => repeat (first | exact (Kd.R_reads' HO217.out).2.2 | (with_reducible refine Kd.C_alloc ?_ _) | (with_reducible refine Kd.C_drewN ?_ _) | (with_reducible refine Kd.C_drew ?_)))
                (case aB => exact (by repeat (first | (with_reducible first | exact HB.out | apply below_alloc | apply pw_below_drewN | apply below_drew1 | refine below_set ?_ GE185.out | refine below_set ?_ GE210.out) | exact HB.out)))
                (case aF => exact (fun k_ hk => Kd.fresh' (Kd.R_lt (by (with_reducible repeat (first | apply Kd.R_alloc | apply Kd.R_drewN | apply Kd.R_drew)); exact HO217.out)) k_ hk))
                (case aO => exact ((Kd.R_nil _ _ _ _ (fun k_ => some k_ ≠ (.slice Ao77 t215.length co77 : Value).ownBlock))))
                (case aS => exact (below_size (by repeat (first | (with_reducible first | exact HB.out | apply below_alloc | apply pw_below_drewN | apply below_drew1 | refine below_set ?_ GE185.out | refine below_set ?_ GE210.out) | exact HB.out))))
                (case aL => have := LMc67.out; omega)
                intro v219 w76 ho hb hg hat
                rw [← Ny218.out] at ho
                have n0_ := qa (blk_grown (g := gb185) (o := .cells #[.slice A0_0 l0_0.length c0_0, .int .i64 a0_1] 30 (0, 0)) (by (with_reducible repeat (first | refine blk_drewN ?_ _ | refine blk_drew ?_ | refine blk_alloc ?_ _)); exact BK185.out) hg (by simp [Value.ownBlock]))
                have n1_ := qa (blk_grown (g := gb210) (o := .cells #[.int .i64 t205, .int .i64 t206, .string t207, .int .i64 t208, .string t209] 106 (0, 0)) (by (with_reducible repeat (first | refine blk_drewN ?_ _ | refine blk_drew ?_ | refine blk_alloc ?_ _)); exact BK210.out) hg (by simp [Value.ownBlock]))
                have n2_ := qa (Kd.R_after (Kd.R_apart_nil (by (with_reducible repeat (first | apply Kd.R_alloc | apply Kd.R_drewN | apply Kd.R_drew)); exact HO217.out)) hg hat)
                have n3_ := qa (hb)
                have n4_ := qa (ho)
                clear BK185
                clear BK210
                clear HO217
                clear HB
                have BK185 := n0_
                have BK210 := n1_
                have HO217 := n2_
                have HB := n3_
                have HO220 := n4_
                clear n0_ n1_ n2_ n3_ n4_
                clear ho hb hg hat
                refine hK.out _ _ ⟨(blk_cell BK185.out 0).trans rfl, (blk_cell BK185.out 1).trans rfl, (blk_cell BK210.out 0).trans rfl, (blk_cell BK210.out 1).trans rfl, (blk_cell BK210.out 2).trans rfl, (blk_cell BK210.out 3).trans rfl, (blk_cell BK210.out 4).trans rfl⟩ (fun hHeld => ?_)
                clear hK K
                refine norm_ (a' := ?_) ?_ ?_
                rotate_left
                ·
                 show Act.put _ (some 98) _ = _
                 simp only [Act.put, List.setIfInBounds_toArray, List.set_cons_zero, List.set_cons_succ, i64_w, i32_w]
                 rfl
                refine one_ (i := 8) (N := some 101) #[true, true, true, true, true, true, true, true, true, true, true, true, false, false, false, false, false, false, false] rfl rfl (one_of HT_.out (by kernel_rfl)) (by decide) (fun K hK => ?_)
                refine Kd.R_append_rows_step Kd.string (w0 := w) w.heap.size (by rfl) (.tmp 98) (.tmp 100) 186 9 (.string ⟨#[]⟩) 16 rfl Tryz.underlying186 info9 rfl (by decide) (by omega) v219 y218 (l2.drop 1) _ _ _ (fun k_ => some k_ ≠ (.slice Ao77 t215.length co77 : Value).ownBlock) (fun _ => False) rfl rfl ?aO ?aR (fun _ _ h => h) (fun _ h => h.elim) ?aF ?aB ?aS ?aL ?_
                (case aR => first | (rw [← show (l2.drop 1).length = (l2.length - 1) from List.length_drop]; repeat (first | exact (Kd.C_below HR221.out HB.out) | (with_reducible refine Kd.C_alloc ?_ _) | (with_reducible refine Kd.C_drewN ?_ _) | (with_reducible refine Kd.C_drew ?_))) | (repeat (first | exact (Kd.C_below HR221.out HB.out) | (with_reducible refine Kd.C_alloc ?_ _) | (with_reducible refine Kd.C_drewN ?_ _) | (with_reducible refine Kd.C_drew ?_))))
                (case aB => exact (by repeat (first | (with_reducible first | exact HB.out | apply below_alloc | apply pw_below_drewN | apply below_drew1 | refine below_set ?_ GE185.out | refine below_set ?_ GE210.out) | exact HB.out)))
                (case aF => exact (fun k_ hk => Kd.fresh' (Kd.R_lt (by (with_reducible repeat (first | apply Kd.R_alloc | apply Kd.R_drewN | apply Kd.R_drew)); exact HO217.out)) k_ hk))
                (case aO => exact (by (with_reducible repeat (first | apply Kd.R_alloc | apply Kd.R_drewN | apply Kd.R_drew)); exact HO220.out))
                (case aS => exact (below_size (by repeat (first | (with_reducible first | exact HB.out | apply below_alloc | apply pw_below_drewN | apply below_drew1 | refine below_set ?_ GE185.out | refine below_set ?_ GE210.out) | exact HB.out))))
                (case aL => have := LMc69.out; have hlx_ := (show (l2.drop 1).length = (l2.length - 1) from List.length_drop); omega)
                intro v223 w78 ho hb hg hat
                rw [← Ny222.out] at ho
                have n0_ := qa (blk_grown (g := gb185) (o := .cells #[.slice A0_0 l0_0.length c0_0, .int .i64 a0_1] 30 (0, 0)) (by (with_reducible repeat (first | refine blk_drewN ?_ _ | refine blk_drew ?_ | refine blk_alloc ?_ _)); exact BK185.out) hg (Kd.R_ne HO220.out BK185.out (by decide)))
                have n1_ := qa (blk_grown (g := gb210) (o := .cells #[.int .i64 t205, .int .i64 t206, .string t207, .int .i64 t208, .string t209] 106 (0, 0)) (by (with_reducible repeat (first | refine blk_drewN ?_ _ | refine blk_drew ?_ | refine blk_alloc ?_ _)); exact BK210.out) hg (Kd.R_ne HO220.out BK210.out (by decide)))
                have n2_ := qa (Kd.R_after (ok := (fun _ => True)) (by (with_reducible repeat (first | apply Kd.R_alloc | apply Kd.R_drewN | apply Kd.R_drew)); exact HO217.out) hg hat)
                have n3_ := qa (hb)
                have n4_ := qa (ho)
                clear BK185
                clear BK210
                clear HO217
                clear HB
                clear HO220
                have BK185 := n0_
                have BK210 := n1_
                have HO217 := n2_
                have HB := n3_
                have HO224 := n4_
                clear n0_ n1_ n2_ n3_ n4_
                clear ho hb hg hat
                obtain ⟨Ao79, co79, eo79⟩ := Kd.R_slice HO224.out
                (first | subst eo79 | (injection eo79 with f1_ f2_ f3_; have f4_ := f1_.symm; have f5_ := f3_.symm; clear f1_ f2_ f3_; subst f4_; subst f5_))
                refine hK.out _ _ ⟨(blk_cell BK185.out 0).trans rfl, (blk_cell BK185.out 1).trans rfl, (blk_cell BK210.out 0).trans rfl, (blk_cell BK210.out 1).trans rfl, (blk_cell BK210.out 2).trans rfl, (blk_cell BK210.out 3).trans rfl, (blk_cell BK210.out 4).trans rfl⟩ (fun hHeld => ?_)
                clear hK K
                refine norm_ (a' := ?_) ?_ ?_
                rotate_left
                ·
                 show Act.put _ (some 101) _ = _
                 simp only [Act.put, List.setIfInBounds_toArray, List.set_cons_zero, List.set_cons_succ, i64_w, i32_w]
                 rfl
                refine one_ (i := 12) (N := some 105) #[true, true, true, true, true, true, true, true, true, true, true, true, true, false, false, false, false, false, false] rfl rfl (one_of HT_.out (by kernel_rfl)) (by decide) (fun K hK => ?_)
                refine goes_ Tryz.func144 (by kernel_rfl) rfl #[.agg #[.slice A0_0 l0_0.length c0_0, .int .i64 a0_1], .int .i64 1, .slice Ao79 y222.length co79, .bool a3, .int .i64 (wrap64 (a4 + 1))] (by rfl) rfl rfl (by (try simp only [List.map_toArray, List.map_cons, List.map_nil]); first | done | rfl | (simp only [List.length_drop, List.length_take]; rfl)) ?_
                with_reducible refine (ih kj36 (by have := HJ36.out; omega) _ _ l0_0 a0_1 1 _ _ y222 a3 (wrap64 (a4 + 1)) t225 t226 t227 _ ?side1 ?side2 ?side3 ?side4 A70.out).mono ?_
                (case side1 => repeat (first | exact (Kd.C_below HR0_0.out HB.out) | (with_reducible refine Kd.C_alloc ?_ _) | (with_reducible refine Kd.C_drewN ?_ _) | (with_reducible refine Kd.C_drew ?_)))
                (case side2 => exact HC0_0.out)
                (case side3 => repeat (first | exact (Kd.R_reads' HO224.out).2.2 | (with_reducible refine Kd.C_alloc ?_ _) | (with_reducible refine Kd.C_drewN ?_ _) | (with_reducible refine Kd.C_drew ?_)))
                (case side4 => exact (Kd.R_reads' HO224.out).2.1)
                rintro e w80 ⟨rfl, hb⟩
                refine ⟨_, rfl, ?_⟩
                have n0_ := qa (Kd.R_below (by (with_reducible repeat (first | apply Kd.R_alloc | apply Kd.R_drewN | apply Kd.R_drew)); exact HO217.out) hb)
                have n1_ := qa (Kd.R_below (by (with_reducible repeat (first | apply Kd.R_alloc | apply Kd.R_drewN | apply Kd.R_drew)); exact HO224.out) hb)
                have n2_ := qa (blk_below (g := gb185) (o := .cells #[.slice A0_0 l0_0.length c0_0, .int .i64 a0_1] 30 (0, 0)) (by (with_reducible repeat (first | refine blk_drewN ?_ _ | refine blk_drew ?_ | refine blk_alloc ?_ _)); exact BK185.out) hb)
                have n3_ := qa (blk_below (g := gb210) (o := .cells #[.int .i64 t205, .int .i64 t206, .string t207, .int .i64 t208, .string t209] 106 (0, 0)) (by (with_reducible repeat (first | refine blk_drewN ?_ _ | refine blk_drew ?_ | refine blk_alloc ?_ _)); exact BK210.out) hb)
                have n4_ := qa (below_step (by repeat (first | (with_reducible first | exact HB.out | apply below_alloc | apply pw_below_drewN | apply below_drew1 | refine below_set ?_ GE185.out | refine below_set ?_ GE210.out) | exact HB.out)) hb)
                clear HO217
                clear HO224
                clear BK185
                clear BK210
                clear HB
                have HO217 := n0_
                have HO224 := n1_
                have BK185 := n2_
                have BK210 := n3_
                have HB := n4_
                clear n0_ n1_ n2_ n3_ n4_
                (try clear hb)
                (try clear hb2)
                (try clear hk)
                (try clear hi)
                refine hK.out _ _ ⟨(blk_cell BK185.out 0).trans rfl, (blk_cell BK185.out 1).trans rfl, (blk_cell BK210.out 0).trans rfl, (blk_cell BK210.out 1).trans rfl, (blk_cell BK210.out 2).trans rfl, (blk_cell BK210.out 3).trans rfl, (blk_cell BK210.out 4).trans rfl⟩ (fun hHeld => ?_)
                clear hK K
                refine norm_ (a' := ?_) ?_ ?_
                rotate_left
                ·
                 show Act.put _ (some 105) _ = _
                 simp only [Act.put, List.setIfInBounds_toArray, List.set_cons_zero, List.set_cons_succ, i64_w, i32_w]
                 rfl
                refine pure_ (i := 13) (N := some 106) (v := ?_) (a' := ?_) #[true, true, true, true, true, true, true, true, true, true, true, true, true, true, false, false, false, false, false] rfl rfl (any_of HT_.out (by kernel_rfl)) (fun _ _ _ h => h) (Or.inl ⟨by rfl, ?_⟩) ?_ ?_
                rotate_left
                ·
                 intro w'
                 go_simp
                 with_reducible rfl
                rotate_left
                ·
                 simp only [Act.put, List.setIfInBounds_toArray, List.set_cons_zero, List.set_cons_succ, i64_w, i32_w]
                 rfl
                refine pure_ (i := 14) (N := some 107) (v := ?_) (a' := ?_) #[true, true, true, true, true, true, true, true, true, true, true, true, true, true, true, false, false, false, false] rfl rfl (any_of HT_.out (by kernel_rfl)) (fun _ _ _ h => h) (Or.inl ⟨by rfl, ?_⟩) ?_ ?_
                rotate_left
                ·
                 intro w'
                 go_simp
                 with_reducible rfl
                rotate_left
                ·
                 simp only [Act.put, List.setIfInBounds_toArray, List.set_cons_zero, List.set_cons_succ, i64_w, i32_w]
                 rfl
                refine pure_ (i := 15) (N := some 108) (v := ?_) (a' := ?_) #[true, true, true, true, true, true, true, true, true, true, true, true, true, true, true, true, false, false, false] rfl rfl (any_of HT_.out (by kernel_rfl)) (fun _ _ _ h => h) (Or.inl ⟨by rfl, ?_⟩) ?_ ?_
                rotate_left
                ·
                 intro w'
                 go_simp
                 with_reducible rfl
                rotate_left
                ·
                 simp only [Act.put, List.setIfInBounds_toArray, List.set_cons_zero, List.set_cons_succ, i64_w, i32_w]
                 rfl
                refine pure_ (i := 16) (N := some 10) (v := ?_) (a' := ?_) #[true, true, true, true, true, true, true, true, true, true, true, true, true, true, true, true, true, false, false] rfl rfl (any_of HT_.out (by kernel_rfl)) (fun _ _ _ h => h) (Or.inl ⟨by rfl, ?_⟩) ?_ ?_
                rotate_left
                ·
                 intro w'
                 go_simp
                 with_reducible rfl
                rotate_left
                ·
                 simp only [Act.put, List.setIfInBounds_toArray, List.set_cons_zero, List.set_cons_succ, i64_w, i32_w]
                 rfl
                refine pure_ (i := 17) (N := some 11) (v := ?_) (a' := ?_) #[true, true, true, true, true, true, true, true, true, true, true, true, true, true, true, true, true, true, false] rfl rfl (any_of HT_.out (by kernel_rfl)) (fun _ _ _ h => h) (Or.inl ⟨by rfl, ?_⟩) ?_ ?_
                rotate_left
                ·
                 intro w'
                 go_simp
                 with_reducible rfl
                rotate_left
                ·
                 simp only [Act.put, List.setIfInBounds_toArray, List.set_cons_zero, List.set_cons_succ, i64_w, i32_w]
                 rfl
                refine pure_ (i := 18) (N := some 12) (v := ?_) (a' := ?_) #[true, true, true, true, true, true, true, true, true, true, true, true, true, true, true, true, true, true, true] rfl rfl (any_of HT_.out (by kernel_rfl)) (fun _ _ _ h => h) (Or.inl ⟨by rfl, ?_⟩) ?_ ?_
                rotate_left
                ·
                 intro w'
                 go_simp
                 with_reducible rfl
                rotate_left
                ·
                 simp only [Act.put, List.setIfInBounds_toArray, List.set_cons_zero, List.set_cons_succ, i64_w, i32_w]
                 rfl
                refine done_ (done_of HT_.out (by kernel_rfl)) ?_
                try go_wp2
                go_ret3
                exact ⟨by first | rfl | (simp [errW_none, errW_some] <;> rfl) | (simp [*, errW_none, errW_some] <;> rfl) | (simp [errW_none, errW_some, bne_nil]; done) | (simp [*, bne_nil]; done) | (simp [bne]; done), by repeat (first | (with_reducible first | exact HB.out | apply below_alloc | apply pw_below_drewN | apply below_drew1 | refine below_set ?_ GE185.out | refine below_set ?_ GE210.out) | exact HB.out)⟩
               ·
                rw [if_neg c69] at H
                exact absurd H (by simp)
              ·
               rw [if_neg c68] at H
               exact absurd H (by simp)
             ·
              rw [if_neg c67] at H
              exact absurd H (by simp)
            ·
             rw [if_neg c65] at H
             have c65b0 : ((bt t209 0) == 47) = false := beq_eq_false_iff_ne.mpr c65
             have c65b1 : ((bt t209 0) != 47) = true := bne_iff_ne.mpr c65
             replace H := Option.bind_eq_some_iff.mp H
             obtain ⟨t228, A810, H⟩ := H
             replace H : (if ([] : List ByteArray).length + t228.length < 8796093022208 then ((some (([] : List ByteArray) ++ t228 : List ByteArray)).bind fun y231 => (if 1 ≤ (l2.length : Int) then (if y231.length + (l2.drop 1).length < 8796093022208 then ((linhayref08_Go.f kj36 l0_0 a0_1 a1 (y231 ++ (l2.drop 1)) a3 (wrap64 (a4 + 1))).bind fun bt238 => (some (bt238.1, bt238.2.1, bt238.2.2))) else (none)) else (none))) else (none)) = some (r1, r2, r3) := H
             have A81 := qa A810
             clear A810
             by_cases c82 : ([] : List ByteArray).length + t228.length < 8796093022208
             ·
              rw [if_pos c82] at H
              have LMc82 := qa c82
              clear c82
              obtain ⟨y231, hy231⟩ : ∃ y_ : List ByteArray, y_ = (([] : List ByteArray) ++ t228) := ⟨_, rfl⟩
              replace H : (if 1 ≤ (l2.length : Int) then (if y231.length + (l2.drop 1).length < 8796093022208 then ((linhayref08_Go.f kj36 l0_0 a0_1 a1 (y231 ++ (l2.drop 1)) a3 (wrap64 (a4 + 1))).bind fun bt238 => (some (bt238.1, bt238.2.1, bt238.2.2))) else (none)) else (none)) = some (r1, r2, r3) := by first | (rw [hy231]; with_reducible exact H) | (have H2_ := (Option.bind_some _ _).symm.trans H; rw [hy231]; with_reducible exact H2_) | (have H2_ := (Option.bind_some _ _).symm.trans H; with_reducible exact H2_) | with_reducible exact H | (rw [hy231]; exact H) | exact H
              have Ny231 := qa hy231
              clear hy231
              by_cases c83 : 1 ≤ (l2.length : Int)
              ·
               rw [if_pos c83] at H
               have c83b0 := eq_true c83
               have c83b1 : decide (1 ≤ (l2.length : Int)) = true := decide_eq_true c83
               clear c83
               by_cases c84 : y231.length + (l2.drop 1).length < 8796093022208
               ·
                rw [if_pos c84] at H
                have LMc84 := qa c84
                clear c84
                obtain ⟨y235, hy235⟩ : ∃ y_ : List ByteArray, y_ = (y231 ++ (l2.drop 1)) := ⟨_, rfl⟩
                replace H : ((linhayref08_Go.f kj36 l0_0 a0_1 a1 y235 a3 (wrap64 (a4 + 1))).bind fun bt238 => (some (bt238.1, bt238.2.1, bt238.2.2))) = some (r1, r2, r3) := by first | (rw [hy235]; with_reducible exact H) | (have H2_ := (Option.bind_some _ _).symm.trans H; rw [hy235]; with_reducible exact H2_) | (have H2_ := (Option.bind_some _ _).symm.trans H; with_reducible exact H2_) | with_reducible exact H | (rw [hy235]; exact H) | exact H
                have Ny235 := qa hy235
                clear hy235
                replace H := Option.bind_eq_some_iff.mp H
                obtain ⟨⟨t238, t239, t240⟩, A850, H⟩ := H
                replace H : (some (t238, t239, t240)) = some (r1, r2, r3) := H
                have A85 := qa A850
                clear A850
                simp only [Option.some.injEq, Prod.mk.injEq] at H
                obtain ⟨rfl, rfl, rfl⟩ := H
                have hnb86 := NB210_185.out
                have hnc86 := NB185_210.out
                have hcz87_0 : wc.cell? ⟨gb210, 0, none⟩ = some (.int .i64 t205) := (blk_cell BK210.out 0).trans rfl
                have hcz87_1 : wc.cell? ⟨gb210, 1, none⟩ = some (.int .i64 t206) := (blk_cell BK210.out 1).trans rfl
                have hcz87_2 : wc.cell? ⟨gb210, 2, none⟩ = some (.string t207) := (blk_cell BK210.out 2).trans rfl
                have hcz87_3 : wc.cell? ⟨gb210, 3, none⟩ = some (.int .i64 t208) := (blk_cell BK210.out 3).trans rfl
                have hcz87_4 : wc.cell? ⟨gb210, 4, none⟩ = some (.string t209) := (blk_cell BK210.out 4).trans rfl
                have hfz87_0 := blk_frozen BK210.out 0
                have hfz87_1 := blk_frozen BK210.out 1
                have hfz87_2 := blk_frozen BK210.out 2
                have hfz87_3 := blk_frozen BK210.out 3
                have hfz87_4 := blk_frozen BK210.out 4
                have p64 : 0 ≤ (0 : Int) := (by omega)
                have q64 : 0 < t209.size := (by have : (0 : Int) < (t209.size : Int) := of_decide_eq_true (by first | (with_reducible assumption) | assumption); omega)
                have hx64 : ∀ h : 0 < t209.size, ((t209[0]'h).toNat : Int) = bt t209 0 := bt_at t209 0
                clear p64
                have qi64 : (0 < (t209.size : Int)) = True := eq_true (of_decide_eq_true (by first | (with_reducible assumption) | assumption))
                replace q64 := eq_true q64
                try go_wp2
                have n0_ := qa (blk_drew BK185.out)
                have n1_ := qa (blk_drew BK210.out)
                have n2_ := qa (below_drew1 HB.out)
                clear BK185
                clear BK210
                clear HB
                have BK185 := n0_
                have BK210 := n1_
                have HB := n2_
                clear n0_ n1_ n2_
                obtain ⟨i089, hi089, _, hsz89, _⟩ := info_parts info9
                obtain ⟨A89, hcut89, hA89, hC89⟩ := print_drop_of (P := Tryz.prog) Value.string (⟨#[]⟩ : ByteArray) 186 9 .i64 Tryz.underlying186 hi089 hsz89 (some ad191) c2 l2 1 (by omega) (of_decide_eq_true (by first | (with_reducible assumption) | assumption)) HC2.out
                have HR234 := qa (Kd.C_of_reads (h1 := fun _ => rfl) (hA89 _ (Kd.reads_of_C HR2.out)))
                have HC234 := qa hC89
                clear hA89 hC89 hi089 hsz89
                refine start_ (n := 19) (S := fun w' => w'.cell? ⟨gb185, 0, none⟩ = some (.slice A0_0 l0_0.length c0_0) ∧ w'.cell? ⟨gb185, 1, none⟩ = some (.int .i64 a0_1) ∧ w'.cell? ⟨gb210, 0, none⟩ = some (.int .i64 t205) ∧ w'.cell? ⟨gb210, 1, none⟩ = some (.int .i64 t206) ∧ w'.cell? ⟨gb210, 2, none⟩ = some (.string t207) ∧ w'.cell? ⟨gb210, 3, none⟩ = some (.int .i64 t208) ∧ w'.cell? ⟨gb210, 4, none⟩ = some (.string t209)) (ds := []) #[false, false, false, false, false, false, false, false, false, false, false, false, false, false, false, false, false, false, false] (by kernel_rfl) rfl rfl ⟨(blk_cell BK185.out 0).trans rfl, (blk_cell BK185.out 1).trans rfl, (blk_cell BK210.out 0).trans rfl, (blk_cell BK210.out 1).trans rfl, (blk_cell BK210.out 2).trans rfl, (blk_cell BK210.out 3).trans rfl, (blk_cell BK210.out 4).trans rfl⟩ (fun hHeld => ?_); refine with_tabW linhayref08_Go.tab20 linhayref08_Go.bits20 (fun HT_ HW_ => ?_)
                generalize wc.drew = w88 at BK185 BK210 HB HR234 hHeld ⊢
                refine pure_ (i := 1) (N := some 94) (v := ?_) (a' := ?_) #[false, true, false, false, false, false, false, false, false, false, false, false, false, false, false, false, false, false, false] rfl rfl (any_of HT_.out (by kernel_rfl)) (fun _ _ _ h => h) (Or.inl ⟨by rfl, ?_⟩) ?_ ?_
                rotate_left
                ·
                 intro w'
                 go_simp
                 with_reducible rfl
                rotate_left
                ·
                 simp only [Act.put, List.setIfInBounds_toArray, List.set_cons_zero, List.set_cons_succ, i64_w, i32_w]
                 rfl
                refine pure_ (i := 2) (N := some 95) (v := ?_) (a' := ?_) #[false, true, true, false, false, false, false, false, false, false, false, false, false, false, false, false, false, false, false] rfl rfl (any_of HT_.out (by kernel_rfl)) (fun _ _ _ h => h) (Or.inl ⟨by rfl, ?_⟩) ?_ ?_
                rotate_left
                ·
                 intro w'
                 go_simp
                 with_reducible rfl
                rotate_left
                ·
                 simp only [Act.put, List.setIfInBounds_toArray, List.set_cons_zero, List.set_cons_succ, i64_w, i32_w]
                 rfl
                refine pure_ (i := 6) (N := some 99) (v := ?_) (a' := ?_) #[false, true, true, false, false, false, true, false, false, false, false, false, false, false, false, false, false, false, false] rfl rfl (any_of HT_.out (by kernel_rfl)) (fun _ _ _ h => h) (Or.inl ⟨by rfl, ?_⟩) ?_ ?_
                rotate_left
                ·
                 intro w'
                 go_simp
                 with_reducible rfl
                rotate_left
                ·
                 simp only [Act.put, List.setIfInBounds_toArray, List.set_cons_zero, List.set_cons_succ, i64_w, i32_w]
                 rfl
                refine pure_ (i := 7) (N := some 100) (v := ?_) (a' := ?_) #[false, true, true, false, false, false, true, true, false, false, false, false, false, false, false, false, false, false, false] rfl rfl (any_of HT_.out (by kernel_rfl)) (fun _ _ _ h => h) (Or.inl ⟨by rfl, ?_⟩) ?_ ?_
                rotate_left
                ·
                 intro w'
                 go_simp
                 with_reducible rfl
                rotate_left
                ·
                 simp only [Act.put, List.setIfInBounds_toArray, List.set_cons_zero, List.set_cons_succ, i64_w, i32_w]
                 rfl
                refine pure_ (i := 9) (N := some 102) (v := ?_) (a' := ?_) #[false, true, true, false, false, false, true, true, false, true, false, false, false, false, false, false, false, false, false] rfl rfl (any_of HT_.out (by kernel_rfl)) (fun _ _ _ h => h) (Or.inl ⟨by rfl, ?_⟩) ?_ ?_
                rotate_left
                ·
                 intro w'
                 go_simp
                 with_reducible rfl
                rotate_left
                ·
                 simp only [Act.put, List.setIfInBounds_toArray, List.set_cons_zero, List.set_cons_succ, i64_w, i32_w]
                 rfl
                refine pure_ (i := 10) (N := some 103) (v := ?_) (a' := ?_) #[false, true, true, false, false, false, true, true, false, true, true, false, false, false, false, false, false, false, false] rfl rfl (any_of HT_.out (by kernel_rfl)) (fun _ _ _ h => h) (Or.inl ⟨by rfl, ?_⟩) ?_ ?_
                rotate_left
                ·
                 intro w'
                 go_simp
                 with_reducible rfl
                rotate_left
                ·
                 simp only [Act.put, List.setIfInBounds_toArray, List.set_cons_zero, List.set_cons_succ, i64_w, i32_w]
                 rfl
                refine pure_ (i := 11) (N := some 104) (v := ?_) (a' := ?_) #[false, true, true, false, false, false, true, true, false, true, true, true, false, false, false, false, false, false, false] rfl rfl (any_of HT_.out (by kernel_rfl)) (fun _ _ _ h => h) (Or.inl ⟨by rfl, ?_⟩) ?_ ?_
                rotate_left
                ·
                 intro w'
                 go_simp
                 with_reducible rfl
                rotate_left
                ·
                 simp only [Act.put, List.setIfInBounds_toArray, List.set_cons_zero, List.set_cons_succ, i64_w, i32_w]
                 rfl
                refine take_ (i := 0) (N := some 93) (v := ?_) (a' := ?_) #[true, true, true, false, false, false, true, true, false, true, true, true, false, false, false, false, false, false, false] rfl rfl (take_ofW HT_.out HW_.out (by kernel_rfl)) (fun _ _ _ h => h) (Or.inl ⟨by rfl, ?_⟩) hHeld ?_ ?_
                rotate_left
                ·
                 rintro w' ⟨s0, s1, s2, s3, s4, s5, s6⟩
                 go_simp
                 with_reducible rfl
                rotate_left
                ·
                 simp only [Act.put, List.setIfInBounds_toArray, List.set_cons_zero, List.set_cons_succ, i64_w, i32_w]
                 rfl
                refine take_ (i := 3) (N := some 96) (v := ?_) (a' := ?_) #[true, true, true, true, false, false, true, true, false, true, true, true, false, false, false, false, false, false, false] rfl rfl (take_ofW HT_.out HW_.out (by kernel_rfl)) (fun _ _ _ h => h) (Or.inl ⟨by rfl, ?_⟩) hHeld ?_ ?_
                rotate_left
                ·
                 rintro w' ⟨s0, s1, s2, s3, s4, s5, s6⟩
                 go_simp
                 with_reducible rfl
                rotate_left
                ·
                 simp only [Act.put, List.setIfInBounds_toArray, List.set_cons_zero, List.set_cons_succ, i64_w, i32_w]
                 rfl
                refine one_ (i := 4) (N := some 97) #[true, true, true, true, true, false, true, true, false, true, true, true, false, false, false, false, false, false, false] rfl rfl (one_of HT_.out (by kernel_rfl)) (by decide) (fun K hK => ?_)
                refine goes_ Tryz.func143 (by kernel_rfl) rfl #[.string t209] (by rfl) rfl rfl (by (try simp only [List.map_toArray, List.map_cons, List.map_nil]); first | done | rfl | (simp only [List.length_drop, List.length_take]; rfl)) ?_
                with_reducible refine (linhayref04_Parts.calls kj36 t209 t228 _ A81.out).mono ?_
                rintro e w90 ⟨v229, rfl, ho0, hb⟩
                refine ⟨_, rfl, ?_⟩
                have n0_ := qa (Kd.R_lower ho0 (below_size (by repeat (first | (with_reducible first | exact HB.out | apply below_alloc | apply pw_below_drewN | apply below_drew1 | refine below_set ?_ GE185.out | refine below_set ?_ GE210.out) | exact HB.out))))
                have n1_ := qa (blk_below (g := gb185) (o := .cells #[.slice A0_0 l0_0.length c0_0, .int .i64 a0_1] 30 (0, 0)) (by (with_reducible repeat (first | refine blk_drewN ?_ _ | refine blk_drew ?_ | refine blk_alloc ?_ _)); exact BK185.out) hb)
                have n2_ := qa (blk_below (g := gb210) (o := .cells #[.int .i64 t205, .int .i64 t206, .string t207, .int .i64 t208, .string t209] 106 (0, 0)) (by (with_reducible repeat (first | refine blk_drewN ?_ _ | refine blk_drew ?_ | refine blk_alloc ?_ _)); exact BK210.out) hb)
                have n3_ := qa (below_step (by repeat (first | (with_reducible first | exact HB.out | apply below_alloc | apply pw_below_drewN | apply below_drew1 | refine below_set ?_ GE185.out | refine below_set ?_ GE210.out) | exact HB.out)) hb)
                clear BK185
                clear BK210
                clear HB
                have HO230 := n0_
                have BK185 := n1_
                have BK210 := n2_
                have HB := n3_
                clear n0_ n1_ n2_ n3_
                (try clear hb)
                (try clear hb2)
                (try clear hk)
                (try clear hi)
                (try clear ho0)
                obtain ⟨Ao92, co92, eo92⟩ := Kd.R_slice HO230.out
                (first | subst eo92 | (injection eo92 with f1_ f2_ f3_; have f4_ := f1_.symm; have f5_ := f3_.symm; clear f1_ f2_ f3_; subst f4_; subst f5_))
                refine hK.out _ _ ⟨(blk_cell BK185.out 0).trans rfl, (blk_cell BK185.out 1).trans rfl, (blk_cell BK210.out 0).trans rfl, (blk_cell BK210.out 1).trans rfl, (blk_cell BK210.out 2).trans rfl, (blk_cell BK210.out 3).trans rfl, (blk_cell BK210.out 4).trans rfl⟩ (fun hHeld => ?_)
                clear hK K
                refine norm_ (a' := ?_) ?_ ?_
                rotate_left
                ·
                 show Act.put _ (some 97) _ = _
                 simp only [Act.put, List.setIfInBounds_toArray, List.set_cons_zero, List.set_cons_succ, i64_w, i32_w]
                 rfl
                refine one_ (i := 5) (N := some 98) #[true, true, true, true, true, true, true, true, false, true, true, true, false, false, false, false, false, false, false] rfl rfl (one_of HT_.out (by kernel_rfl)) (by decide) (fun K hK => ?_)
                refine Kd.R_append_rows_step Kd.string (w0 := w) w.heap.size (by rfl) (.const (.slice none 0 0)) (.tmp 97) 186 9 (.string ⟨#[]⟩) 16 rfl Tryz.underlying186 info9 rfl (by decide) (by omega) (.slice none 0 0) ([] : List ByteArray) t228 _ _ _ (fun k_ => some k_ ≠ (.slice Ao92 t228.length co92 : Value).ownBlock) (fun _ => False) rfl rfl ?aO ?aR (fun _ _ h => h) (fun _ h => h.elim) ?aF ?aB ?aS ?aL ?_
                (case aR => repeat (first | exact (Kd.R_reads' HO230.out).2.2 | (with_reducible refine Kd.C_alloc ?_ _) | (with_reducible refine Kd.C_drewN ?_ _) | (with_reducible refine Kd.C_drew ?_)))
                (case aB => exact (by repeat (first | (with_reducible first | exact HB.out | apply below_alloc | apply pw_below_drewN | apply below_drew1 | refine below_set ?_ GE185.out | refine below_set ?_ GE210.out) | exact HB.out)))
                (case aF => exact (fun k_ hk => Kd.fresh' (Kd.R_lt (by (with_reducible repeat (first | apply Kd.R_alloc | apply Kd.R_drewN | apply Kd.R_drew)); exact HO230.out)) k_ hk))
                (case aO => exact ((Kd.R_nil _ _ _ _ (fun k_ => some k_ ≠ (.slice Ao92 t228.length co92 : Value).ownBlock))))
                (case aS => exact (below_size (by repeat (first | (with_reducible first | exact HB.out | apply below_alloc | apply pw_below_drewN | apply below_drew1 | refine below_set ?_ GE185.out | refine below_set ?_ GE210.out) | exact HB.out))))
                (case aL => have := LMc82.out; omega)
                intro v232 w91 ho hb hg hat
                rw [← Ny231.out] at ho
                have n0_ := qa (blk_grown (g := gb185) (o := .cells #[.slice A0_0 l0_0.length c0_0, .int .i64 a0_1] 30 (0, 0)) (by (with_reducible repeat (first | refine blk_drewN ?_ _ | refine blk_drew ?_ | refine blk_alloc ?_ _)); exact BK185.out) hg (by simp [Value.ownBlock]))
                have n1_ := qa (blk_grown (g := gb210) (o := .cells #[.int .i64 t205, .int .i64 t206, .string t207, .int .i64 t208, .string t209] 106 (0, 0)) (by (with_reducible repeat (first | refine blk_drewN ?_ _ | refine blk_drew ?_ | refine blk_alloc ?_ _)); exact BK210.out) hg (by simp [Value.ownBlock]))
                have n2_ := qa (Kd.R_after (Kd.R_apart_nil (by (with_reducible repeat (first | apply Kd.R_alloc | apply Kd.R_drewN | apply Kd.R_drew)); exact HO230.out)) hg hat)
                have n3_ := qa (hb)
                have n4_ := qa (ho)
                clear BK185
                clear BK210
                clear HO230
                clear HB
                have BK185 := n0_
                have BK210 := n1_
                have HO230 := n2_
                have HB := n3_
                have HO233 := n4_
                clear n0_ n1_ n2_ n3_ n4_
                clear ho hb hg hat
                refine hK.out _ _ ⟨(blk_cell BK185.out 0).trans rfl, (blk_cell BK185.out 1).trans rfl, (blk_cell BK210.out 0).trans rfl, (blk_cell BK210.out 1).trans rfl, (blk_cell BK210.out 2).trans rfl, (blk_cell BK210.out 3).trans rfl, (blk_cell BK210.out 4).trans rfl⟩ (fun hHeld => ?_)
                clear hK K
                refine norm_ (a' := ?_) ?_ ?_
                rotate_left
                ·
                 show Act.put _ (some 98) _ = _
                 simp only [Act.put, List.setIfInBounds_toArray, List.set_cons_zero, List.set_cons_succ, i64_w, i32_w]
                 rfl
                refine one_ (i := 8) (N := some 101) #[true, true, true, true, true, true, true, true, true, true, true, true, false, false, false, false, false, false, false] rfl rfl (one_of HT_.out (by kernel_rfl)) (by decide) (fun K hK => ?_)
                refine Kd.R_append_rows_step Kd.string (w0 := w) w.heap.size (by rfl) (.tmp 98) (.tmp 100) 186 9 (.string ⟨#[]⟩) 16 rfl Tryz.underlying186 info9 rfl (by decide) (by omega) v232 y231 (l2.drop 1) _ _ _ (fun k_ => some k_ ≠ (.slice Ao92 t228.length co92 : Value).ownBlock) (fun _ => False) rfl rfl ?aO ?aR (fun _ _ h => h) (fun _ h => h.elim) ?aF ?aB ?aS ?aL ?_
                (case aR => first | (rw [← show (l2.drop 1).length = (l2.length - 1) from List.length_drop]; repeat (first | exact (Kd.C_below HR234.out HB.out) | (with_reducible refine Kd.C_alloc ?_ _) | (with_reducible refine Kd.C_drewN ?_ _) | (with_reducible refine Kd.C_drew ?_))) | (repeat (first | exact (Kd.C_below HR234.out HB.out) | (with_reducible refine Kd.C_alloc ?_ _) | (with_reducible refine Kd.C_drewN ?_ _) | (with_reducible refine Kd.C_drew ?_))))
                (case aB => exact (by repeat (first | (with_reducible first | exact HB.out | apply below_alloc | apply pw_below_drewN | apply below_drew1 | refine below_set ?_ GE185.out | refine below_set ?_ GE210.out) | exact HB.out)))
                (case aF => exact (fun k_ hk => Kd.fresh' (Kd.R_lt (by (with_reducible repeat (first | apply Kd.R_alloc | apply Kd.R_drewN | apply Kd.R_drew)); exact HO230.out)) k_ hk))
                (case aO => exact (by (with_reducible repeat (first | apply Kd.R_alloc | apply Kd.R_drewN | apply Kd.R_drew)); exact HO233.out))
                (case aS => exact (below_size (by repeat (first | (with_reducible first | exact HB.out | apply below_alloc | apply pw_below_drewN | apply below_drew1 | refine below_set ?_ GE185.out | refine below_set ?_ GE210.out) | exact HB.out))))
                (case aL => have := LMc84.out; have hlx_ := (show (l2.drop 1).length = (l2.length - 1) from List.length_drop); omega)
                intro v236 w93 ho hb hg hat
                rw [← Ny235.out] at ho
                have n0_ := qa (blk_grown (g := gb185) (o := .cells #[.slice A0_0 l0_0.length c0_0, .int .i64 a0_1] 30 (0, 0)) (by (with_reducible repeat (first | refine blk_drewN ?_ _ | refine blk_drew ?_ | refine blk_alloc ?_ _)); exact BK185.out) hg (Kd.R_ne HO233.out BK185.out (by decide)))
                have n1_ := qa (blk_grown (g := gb210) (o := .cells #[.int .i64 t205, .int .i64 t206, .string t207, .int .i64 t208, .string t209] 106 (0, 0)) (by (with_reducible repeat (first | refine blk_drewN ?_ _ | refine blk_drew ?_ | refine blk_alloc ?_ _)); exact BK210.out) hg (Kd.R_ne HO233.out BK210.out (by decide)))
                have n2_ := qa (Kd.R_after (ok := (fun _ => True)) (by (with_reducible repeat (first | apply Kd.R_alloc | apply Kd.R_drewN | apply Kd.R_drew)); exact HO230.out) hg hat)
                have n3_ := qa (hb)
                have n4_ := qa (ho)
                clear BK185
                clear BK210
                clear HO230
                clear HB
                clear HO233
                have BK185 := n0_
                have BK210 := n1_
                have HO230 := n2_
                have HB := n3_
                have HO237 := n4_
                clear n0_ n1_ n2_ n3_ n4_
                clear ho hb hg hat
                obtain ⟨Ao94, co94, eo94⟩ := Kd.R_slice HO237.out
                (first | subst eo94 | (injection eo94 with f1_ f2_ f3_; have f4_ := f1_.symm; have f5_ := f3_.symm; clear f1_ f2_ f3_; subst f4_; subst f5_))
                refine hK.out _ _ ⟨(blk_cell BK185.out 0).trans rfl, (blk_cell BK185.out 1).trans rfl, (blk_cell BK210.out 0).trans rfl, (blk_cell BK210.out 1).trans rfl, (blk_cell BK210.out 2).trans rfl, (blk_cell BK210.out 3).trans rfl, (blk_cell BK210.out 4).trans rfl⟩ (fun hHeld => ?_)
                clear hK K
                refine norm_ (a' := ?_) ?_ ?_
                rotate_left
                ·
                 show Act.put _ (some 101) _ = _
                 simp only [Act.put, List.setIfInBounds_toArray, List.set_cons_zero, List.set_cons_succ, i64_w, i32_w]
                 rfl
                refine one_ (i := 12) (N := some 105) #[true, true, true, true, true, true, true, true, true, true, true, true, true, false, false, false, false, false, false] rfl rfl (one_of HT_.out (by kernel_rfl)) (by decide) (fun K hK => ?_)
                refine goes_ Tryz.func144 (by kernel_rfl) rfl #[.agg #[.slice A0_0 l0_0.length c0_0, .int .i64 a0_1], .int .i64 a1, .slice Ao94 y235.length co94, .bool a3, .int .i64 (wrap64 (a4 + 1))] (by rfl) rfl rfl (by (try simp only [List.map_toArray, List.map_cons, List.map_nil]); first | done | rfl | (simp only [List.length_drop, List.length_take]; rfl)) ?_
                with_reducible refine (ih kj36 (by have := HJ36.out; omega) _ _ l0_0 a0_1 a1 _ _ y235 a3 (wrap64 (a4 + 1)) t238 t239 t240 _ ?side1 ?side2 ?side3 ?side4 A85.out).mono ?_
                (case side1 => repeat (first | exact (Kd.C_below HR0_0.out HB.out) | (with_reducible refine Kd.C_alloc ?_ _) | (with_reducible refine Kd.C_drewN ?_ _) | (with_reducible refine Kd.C_drew ?_)))
                (case side2 => exact HC0_0.out)
                (case side3 => repeat (first | exact (Kd.R_reads' HO237.out).2.2 | (with_reducible refine Kd.C_alloc ?_ _) | (with_reducible refine Kd.C_drewN ?_ _) | (with_reducible refine Kd.C_drew ?_)))
                (case side4 => exact (Kd.R_reads' HO237.out).2.1)
                rintro e w95 ⟨rfl, hb⟩
                refine ⟨_, rfl, ?_⟩
                have n0_ := qa (Kd.R_below (by (with_reducible repeat (first | apply Kd.R_alloc | apply Kd.R_drewN | apply Kd.R_drew)); exact HO230.out) hb)
                have n1_ := qa (Kd.R_below (by (with_reducible repeat (first | apply Kd.R_alloc | apply Kd.R_drewN | apply Kd.R_drew)); exact HO237.out) hb)
                have n2_ := qa (blk_below (g := gb185) (o := .cells #[.slice A0_0 l0_0.length c0_0, .int .i64 a0_1] 30 (0, 0)) (by (with_reducible repeat (first | refine blk_drewN ?_ _ | refine blk_drew ?_ | refine blk_alloc ?_ _)); exact BK185.out) hb)
                have n3_ := qa (blk_below (g := gb210) (o := .cells #[.int .i64 t205, .int .i64 t206, .string t207, .int .i64 t208, .string t209] 106 (0, 0)) (by (with_reducible repeat (first | refine blk_drewN ?_ _ | refine blk_drew ?_ | refine blk_alloc ?_ _)); exact BK210.out) hb)
                have n4_ := qa (below_step (by repeat (first | (with_reducible first | exact HB.out | apply below_alloc | apply pw_below_drewN | apply below_drew1 | refine below_set ?_ GE185.out | refine below_set ?_ GE210.out) | exact HB.out)) hb)
                clear HO230
                clear HO237
                clear BK185
                clear BK210
                clear HB
                have HO230 := n0_
                have HO237 := n1_
                have BK185 := n2_
                have BK210 := n3_
                have HB := n4_
                clear n0_ n1_ n2_ n3_ n4_
                (try clear hb)
                (try clear hb2)
                (try clear hk)
                (try clear hi)
                refine hK.out _ _ ⟨(blk_cell BK185.out 0).trans rfl, (blk_cell BK185.out 1).trans rfl, (blk_cell BK210.out 0).trans rfl, (blk_cell BK210.out 1).trans rfl, (blk_cell BK210.out 2).trans rfl, (blk_cell BK210.out 3).trans rfl, (blk_cell BK210.out 4).trans rfl⟩ (fun hHeld => ?_)
                clear hK K
                refine norm_ (a' := ?_) ?_ ?_
                rotate_left
                ·
                 show Act.put _ (some 105) _ = _
                 simp only [Act.put, List.setIfInBounds_toArray, List.set_cons_zero, List.set_cons_succ, i64_w, i32_w]
                 rfl
                refine pure_ (i := 13) (N := some 106) (v := ?_) (a' := ?_) #[true, true, true, true, true, true, true, true, true, true, true, true, true, true, false, false, false, false, false] rfl rfl (any_of HT_.out (by kernel_rfl)) (fun _ _ _ h => h) (Or.inl ⟨by rfl, ?_⟩) ?_ ?_
                rotate_left
                ·
                 intro w'
                 go_simp
                 with_reducible rfl
                rotate_left
                ·
                 simp only [Act.put, List.setIfInBounds_toArray, List.set_cons_zero, List.set_cons_succ, i64_w, i32_w]
                 rfl
                refine pure_ (i := 14) (N := some 107) (v := ?_) (a' := ?_) #[true, true, true, true, true, true, true, true, true, true, true, true, true, true, true, false, false, false, false] rfl rfl (any_of HT_.out (by kernel_rfl)) (fun _ _ _ h => h) (Or.inl ⟨by rfl, ?_⟩) ?_ ?_
                rotate_left
                ·
                 intro w'
                 go_simp
                 with_reducible rfl
                rotate_left
                ·
                 simp only [Act.put, List.setIfInBounds_toArray, List.set_cons_zero, List.set_cons_succ, i64_w, i32_w]
                 rfl
                refine pure_ (i := 15) (N := some 108) (v := ?_) (a' := ?_) #[true, true, true, true, true, true, true, true, true, true, true, true, true, true, true, true, false, false, false] rfl rfl (any_of HT_.out (by kernel_rfl)) (fun _ _ _ h => h) (Or.inl ⟨by rfl, ?_⟩) ?_ ?_
                rotate_left
                ·
                 intro w'
                 go_simp
                 with_reducible rfl
                rotate_left
                ·
                 simp only [Act.put, List.setIfInBounds_toArray, List.set_cons_zero, List.set_cons_succ, i64_w, i32_w]
                 rfl
                refine pure_ (i := 16) (N := some 10) (v := ?_) (a' := ?_) #[true, true, true, true, true, true, true, true, true, true, true, true, true, true, true, true, true, false, false] rfl rfl (any_of HT_.out (by kernel_rfl)) (fun _ _ _ h => h) (Or.inl ⟨by rfl, ?_⟩) ?_ ?_
                rotate_left
                ·
                 intro w'
                 go_simp
                 with_reducible rfl
                rotate_left
                ·
                 simp only [Act.put, List.setIfInBounds_toArray, List.set_cons_zero, List.set_cons_succ, i64_w, i32_w]
                 rfl
                refine pure_ (i := 17) (N := some 11) (v := ?_) (a' := ?_) #[true, true, true, true, true, true, true, true, true, true, true, true, true, true, true, true, true, true, false] rfl rfl (any_of HT_.out (by kernel_rfl)) (fun _ _ _ h => h) (Or.inl ⟨by rfl, ?_⟩) ?_ ?_
                rotate_left
                ·
                 intro w'
                 go_simp
                 with_reducible rfl
                rotate_left
                ·
                 simp only [Act.put, List.setIfInBounds_toArray, List.set_cons_zero, List.set_cons_succ, i64_w, i32_w]
                 rfl
                refine pure_ (i := 18) (N := some 12) (v := ?_) (a' := ?_) #[true, true, true, true, true, true, true, true, true, true, true, true, true, true, true, true, true, true, true] rfl rfl (any_of HT_.out (by kernel_rfl)) (fun _ _ _ h => h) (Or.inl ⟨by rfl, ?_⟩) ?_ ?_
                rotate_left
                ·
                 intro w'
                 go_simp
                 with_reducible rfl
                rotate_left
                ·
                 simp only [Act.put, List.setIfInBounds_toArray, List.set_cons_zero, List.set_cons_succ, i64_w, i32_w]
                 rfl
                refine done_ (done_of HT_.out (by kernel_rfl)) ?_
                try go_wp2
                go_ret3
                exact ⟨by first | rfl | (simp [errW_none, errW_some] <;> rfl) | (simp [*, errW_none, errW_some] <;> rfl) | (simp [errW_none, errW_some, bne_nil]; done) | (simp [*, bne_nil]; done) | (simp [bne]; done), by repeat (first | (with_reducible first | exact HB.out | apply below_alloc | apply pw_below_drewN | apply below_drew1 | refine below_set ?_ GE185.out | refine below_set ?_ GE210.out) | exact HB.out)⟩
               ·
                rw [if_neg c84] at H
                exact absurd H (by simp)
              ·
               rw [if_neg c83] at H
               exact absurd H (by simp)
             ·
              rw [if_neg c82] at H
              exact absurd H (by simp)
           ·
            rw [if_neg c63] at H
            exact absurd H (by simp)
     ·
      rw [if_neg c23] at H
      have c23b0 : (t202 == 0) = false := beq_eq_false_iff_ne.mpr c23
      have c23b1 : (t202 != 0) = true := bne_iff_ne.mpr c23
      simp only [Option.some.injEq, Prod.mk.injEq] at H
      obtain ⟨rfl, rfl, rfl⟩ := H
      go_enter Tryz.func144, Tryz.ntmps144
      go_wp2_with (first | ((with_reducible refine gate_dst (N := 5) rfl ?_); (try (refine gate_guard (by rfl) ?_; dsimp only)); refine box_event ?hg (N := 5) ?hd (cs := #[.slice A0_0 l0_0.length c0_0, .int .i64 a0_1]) (t := 30) ?hr ?_; (case hd => rfl); (case hg => rfl); (case hr => first | (go_simp; done) | (go_simp; rfl)); intro gb185 hg w96 hbox hb; have n0_ := qa (below_step (by repeat (first | (with_reducible first | exact HB.out | apply below_alloc | apply pw_below_drewN | apply below_drew1) | exact HB.out)) hb); have n1_ := qa (hbox); have n2_ := qa ((by rw [hg]; exact (below_size (by repeat (first | (with_reducible first | exact HB.out | apply below_alloc | apply pw_below_drewN | apply below_drew1) | exact HB.out))) : w.heap.size ≤ gb185)); have n3_ := qa ((by rw [hg]; exact (below_size (by repeat (first | (with_reducible first | exact HB.out | apply below_alloc | apply pw_below_drewN | apply below_drew1) | exact HB.out))) : w.heap.size ≤ gb185)); clear HB; have HB := n0_; have BK185 := n1_; have GW185 := n2_; have GE185 := n3_; clear n0_ n1_ n2_ n3_; clear hb hbox hg; have hcz97_0 : w96.cell? ⟨gb185, 0, none⟩ = some (.slice A0_0 l0_0.length c0_0) := (blk_cell BK185.out 0).trans rfl; have hcz97_1 : w96.cell? ⟨gb185, 1, none⟩ = some (.int .i64 a0_1) := (blk_cell BK185.out 1).trans rfl; have hfz97_0 := blk_frozen BK185.out 0; have hfz97_1 := blk_frozen BK185.out 1) | ((with_reducible refine gate_callee (f := 68) rfl ?_); refine goesL_ (some 23) rfl rfl Tryz.func68 (by kernel_rfl) rfl #[.agg #[.slice A0_0 l0_0.length c0_0, .int .i64 a0_1], .int .i64 a1] rfl (by (try simp only [List.map_toArray, List.map_cons, List.map_nil]); first | done | rfl | (simp only [List.length_drop, List.length_take]; rfl)) ?_; (with_reducible refine (linhayref07_At.calls k _ _ l0_0 a0_1 a1 t186 t187 t188 t189 t190 _ ?side1 ?side2 A8.out).mono ?_); (case side1 => repeat (first | exact (Kd.C_below HR0_0.out HB.out) | (with_reducible refine Kd.C_alloc ?_ _) | (with_reducible refine Kd.C_drewN ?_ _) | (with_reducible refine Kd.C_drew ?_))); (case side2 => exact HC0_0.out); rintro e w98 ⟨rfl, hb⟩; refine ⟨_, rfl, ?_⟩; have n0_ := qa (blk_below (g := gb185) (o := .cells #[.slice A0_0 l0_0.length c0_0, .int .i64 a0_1] 30 (0, 0)) (by (with_reducible repeat (first | refine blk_drewN ?_ _ | refine blk_drew ?_ | refine blk_alloc ?_ _)); exact BK185.out) hb); have n1_ := qa (below_step (by repeat (first | (with_reducible first | exact HB.out | apply below_alloc | apply pw_below_drewN | apply below_drew1 | refine below_set ?_ GE185.out) | exact HB.out)) hb); clear BK185; clear HB; have BK185 := n0_; have HB := n1_; clear n0_ n1_; (try clear hb); (try clear hb2); (try clear hk); (try clear hi); have p191 : 0 ≤ (0 : Int) := (by omega); have q191 : 0 < (l2.length : Int) := of_decide_eq_true (by first | (with_reducible assumption) | assumption); obtain ⟨ad191, e191, hx191_0⟩ := Kd.at_string HR2.out 0 p191 q191; cases e191; have qi191 : (0 < l2.length) = True := eq_true (by omega); (try rw [show ((0 : Int)).toNat = 0 from rfl] at hx191_0); (try rw [Addr.add_zero'] at hx191_0); replace hx191_0 := (HB.out.cell (World.block_lt_of_cell? w _ hx191_0)).trans hx191_0; replace p191 := eq_true p191; replace q191 := eq_true q191; have p201 : 0 ≤ (0 : Int) := (by omega); have q201 : 0 < (l2.length : Int) := of_decide_eq_true (by first | (with_reducible assumption) | assumption); obtain ⟨ad201, e201, hx201_0⟩ := Kd.at_string HR2.out 0 p201 q201; obtain rfl : ad191 = ad201 := (by injection e201); have qi201 : (0 < l2.length) = True := eq_true (by omega); (try rw [show ((0 : Int)).toNat = 0 from rfl] at hx201_0); (try rw [Addr.add_zero'] at hx201_0); replace hx201_0 := (HB.out.cell (World.block_lt_of_cell? w _ hx201_0)).trans hx201_0; replace p201 := eq_true p201; replace q201 := eq_true q201) | ((with_reducible refine gate_callee (f := 104) rfl ?_); refine goesL_ (some 47) rfl rfl Tryz.func104 (by kernel_rfl) rfl #[.string (rdOf ByteArray.empty l2 0)] rfl (by (try simp only [List.map_toArray, List.map_cons, List.map_nil]); first | done | rfl | (simp only [List.length_drop, List.length_take]; rfl)) ?_; (with_reducible refine (linhayref03_Check.calls k (rdOf ByteArray.empty l2 0) t202 _ A22.out).mono ?_); rintro e w' ⟨rfl, ⟨nd, rfl⟩⟩; refine ⟨_, rfl, ?_⟩))
      go_ret3
      exact ⟨by first | rfl | (simp [errW_none, errW_some] <;> rfl) | (simp [*, errW_none, errW_some] <;> rfl) | (simp [errW_none, errW_some, bne_nil]; done) | (simp [*, bne_nil]; done) | (simp [bne]; done), by repeat (first | (with_reducible first | exact HB.out | apply below_alloc | apply pw_below_drewN | apply below_drew1 | refine below_set ?_ GE185.out) | exact HB.out)⟩
   ·
    rw [if_neg c10] at H
    exact absurd H (by simp)
  ·
   rw [if_neg c9] at H
   have c9b0 : (t189 == 1) = false := beq_eq_false_iff_ne.mpr c9
   have c9b1 : (t189 != 1) = true := bne_iff_ne.mpr c9
   simp only [Option.some.injEq, Prod.mk.injEq] at H
   obtain ⟨rfl, rfl, rfl⟩ := H
   go_enter Tryz.func144, Tryz.ntmps144
   go_wp2_with (first | ((with_reducible refine gate_dst (N := 5) rfl ?_); (try (refine gate_guard (by rfl) ?_; dsimp only)); refine box_event ?hg (N := 5) ?hd (cs := #[.slice A0_0 l0_0.length c0_0, .int .i64 a0_1]) (t := 30) ?hr ?_; (case hd => rfl); (case hg => rfl); (case hr => first | (go_simp; done) | (go_simp; rfl)); intro gb185 hg w99 hbox hb; have n0_ := qa (below_step (by repeat (first | (with_reducible first | exact HB.out | apply below_alloc | apply pw_below_drewN | apply below_drew1) | exact HB.out)) hb); have n1_ := qa (hbox); have n2_ := qa ((by rw [hg]; exact (below_size (by repeat (first | (with_reducible first | exact HB.out | apply below_alloc | apply pw_below_drewN | apply below_drew1) | exact HB.out))) : w.heap.size ≤ gb185)); have n3_ := qa ((by rw [hg]; exact (below_size (by repeat (first | (with_reducible first | exact HB.out | apply below_alloc | apply pw_below_drewN | apply below_drew1) | exact HB.out))) : w.heap.size ≤ gb185)); clear HB; have HB := n0_; have BK185 := n1_; have GW185 := n2_; have GE185 := n3_; clear n0_ n1_ n2_ n3_; clear hb hbox hg; have hcz100_0 : w99.cell? ⟨gb185, 0, none⟩ = some (.slice A0_0 l0_0.length c0_0) := (blk_cell BK185.out 0).trans rfl; have hcz100_1 : w99.cell? ⟨gb185, 1, none⟩ = some (.int .i64 a0_1) := (blk_cell BK185.out 1).trans rfl; have hfz100_0 := blk_frozen BK185.out 0; have hfz100_1 := blk_frozen BK185.out 1) | ((with_reducible refine gate_callee (f := 68) rfl ?_); refine goesL_ (some 23) rfl rfl Tryz.func68 (by kernel_rfl) rfl #[.agg #[.slice A0_0 l0_0.length c0_0, .int .i64 a0_1], .int .i64 a1] rfl (by (try simp only [List.map_toArray, List.map_cons, List.map_nil]); first | done | rfl | (simp only [List.length_drop, List.length_take]; rfl)) ?_; (with_reducible refine (linhayref07_At.calls k _ _ l0_0 a0_1 a1 t186 t187 t188 t189 t190 _ ?side1 ?side2 A8.out).mono ?_); (case side1 => repeat (first | exact (Kd.C_below HR0_0.out HB.out) | (with_reducible refine Kd.C_alloc ?_ _) | (with_reducible refine Kd.C_drewN ?_ _) | (with_reducible refine Kd.C_drew ?_))); (case side2 => exact HC0_0.out); rintro e w101 ⟨rfl, hb⟩; refine ⟨_, rfl, ?_⟩; have n0_ := qa (blk_below (g := gb185) (o := .cells #[.slice A0_0 l0_0.length c0_0, .int .i64 a0_1] 30 (0, 0)) (by (with_reducible repeat (first | refine blk_drewN ?_ _ | refine blk_drew ?_ | refine blk_alloc ?_ _)); exact BK185.out) hb); have n1_ := qa (below_step (by repeat (first | (with_reducible first | exact HB.out | apply below_alloc | apply pw_below_drewN | apply below_drew1 | refine below_set ?_ GE185.out) | exact HB.out)) hb); clear BK185; clear HB; have BK185 := n0_; have HB := n1_; clear n0_ n1_; (try clear hb); (try clear hb2); (try clear hk); (try clear hi)))
   go_ret3
   exact ⟨by first | rfl | (simp [errW_none, errW_some] <;> rfl) | (simp [*, errW_none, errW_some] <;> rfl) | (simp [errW_none, errW_some, bne_nil]; done) | (simp [*, bne_nil]; done) | (simp [bne]; done), by repeat (first | (with_reducible first | exact HB.out | apply below_alloc | apply pw_below_drewN | apply below_drew1 | refine below_set ?_ GE185.out) | exact HB.out)⟩
end Go.Proofs.YtnpeeiikdcankaaGreat.X
