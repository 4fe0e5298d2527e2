/- act: Valid, After; the law's lives; ActNone. -/
import Derived.Test.YtnpeeiikdcankaaGreatQB0
import Derived.Test.YtnpeeiikdcankaaGreatQB1
import Derived.Test.YtnpeeiikdcankaaGreatQB2
import Derived.Laws.EntriesVeiled
set_option linter.unusedVariables false
set_option linter.unusedSimpArgs false

set_option maxHeartbeats 8000000
set_option maxRecDepth 1000000
namespace Go.Proofs.YtnpeeiikdcankaaGreat.Tw
open Go Go.RowKit Go.Shelf Go.Proofs Go.Proofs.YtnpeeiikdcankaaGreat Go.Proofs.YtnpeeiikdcankaaGreatW.PrintWords Go.Proofs.YtnpeeiikdcankaaGreat.Ext Go.Proofs.YtnpeeiikdcankaaGreat.X Go.Proofs.YtnpeeiikdcankaaGreat.Pu
noncomputable def spotV (L : List RN) (last : Int) (s : ByteArray) : R3 := @Classical.epsilon R3 ⟨noS 0⟩ (fun R => ∃ k, spotF (trOf L last) k s = some R)
noncomputable def findV (L : List RN) (last : Int) (lst : Bool) (s : ByteArray) : Int × Int := @Classical.epsilon (Int × Int) ⟨(0, 0)⟩ (fun R => ∃ k, findF (trOf L last) lst k s = some R)
theorem spotV_spec {L : List RN} {last : Int} (hG : GoodL L last) (hM : GoodM L) (s : ByteArray) : ∃ k, spotF (trOf L last) k s = some (spotV L last s) := by
 obtain ⟨k, _, R, h, _⟩ := spot_both hG hM s
 exact @Classical.epsilon_spec R3 (fun R => ∃ k, spotF (trOf L last) k s = some R) ⟨R, k, h⟩
theorem findV_spec {L : List RN} {last : Int} (hG : GoodL L last) (hM : GoodM L) (lst : Bool) (s : ByteArray) : ∃ k, findF (trOf L last) lst k s = some (findV L last lst s) := by
 obtain ⟨k, R, h, _⟩ := find_both hG hM lst s
 exact @Classical.epsilon_spec (Int × Int) (fun R => ∃ k, findF (trOf L last) lst k s = some R) ⟨R, k, h⟩
theorem spotF_wf {T : Tr} (hO : TrOK T) {k : Nat} {s : ByteArray} {R : R3} (h : spotF T k s = some R) : wf R.1 ∧ R.2.1.size ≤ 1024 := by
 unfold spotF at h
 by_cases h0 : beginE s = 0
 ·
  rw [if_pos h0] at h
  have hz := (beginE_ok h0).1
  cases hl : (partsB s).getLast? with
  | none => rw [hl] at h; cases h; exact ⟨wf0, Nat.zero_le _⟩
  | some z =>
   rw [hl] at h
   have hzm : z ∈ partsB s := List.mem_of_getLast? hl
   have hzz := partsB_sz s z hzm
   simp only [] at h
   split at h
   · cases h; exact ⟨wf0, Nat.zero_le _⟩
   ·
    obtain ⟨r, hr, h⟩ := Option.bind_eq_some_iff.1 h
    have hwr := walkF_wf hO true k 1 0 _ r wf1 hr
    split at h
    ·
     split at h
     ·
      split at h
      · cases h; exact ⟨hwr, by show z.size ≤ 1024; omega⟩
      · cases h; exact ⟨wf0, Nat.zero_le _⟩
     · cases h; exact ⟨wf0, Nat.zero_le _⟩
    · cases h; exact ⟨wf0, Nat.zero_le _⟩
 ·
  rw [if_neg h0] at h
  cases h
  exact ⟨wf0, Nat.zero_le _⟩
abbrev Op3 := List RN × Int × Int
noncomputable def mkP (L : List RN) (last : Int) (s : ByteArray) (kind : Int) (data : ByteArray) : Op3 :=
 if (spotV L last s).2.2 ≠ 0 then (L, last, (spotV L last s).2.2) else
  (putL L last (spotV L last s).1 (spotV L last s).2.1 kind data, putN L last (spotV L last s).1 (spotV L last s).2.1 kind data, putRE L (spotV L last s).1 (spotV L last s).2.1 kind data)
def mayK (dir : Bool) (k : Int) : Int := if dir = true then (if k = 1 then 0 else 7) else (if k = 1 then 8 else 0)
noncomputable def cutP (L : List RN) (last : Int) (s : ByteArray) (dir : Bool) : Op3 :=
 if (spotV L last s).2.2 ≠ 0 then (L, last, (spotV L last s).2.2) else
  if inR L (spotV L last s).1 (spotV L last s).2.1 = 0 then (L, last, 5) else
   if mayK dir (atR L (inR L (spotV L last s).1 (spotV L last s).2.1)).f3 ≠ 0 then (L, last, mayK dir (atR L (inR L (spotV L last s).1 (spotV L last s).2.1)).f3) else
    (cutS L (spotV L last s).1 (spotV L last s).2.1, last, cutRE L (spotV L last s).1 (spotV L last s).2.1)
noncomputable def renP (L : List RN) (last : Int) (a b : ByteArray) : Op3 :=
 if (spotV L last a).2.2 ≠ 0 then (L, last, (spotV L last a).2.2) else if (spotV L last b).2.2 ≠ 0 then (L, last, (spotV L last b).2.2) else
  (movM L last (spotV L last a).1 (spotV L last a).2.1 (spotV L last b).1 (spotV L last b).2.1, last, movP L last (spotV L last a).1 (spotV L last a).2.1 (spotV L last b).1 (spotV L last b).2.1)
noncomputable def wrP (L : List RN) (last : Int) (s data : ByteArray) : Op3 :=
 if (findV L last true s).2 = 0 then (setS L (findV L last true s).1 data, last, setRE L (findV L last true s).1 data) else
  if (findV L last true s).2 ≠ 5 then (L, last, (findV L last true s).2) else
   if (spotV L last s).2.2 ≠ 0 then (L, last, (spotV L last s).2.2) else
    if inR L (spotV L last s).1 (spotV L last s).2.1 ≠ 0 then (L, last, 5) else
     (putL L last (spotV L last s).1 (spotV L last s).2.1 2 data, putN L last (spotV L last s).1 (spotV L last s).2.1 2 data, putRE L (spotV L last s).1 (spotV L last s).2.1 2 data)
noncomputable def doP (L : List RN) (last k : Int) (a b : ByteArray) : Op3 :=
 if k = 1 then mkP L last a 1 ⟨#[]⟩ else if k = 2 then cutP L last a true else if k = 3 then mkP L last a 3 b else if k = 4 then cutP L last a false else if k = 5 then renP L last a b else if k = 6 then wrP L last a b else (L, last, 2)
structure Fine (L : List RN) (last : Int) (o : Op3) : Prop where
 good : GoodL o.1 o.2.1
 goodm : GoodM o.1
 lst : o.2.1 ≤ last + 1
 same : o.2.2 ≠ 0 → o.1 = L ∧ o.2.1 = last
theorem fine_err {L : List RN} {last e : Int} (hG : GoodL L last) (hM : GoodM L) : Fine L last (L, last, e) := ⟨hG, hM, by show last ≤ last + 1; omega, fun _ => ⟨rfl, rfl⟩⟩
theorem fine_put {L : List RN} {last d : Int} {s : ByteArray} {kind : Int} {data : ByteArray} (hG : GoodL L last) (hM : GoodM L) : Fine L last (putL L last d s kind data, putN L last d s kind data, putRE L d s kind data) := by
 refine ⟨good_put hG, goodM_put hG hM, ?_, fun h => ?_⟩
 ·
  show putN L last d s kind data ≤ last + 1
  unfold putN
  split
  · omega
  · omega
 ·
  show putL L last d s kind data = L ∧ putN L last d s kind data = last
  unfold putL putN
  rw [if_neg h, if_neg h]
  exact ⟨rfl, rfl⟩
theorem fine_mk {L : List RN} {last : Int} (hG : GoodL L last) (hM : GoodM L) (s : ByteArray) (kind : Int) (data : ByteArray) : Fine L last (mkP L last s kind data) := by
 unfold mkP
 split
 · exact fine_err hG hM
 · exact fine_put hG hM
theorem fine_cut {L : List RN} {last : Int} (hG : GoodL L last) (hM : GoodM L) (s : ByteArray) (dir : Bool) : Fine L last (cutP L last s dir) := by
 unfold cutP
 split
 · exact fine_err hG hM
 ·
  split
  · exact fine_err hG hM
  ·
   split
   · exact fine_err hG hM
   ·
    have := good_cut hG hM (spotV L last s).1 (spotV L last s).2.1
    refine ⟨this.1, this.2, by show last ≤ last + 1; omega, fun h => ⟨?_, rfl⟩⟩
    show cutS _ _ _ = L
    unfold cutS
    rw [if_neg h]
theorem fine_ren {L : List RN} {last : Int} (hG : GoodL L last) (hM : GoodM L) (a b : ByteArray) : Fine L last (renP L last a b) := by
 unfold renP
 split
 · exact fine_err hG hM
 ·
  split
  · exact fine_err hG hM
  ·
   have := good_mov hG hM (spotV L last a).1 (spotV L last a).2.1 (spotV L last b).1 (spotV L last b).2.1
   refine ⟨this.1, this.2, by show last ≤ last + 1; omega, fun h => ⟨?_, rfl⟩⟩
   show movM _ _ _ _ _ _ = L
   unfold movM
   rw [if_neg (fun q => h q.1)]
theorem fine_wr {L : List RN} {last : Int} (hG : GoodL L last) (hM : GoodM L) (s data : ByteArray) : Fine L last (wrP L last s data) := by
 unfold wrP
 split
 ·
  have := good_set hG hM (findV L last true s).1 data
  refine ⟨this.1, this.2, by show last ≤ last + 1; omega, fun h => ⟨?_, rfl⟩⟩
  show setS _ _ _ = L
  unfold setS
  rw [if_neg h]
 ·
  split
  · exact fine_err hG hM
  ·
   split
   · exact fine_err hG hM
   ·
    split
    · exact fine_err hG hM
    · exact fine_put hG hM
theorem fine_do {L : List RN} {last : Int} (hG : GoodL L last) (hM : GoodM L) (k : Int) (a b : ByteArray) : Fine L last (doP L last k a b) := by
 unfold doP
 split
 · exact fine_mk hG hM _ _ _
 ·
  split
  · exact fine_cut hG hM _ _
  ·
   split
   · exact fine_mk hG hM _ _ _
   ·
    split
    · exact fine_cut hG hM _ _
    ·
     split
     · exact fine_ren hG hM _ _
     ·
      split
      · exact fine_wr hG hM _ _
      · exact fine_err hG hM
def Left (p B : Nat) (w : World) (o : Op3) (e : Ending) (w' : World) : Prop := e = .returned (.int .i64 o.2.2) ∧ TreeB w' p B (trOf o.1 o.2.1) ∧ Frm w w' p B
theorem left_err {p B : Nat} {w w' : World} {L : List RN} {last e : Int} (h : TreeB w p B (trOf L last)) (hb : Below w.heap.size w w') : Left p B w (L, last, e) (.returned (.int .i64 e)) w' := ⟨rfl, h.below hb, Frm.ofBelow hb⟩
theorem put9_calls (p B : Nat) (L : List RN) (last : Int) (s : ByteArray) (kind : Int) (data : ByteArray) (w : World) (h : TreeB w p B (trOf L last)) (hG : GoodL L last) (hM : GoodM L) (hla : last < 1000000) :
  Calls Tryz.prog 112 #[pT p, .string s, .int .i64 kind, .string data] w (Left p B w (mkP L last s kind data)) := by
 have hO := trOK hG (by omega)
 obtain ⟨k, hk⟩ := spotV_spec hG hM s
 obtain ⟨hw, hz⟩ := spotF_wf hO hk
 have HP := qh (fun W h => spot_calls p (trOf L last) s k _ W h hO hk)
 have HU := qh (fun W h => tput_calls p B L last (spotV L last s).1 (spotV L last s).2.1 kind data W h hG hw (by omega) hla)
 have HT := qh h
 unfold mkP
 generalize putA L last (spotV L last s).1 (spotV L last s).2.1 kind data = pa at *
 generalize putRE L (spotV L last s).1 (spotV L last s).2.1 kind data = pe at *
 generalize hpl : putL L last (spotV L last s).1 (spotV L last s).2.1 kind data = pl at *
 generalize hpn : putN L last (spotV L last s).1 (spotV L last s).2.1 kind data = pn at *
 generalize spotV L last s = R at *
 obtain ⟨d, z, e⟩ := R
 simp only [] at *
 clear h hO hG hM hla hk hw hz hpl hpn
 by_cases he : e = 0
 ·
  subst he
  rw [if_neg (by simp)]
  go_enter Tryz.func112, Tryz.ntmps112
  go_wp2_with (first
   | (go_at_call 93; refine (HP.out _ HT.out.at_).mono ?_; rintro e w3 ⟨rfl, hb3⟩)
   | (go_at_call 56; refine (HU.out _ (HT.out.below hb3)).mono ?_; rintro e w6 ⟨rfl, hT6, hf6⟩))
  go_ret
  exact ⟨rfl, hT6, (Frm.ofBelow hb3).trans hf6⟩
 ·
  rw [if_pos he]
  have b1 : (e != 0) = true := bne_iff_ne.2 he
  clear he
  go_enter Tryz.func112, Tryz.ntmps112
  go_wp2_with (go_at_call 93; refine (HP.out _ HT.out.at_).mono ?_; rintro e w3 ⟨rfl, hb3⟩)
  go_ret
  exact left_err HT.out hb3
theorem mkdir9_calls (p B : Nat) (L : List RN) (last : Int) (s : ByteArray) (w : World) (h : TreeB w p B (trOf L last)) (hG : GoodL L last) (hM : GoodM L) (hla : last < 1000000) :
  Calls Tryz.prog 62 #[pT p, .string s] w (Left p B w (mkP L last s 1 ⟨#[]⟩)) := by
 have HP := qh (put9_calls p B L last s 1 ⟨#[]⟩ w h hG hM hla)
 generalize mkP L last s 1 ⟨#[]⟩ = o at *
 clear h hG hM hla
 go_enter Tryz.func62, Tryz.ntmps62
 go_wp2_with (go_at_call 112; refine HP.out.mono ?_; rintro e w3 ⟨rfl, hT, hF⟩)
 go_ret
 exact ⟨rfl, hT, hF⟩
theorem symlink9_calls (p B : Nat) (L : List RN) (last : Int) (data s : ByteArray) (w : World) (h : TreeB w p B (trOf L last)) (hG : GoodL L last) (hM : GoodM L) (hla : last < 1000000) :
  Calls Tryz.prog 64 #[pT p, .string data, .string s] w (Left p B w (mkP L last s 3 data)) := by
 have HP := qh (put9_calls p B L last s 3 data w h hG hM hla)
 generalize mkP L last s 3 data = o at *
 clear h hG hM hla
 go_enter Tryz.func64, Tryz.ntmps64
 go_wp2_with (go_at_call 112; refine HP.out.mono ?_; rintro e w3 ⟨rfl, hT, hF⟩)
 go_ret
 exact ⟨rfl, hT, hF⟩
theorem rename9_calls (p B : Nat) (L : List RN) (last : Int) (a b : ByteArray) (w : World) (h : TreeB w p B (trOf L last)) (hG : GoodL L last) (hM : GoodM L) (hla : last < 1000000) :
  Calls Tryz.prog 66 #[pT p, .string a, .string b] w (Left p B w (renP L last a b)) := by
 have hO := trOK hG (by omega)
 obtain ⟨k, hk⟩ := spotV_spec hG hM a
 obtain ⟨hw, hz⟩ := spotF_wf hO hk
 obtain ⟨k2, hk2⟩ := spotV_spec hG hM b
 obtain ⟨hw2, hz2⟩ := spotF_wf hO hk2
 have HP := qh (fun W h => spot_calls p (trOf L last) a k _ W h hO hk)
 have HP2 := qh (fun W h => spot_calls p (trOf L last) b k2 _ W h hO hk2)
 have HU := qh (fun W h => tmove_calls p B L last (spotV L last a).1 (spotV L last a).2.1 (spotV L last b).1 (spotV L last b).2.1 W h hG hM hw hw2 (by omega) (by omega))
 have HT := qh h
 unfold renP
 generalize movP L last (spotV L last a).1 (spotV L last a).2.1 (spotV L last b).1 (spotV L last b).2.1 = pe at *
 generalize hpl : movM L last (spotV L last a).1 (spotV L last a).2.1 (spotV L last b).1 (spotV L last b).2.1 = pl at *
 generalize spotV L last a = R at *
 generalize spotV L last b = R2 at *
 obtain ⟨d, z, e⟩ := R
 obtain ⟨d2, z2, e2⟩ := R2
 simp only [] at *
 clear h hO hG hM hla hk hw hz hk2 hw2 hz2 hpl
 have tk1 : True := trivial
 by_cases he : e = 0
 ·
  subst he
  rw [if_neg (by simp)]
  by_cases he2 : e2 = 0
  ·
   subst he2
   rw [if_neg (by simp)]
   go_enter Tryz.func66, Tryz.ntmps66
   go_upto_region 2 with (go_at_call 93; refine (HP.out _ HT.out.at_).mono ?_; rintro e w3 ⟨rfl, hb3⟩)
   go_wp2_with (first
    | (go_at_call 93; refine (HP2.out _ (HT.out.below hb3).at_).mono ?_; rintro e w4 ⟨rfl, hb4⟩)
    | (go_at_call 115; refine (HU.out _ ((HT.out.below hb3).below hb4)).mono ?_; rintro e w6 ⟨rfl, hT6, hf6⟩))
   go_ret
   exact ⟨rfl, hT6, (Frm.ofBelow (hb3.trans (hb4.mono hb3.size))).trans hf6⟩
  ·
   rw [if_pos he2]
   have b1 : (e2 != 0) = true := bne_iff_ne.2 he2
   clear he2
   go_enter Tryz.func66, Tryz.ntmps66
   go_upto_region 2 with (go_at_call 93; refine (HP.out _ HT.out.at_).mono ?_; rintro e w3 ⟨rfl, hb3⟩)
   go_wp2_with (go_at_call 93; refine (HP2.out _ (HT.out.below hb3).at_).mono ?_; rintro e w4 ⟨rfl, hb4⟩)
   go_ret
   exact left_err HT.out (hb3.trans (hb4.mono hb3.size))
 ·
  rw [if_pos he]
  have b1 : (e != 0) = true := bne_iff_ne.2 he
  clear he
  go_enter Tryz.func66, Tryz.ntmps66
  go_wp2_with (go_at_call 93; refine (HP.out _ HT.out.at_).mono ?_; rintro e w3 ⟨rfl, hb3⟩)
  go_ret
  exact left_err HT.out hb3
theorem unlink1_calls (k : Int) (w : World) : Calls Tryz.prog 114 #[.int .i64 k] w fun r w' => r = .returned (.int .i64 (if k = 1 then 8 else 0)) ∧ Below w.heap.size w w' := by
 by_cases hk : k = 1
 ·
  subst hk
  rw [if_pos rfl]
  go_enter Tryz.func114, Tryz.ntmps114
  go_wp2
  go_ret
  exact ⟨rfl, Below.refl _ _⟩
 ·
  rw [if_neg hk]
  have hk' : (k == 1) = false := beq_eq_false_iff_ne.2 hk
  clear hk
  go_enter Tryz.func114, Tryz.ntmps114
  go_wp2
  go_ret
  exact ⟨rfl, Below.refl _ _⟩
theorem cutR_calls (p B : Nat) (L : List RN) (last : Int) (s : ByteArray) (v : Value) (w : World) (h : TreeB w p B (trOf L last)) (hG : GoodL L last) (hM : GoodM L) (hla : last < 1000000) (hv : OnlyV w v 1 7) :
  Calls Tryz.prog 113 #[pT p, .string s, v] w (Left p B w (cutP L last s true)) := by
 have hO := trOK hG (by omega)
 obtain ⟨k, hk⟩ := spotV_spec hG hM s
 obtain ⟨hw, hz⟩ := spotF_wf hO hk
 have HP := qh (fun W h => spot_calls p (trOf L last) s k _ W h hO hk)
 have HL := qh (fun W h => list_calls p (trOf L last) (spotV L last s).1 W h hw (hO.small.node _))
 have HE := qh (fun A c W h hc => find_calls A c ((trOf L last).node (spotV L last s).1).ents (spotV L last s).2.1 W h hc (hO.small.node _) (node_rt hO _))
 rw [node_of hG (spotV L last s).1] at HE HL
 simp only [find_ents hG (spotV L last s).1 (spotV L last s).2.1] at HE
 have hwn := hO.wf_find (spotV L last s).1 (spotV L last s).2.1
 rw [node_of hG (spotV L last s).1] at hwn
 simp only [find_ents hG (spotV L last s).1 (spotV L last s).2.1] at hwn
 have HK := qh (fun W h => kind_calls p (trOf L last) (inR L (spotV L last s).1 (spotV L last s).2.1) W h hwn)
 rw [node_of hG (inR L (spotV L last s).1 (spotV L last s).2.1)] at HK
 simp only [] at HK HL
 have HU := qh (fun W h => tcut_calls p B L last (spotV L last s).1 (spotV L last s).2.1 W h hG hw (by omega))
 have HT := qh h
 have hin := inR_le hG (spotV L last s).1 (spotV L last s).2.1
 obtain ⟨gg, gh, rfl, h1, h2⟩ := hv
 have HO0 := qh (fun x W q1 q2 => only1_calls x 1 7 gg gh W q1 q2)
 have HV := qh (And.intro h1 h2)
 clear h1 h2
 unfold cutP
 generalize cutRE L (spotV L last s).1 (spotV L last s).2.1 = ce at *
 generalize hcs : cutS L (spotV L last s).1 (spotV L last s).2.1 = cs at *
 generalize (atR L (inR L (spotV L last s).1 (spotV L last s).2.1)).f3 = kd at *
 generalize inR L (spotV L last s).1 (spotV L last s).2.1 = n at *
 generalize entsOf L (spotV L last s).1 = es at *
 generalize spotV L last s = R at *
 obtain ⟨d, z, e⟩ := R
 simp only [] at *
 clear h hO hG hM hla hk hw hz hcs hwn
 by_cases he : e = 0
 ·
  subst he
  rw [if_neg (by simp)]
  by_cases hn : n = 0
  ·
   subst hn
   rw [if_pos rfl]
   rw [show decide ((0 : Int) < 0) = false from rfl] at HE
   clear HK HU hin
   go_enter Tryz.func113, Tryz.ntmps113
   go_wp2_with (first
    | (go_at_call 93; refine (HP.out _ HT.out.at_).mono ?_; rintro e w3 ⟨rfl, hb3⟩; have HB3 := qh hb3; have HT3 := qh (HT.out.below hb3); clear hb3)
    | (go_at_call 74; refine (HL.out _ HT3.out.at_).mono ?_; rintro e w4 ⟨v, rfl, hv, hb4⟩; obtain ⟨A4, c4, rfl, hl4, hC4⟩ := Kd.R_reads hv; have HB4 := qh (HB3.out.trans (hb4.mono HB3.out.size)); have HC4 := qh hC4; clear hv hb4 hC4)
    | (go_at_call 94; refine (HE.out _ _ _ HC4.out hl4).mono ?_; rintro e w5 ⟨rfl, hb5⟩; have HB5 := qh (HB4.out.trans (hb5.mono HB4.out.size)); have HT5 := qh (HT.out.below HB5.out); clear hb5))
   go_ret
   exact left_err HT.out HB5.out
  ·
   rw [if_neg hn]
   rw [decide_eq_true (show 0 < n by omega)] at HE
   by_cases hk1 : kd = 1
   ·
    subst hk1
    have hm : mayK true 1 = 0 := rfl
    rw [hm, if_neg (by simp)]
    have HO := qh (fun W q1 q2 => HO0.out 1 W q1 q2)
    rw [if_pos rfl] at HO
    clear HO0 hm
    clear hin hn
    go_enter Tryz.func113, Tryz.ntmps113
    go_wp2_with (first
     | (go_at_call 93; refine (HP.out _ HT.out.at_).mono ?_; rintro e w3 ⟨rfl, hb3⟩; have HB3 := qh hb3; have HT3 := qh (HT.out.below hb3); clear hb3)
     | (go_at_call 74; refine (HL.out _ HT3.out.at_).mono ?_; rintro e w4 ⟨v, rfl, hv, hb4⟩; obtain ⟨A4, c4, rfl, hl4, hC4⟩ := Kd.R_reads hv; have HB4 := qh (HB3.out.trans (hb4.mono HB3.out.size)); have HC4 := qh hC4; clear hv hb4 hC4)
     | (go_at_call 94; refine (HE.out _ _ _ HC4.out hl4).mono ?_; rintro e w5 ⟨rfl, hb5⟩; have HB5 := qh (HB4.out.trans (hb5.mono HB4.out.size)); have HT5 := qh (HT.out.below HB5.out); clear hb5)
     | (go_at_call 69; refine (HK.out _ HT5.out.at_).mono ?_; rintro e w6 ⟨rfl, hb6⟩; have HB6 := qh (HB5.out.trans (hb6.mono HB5.out.size)); have HT6 := qh (HT.out.below HB6.out); clear hb6)
     | (go_at_call 140; refine (HO.out _ ((HB6.out.block _ (blk_lt HV.out.1)).trans HV.out.1) ((HB6.out.block _ (blk_lt HV.out.2)).trans HV.out.2)).mono ?_; rintro e w7 ⟨rfl, hb7⟩; have HB7 := qh (HB6.out.trans (hb7.mono HB6.out.size)); have HT7 := qh (HT.out.below HB7.out); clear hb7)
     | (go_at_call 146; refine (HU.out _ HT7.out).mono ?_; rintro e w8 ⟨rfl, hT8, hF8⟩))
    go_ret
    exact ⟨rfl, hT8, (Frm.ofBelow HB7.out).trans hF8⟩
   ·
    have hm : mayK true kd = 7 := by unfold mayK; rw [if_pos rfl, if_neg hk1]
    rw [hm, if_pos (by simp)]
    have HO := qh (fun W q1 q2 => HO0.out kd W q1 q2)
    rw [if_neg hk1] at HO
    clear HO0 hm hk1
    clear hin hn HU
    go_enter Tryz.func113, Tryz.ntmps113
    go_wp2_with (first
     | (go_at_call 93; refine (HP.out _ HT.out.at_).mono ?_; rintro e w3 ⟨rfl, hb3⟩; have HB3 := qh hb3; have HT3 := qh (HT.out.below hb3); clear hb3)
     | (go_at_call 74; refine (HL.out _ HT3.out.at_).mono ?_; rintro e w4 ⟨v, rfl, hv, hb4⟩; obtain ⟨A4, c4, rfl, hl4, hC4⟩ := Kd.R_reads hv; have HB4 := qh (HB3.out.trans (hb4.mono HB3.out.size)); have HC4 := qh hC4; clear hv hb4 hC4)
     | (go_at_call 94; refine (HE.out _ _ _ HC4.out hl4).mono ?_; rintro e w5 ⟨rfl, hb5⟩; have HB5 := qh (HB4.out.trans (hb5.mono HB4.out.size)); have HT5 := qh (HT.out.below HB5.out); clear hb5)
     | (go_at_call 69; refine (HK.out _ HT5.out.at_).mono ?_; rintro e w6 ⟨rfl, hb6⟩; have HB6 := qh (HB5.out.trans (hb6.mono HB5.out.size)); have HT6 := qh (HT.out.below HB6.out); clear hb6)
     | (go_at_call 140; refine (HO.out _ ((HB6.out.block _ (blk_lt HV.out.1)).trans HV.out.1) ((HB6.out.block _ (blk_lt HV.out.2)).trans HV.out.2)).mono ?_; rintro e w7 ⟨rfl, hb7⟩; have HB7 := qh (HB6.out.trans (hb7.mono HB6.out.size)); have HT7 := qh (HT.out.below HB7.out); clear hb7))
    go_ret
    exact left_err HT.out HB7.out
 ·
  rw [if_pos he]
  have b1 : (e != 0) = true := bne_iff_ne.2 he
  clear he
  go_enter Tryz.func113, Tryz.ntmps113
  go_wp2_with (go_at_call 93; refine (HP.out _ HT.out.at_).mono ?_; rintro e w3 ⟨rfl, hb3⟩; have HB3 := qh hb3; have HT3 := qh (HT.out.below hb3); clear hb3)
  go_ret
  exact left_err HT.out HB3.out
theorem cutU_calls (p B : Nat) (L : List RN) (last : Int) (s : ByteArray) (w : World) (h : TreeB w p B (trOf L last)) (hG : GoodL L last) (hM : GoodM L) (hla : last < 1000000) :
  Calls Tryz.prog 113 #[pT p, .string s, .func (.func 114) #[] #[]] w (Left p B w (cutP L last s false)) := by
 have hO := trOK hG (by omega)
 obtain ⟨k, hk⟩ := spotV_spec hG hM s
 obtain ⟨hw, hz⟩ := spotF_wf hO hk
 have HP := qh (fun W h => spot_calls p (trOf L last) s k _ W h hO hk)
 have HL := qh (fun W h => list_calls p (trOf L last) (spotV L last s).1 W h hw (hO.small.node _))
 have HE := qh (fun A c W h hc => find_calls A c ((trOf L last).node (spotV L last s).1).ents (spotV L last s).2.1 W h hc (hO.small.node _) (node_rt hO _))
 rw [node_of hG (spotV L last s).1] at HE HL
 simp only [find_ents hG (spotV L last s).1 (spotV L last s).2.1] at HE
 have hwn := hO.wf_find (spotV L last s).1 (spotV L last s).2.1
 rw [node_of hG (spotV L last s).1] at hwn
 simp only [find_ents hG (spotV L last s).1 (spotV L last s).2.1] at hwn
 have HK := qh (fun W h => kind_calls p (trOf L last) (inR L (spotV L last s).1 (spotV L last s).2.1) W h hwn)
 rw [node_of hG (inR L (spotV L last s).1 (spotV L last s).2.1)] at HK
 simp only [] at HK HL
 have HU := qh (fun W h => tcut_calls p B L last (spotV L last s).1 (spotV L last s).2.1 W h hG hw (by omega))
 have HT := qh h
 have hin := inR_le hG (spotV L last s).1 (spotV L last s).2.1
 unfold cutP
 generalize cutRE L (spotV L last s).1 (spotV L last s).2.1 = ce at *
 generalize hcs : cutS L (spotV L last s).1 (spotV L last s).2.1 = cs at *
 generalize (atR L (inR L (spotV L last s).1 (spotV L last s).2.1)).f3 = kd at *
 generalize inR L (spotV L last s).1 (spotV L last s).2.1 = n at *
 generalize entsOf L (spotV L last s).1 = es at *
 generalize spotV L last s = R at *
 obtain ⟨d, z, e⟩ := R
 simp only [] at *
 clear h hO hG hM hla hk hw hz hcs hwn
 by_cases he : e = 0
 ·
  subst he
  rw [if_neg (by simp)]
  by_cases hn : n = 0
  ·
   subst hn
   rw [if_pos rfl]
   rw [show decide ((0 : Int) < 0) = false from rfl] at HE
   clear HK HU hin
   go_enter Tryz.func113, Tryz.ntmps113
   go_wp2_with (first
    | (go_at_call 93; refine (HP.out _ HT.out.at_).mono ?_; rintro e w3 ⟨rfl, hb3⟩; have HB3 := qh hb3; have HT3 := qh (HT.out.below hb3); clear hb3)
    | (go_at_call 74; refine (HL.out _ HT3.out.at_).mono ?_; rintro e w4 ⟨v, rfl, hv, hb4⟩; obtain ⟨A4, c4, rfl, hl4, hC4⟩ := Kd.R_reads hv; have HB4 := qh (HB3.out.trans (hb4.mono HB3.out.size)); have HC4 := qh hC4; clear hv hb4 hC4)
    | (go_at_call 94; refine (HE.out _ _ _ HC4.out hl4).mono ?_; rintro e w5 ⟨rfl, hb5⟩; have HB5 := qh (HB4.out.trans (hb5.mono HB4.out.size)); have HT5 := qh (HT.out.below HB5.out); clear hb5))
   go_ret
   exact left_err HT.out HB5.out
  ·
   rw [if_neg hn]
   rw [decide_eq_true (show 0 < n by omega)] at HE
   by_cases hk1 : kd = 1
   ·
    subst hk1
    have hm : mayK false 1 = 8 := rfl
    rw [hm, if_pos (by simp)]
    have HO := qh (fun W => unlink1_calls 1 W)
    rw [if_pos rfl] at HO
    clear hm
    clear hin hn HU
    go_enter Tryz.func113, Tryz.ntmps113
    go_wp2_with (first
     | (go_at_call 93; refine (HP.out _ HT.out.at_).mono ?_; rintro e w3 ⟨rfl, hb3⟩; have HB3 := qh hb3; have HT3 := qh (HT.out.below hb3); clear hb3)
     | (go_at_call 74; refine (HL.out _ HT3.out.at_).mono ?_; rintro e w4 ⟨v, rfl, hv, hb4⟩; obtain ⟨A4, c4, rfl, hl4, hC4⟩ := Kd.R_reads hv; have HB4 := qh (HB3.out.trans (hb4.mono HB3.out.size)); have HC4 := qh hC4; clear hv hb4 hC4)
     | (go_at_call 94; refine (HE.out _ _ _ HC4.out hl4).mono ?_; rintro e w5 ⟨rfl, hb5⟩; have HB5 := qh (HB4.out.trans (hb5.mono HB4.out.size)); have HT5 := qh (HT.out.below HB5.out); clear hb5)
     | (go_at_call 69; refine (HK.out _ HT5.out.at_).mono ?_; rintro e w6 ⟨rfl, hb6⟩; have HB6 := qh (HB5.out.trans (hb6.mono HB5.out.size)); have HT6 := qh (HT.out.below HB6.out); clear hb6)
     | (go_at_call 114; refine (HO.out _).mono ?_; rintro e w7 ⟨rfl, hb7⟩; have HB7 := qh (HB6.out.trans (hb7.mono HB6.out.size)); have HT7 := qh (HT.out.below HB7.out); clear hb7))
    go_ret
    exact left_err HT.out HB7.out
   ·
    have hm : mayK false kd = 0 := by unfold mayK; rw [if_neg (by simp), if_neg hk1]
    rw [hm, if_neg (by simp)]
    have HO := qh (fun W => unlink1_calls kd W)
    rw [if_neg hk1] at HO
    clear hm hk1
    clear hin hn
    go_enter Tryz.func113, Tryz.ntmps113
    go_wp2_with (first
     | (go_at_call 93; refine (HP.out _ HT.out.at_).mono ?_; rintro e w3 ⟨rfl, hb3⟩; have HB3 := qh hb3; have HT3 := qh (HT.out.below hb3); clear hb3)
     | (go_at_call 74; refine (HL.out _ HT3.out.at_).mono ?_; rintro e w4 ⟨v, rfl, hv, hb4⟩; obtain ⟨A4, c4, rfl, hl4, hC4⟩ := Kd.R_reads hv; have HB4 := qh (HB3.out.trans (hb4.mono HB3.out.size)); have HC4 := qh hC4; clear hv hb4 hC4)
     | (go_at_call 94; refine (HE.out _ _ _ HC4.out hl4).mono ?_; rintro e w5 ⟨rfl, hb5⟩; have HB5 := qh (HB4.out.trans (hb5.mono HB4.out.size)); have HT5 := qh (HT.out.below HB5.out); clear hb5)
     | (go_at_call 69; refine (HK.out _ HT5.out.at_).mono ?_; rintro e w6 ⟨rfl, hb6⟩; have HB6 := qh (HB5.out.trans (hb6.mono HB5.out.size)); have HT6 := qh (HT.out.below HB6.out); clear hb6)
     | (go_at_call 114; refine (HO.out _).mono ?_; rintro e w7 ⟨rfl, hb7⟩; have HB7 := qh (HB6.out.trans (hb7.mono HB6.out.size)); have HT7 := qh (HT.out.below HB7.out); clear hb7)
     | (go_at_call 146; refine (HU.out _ HT7.out).mono ?_; rintro e w8 ⟨rfl, hT8, hF8⟩))
    go_ret
    exact ⟨rfl, hT8, (Frm.ofBelow HB7.out).trans hF8⟩
 ·
  rw [if_pos he]
  have b1 : (e != 0) = true := bne_iff_ne.2 he
  clear he
  go_enter Tryz.func113, Tryz.ntmps113
  go_wp2_with (go_at_call 93; refine (HP.out _ HT.out.at_).mono ?_; rintro e w3 ⟨rfl, hb3⟩; have HB3 := qh hb3; have HT3 := qh (HT.out.below hb3); clear hb3)
  go_ret
  exact left_err HT.out HB3.out
theorem rmdir9_calls (p B : Nat) (L : List RN) (last : Int) (s : ByteArray) (w : World) (h : TreeB w p B (trOf L last)) (hG : GoodL L last) (hM : GoodM L) (hla : last < 1000000) :
  Calls Tryz.prog 63 #[pT p, .string s] w (Left p B w (cutP L last s true)) := by
 have HP := qh (fun v W h hv => cutR_calls p B L last s v W h hG hM hla hv)
 have HO := qh (only_calls 1 7 w)
 have HT := qh h
 generalize cutP L last s true = o at *
 clear h hG hM hla
 go_enter Tryz.func63, Tryz.ntmps63
 go_wp2_with (first | (go_at_call 96; refine HO.out.mono ?_; rintro e w2 ⟨v, rfl, hv, hb2⟩; have HV := qh hv; clear hv) | (go_at_call 113; refine (HP.out _ _ (HT.out.below hb2) HV.out).mono ?_; rintro e w3 ⟨rfl, hT, hF⟩))
 go_ret
 exact ⟨rfl, hT, (Frm.ofBelow hb2).trans hF⟩
theorem unlink9_calls (p B : Nat) (L : List RN) (last : Int) (s : ByteArray) (w : World) (h : TreeB w p B (trOf L last)) (hG : GoodL L last) (hM : GoodM L) (hla : last < 1000000) :
  Calls Tryz.prog 65 #[pT p, .string s] w (Left p B w (cutP L last s false)) := by
 have HP := qh (cutU_calls p B L last s w h hG hM hla)
 generalize cutP L last s false = o at *
 clear h hG hM hla
 go_enter Tryz.func65, Tryz.ntmps65
 go_wp2_with (go_at_call 113; refine HP.out.mono ?_; rintro e w3 ⟨rfl, hT, hF⟩)
 go_ret
 exact ⟨rfl, hT, hF⟩
theorem findV_wf {L : List RN} {last : Int} (hG : GoodL L last) (hM : GoodM L) (hla : last ≤ 1000000) (lst : Bool) (s : ByteArray) : wf (findV L last lst s).1 := by
 obtain ⟨k, hk⟩ := findV_spec hG hM lst s
 exact find_wf hG hM hla hk
theorem write9_calls (p B : Nat) (L : List RN) (last : Int) (s data : ByteArray) (w : World) (h : TreeB w p B (trOf L last)) (hG : GoodL L last) (hM : GoodM L) (hla : last < 1000000) :
  Calls Tryz.prog 52 #[pT p, .string s, .string data] w (Left p B w (wrP L last s data)) := by
 have hO := trOK hG (by omega)
 obtain ⟨k1, hk1⟩ := findV_spec hG hM true s
 have hwF := findV_wf hG hM (by omega) true s
 obtain ⟨k, hk⟩ := spotV_spec hG hM s
 obtain ⟨hw, hz⟩ := spotF_wf hO hk
 have HS := qh (fun W h => pstat_calls p (trOf L last) s k1 _ W h hO hwF hk1)
 have HST : Hid (stT (trOf L last) (findV L last true s) = if (findV L last true s).2 = 0 then ((findV L last true s).1, ((trOf L last).node (findV L last true s).1).kind, sizeT (trOf L last) (findV L last true s).1) else (0, 0, 0)) := qh rfl
 have HP := qh (fun W h => spot_calls p (trOf L last) s k _ W h hO hk)
 have HL := qh (fun W h => list_calls p (trOf L last) (spotV L last s).1 W h hw (hO.small.node _))
 have HE := qh (fun A c W h hc => find_calls A c ((trOf L last).node (spotV L last s).1).ents (spotV L last s).2.1 W h hc (hO.small.node _) (node_rt hO _))
 rw [node_of hG (spotV L last s).1] at HE HL
 simp only [find_ents hG (spotV L last s).1 (spotV L last s).2.1] at HE
 simp only [] at HL
 have HU := qh (fun W h => tput_calls p B L last (spotV L last s).1 (spotV L last s).2.1 2 data W h hG hw (by omega) hla)
 have HSET := qh (fun W h => tset_calls p B L last (findV L last true s).1 data W h hG hM hwF)
 have hin := inR_le hG (spotV L last s).1 (spotV L last s).2.1
 have HT := qh h
 unfold wrP
 generalize hst : stT (trOf L last) (findV L last true s) = st at *
 generalize sizeT (trOf L last) (findV L last true s).1 = sz at *
 generalize (trOf L last).node (findV L last true s).1 = nd at *
 generalize setRE L (findV L last true s).1 data = se at *
 generalize hsl : setS L (findV L last true s).1 data = sl at *
 generalize putA L last (spotV L last s).1 (spotV L last s).2.1 2 data = pa at *
 generalize putRE L (spotV L last s).1 (spotV L last s).2.1 2 data = pe at *
 generalize hpl : putL L last (spotV L last s).1 (spotV L last s).2.1 2 data = pl at *
 generalize hpn : putN L last (spotV L last s).1 (spotV L last s).2.1 2 data = pn at *
 generalize inR L (spotV L last s).1 (spotV L last s).2.1 = n at *
 generalize entsOf L (spotV L last s).1 = es at *
 generalize spotV L last s = R at *
 generalize findV L last true s = F at *
 obtain ⟨d, z, e⟩ := R
 obtain ⟨fn, fe⟩ := F
 obtain ⟨s0, s1, s2⟩ := st
 obtain ⟨nk, nu, ndd, nes⟩ := nd
 simp only [] at *
 clear h hO hG hM hla hk hw hz hk1 hwF hst hsl hpl hpn
 have hu := Tryz.underlying143
 by_cases hfe : fe = 0
 ·
  subst hfe
  rw [if_pos rfl]
  have hst := HST.out
  rw [if_pos rfl] at hst
  have q0 : fn = s0 := (congrArg Prod.fst hst).symm
  have q1 : nk = s1 := (congrArg (fun x => x.2.1) hst).symm
  have q2 : sz = s2 := (congrArg (fun x => x.2.2) hst).symm
  subst q0 q1 q2
  clear hst HST hin HP HL HE HU
  go_enter Tryz.func52, Tryz.ntmps52
  go_wp2_with (first | (go_at_call 91; refine (HS.out _ HT.out.at_).mono ?_; rintro e w2 ⟨rfl, hb2⟩; have HB2 := qh (hb2.alloc hb2.size (.cells #[.int .i64 fn, .int .i64 nk, .int .i64 sz] 143)); have HT2 := qh (HT.out.below HB2.out); clear hb2) | (go_at_call 92; refine (HSET.out _ HT2.out).mono ?_; rintro e w6 ⟨rfl, hT6, hf6⟩))
  go_ret
  exact ⟨rfl, hT6, (Frm.ofBelow HB2.out).trans hf6⟩
 ·
  rw [if_neg hfe]
  have hst := HST.out
  rw [if_neg hfe] at hst
  cases hst
  have b1 : (fe == 0) = false := beq_eq_false_iff_ne.2 hfe
  clear HST HSET
  by_cases hf5 : fe = 5
  ·
   subst hf5
   rw [if_neg (by simp)]
   clear hfe
   by_cases he : e = 0
   ·
    subst he
    rw [if_neg (by simp)]
    by_cases hn : n = 0
    ·
     subst hn
     rw [if_neg (by simp)]
     rw [show decide ((0 : Int) < 0) = false from rfl] at HE
     clear hin
     go_enter Tryz.func52, Tryz.ntmps52
     go_wp2_with (first | (go_at_call 91; refine (HS.out _ HT.out.at_).mono ?_; rintro e w2 ⟨rfl, hb2⟩; have HB2 := qh (hb2.alloc hb2.size (.cells #[.int .i64 0, .int .i64 0, .int .i64 0] 143)); have HT2 := qh (HT.out.below HB2.out); clear hb2) | (go_at_call 93; refine (HP.out _ HT2.out.at_).mono ?_; rintro e w3 ⟨rfl, hb3⟩; have HB3 := qh (HB2.out.trans (hb3.mono HB2.out.size)); have HT3 := qh (HT.out.below HB3.out); clear hb3) | (go_at_call 74; refine (HL.out _ HT3.out.at_).mono ?_; rintro e w4 ⟨v, rfl, hv, hb4⟩; obtain ⟨A4, c4, rfl, hl4, hC4⟩ := Kd.R_reads hv; have HB4 := qh (HB3.out.trans (hb4.mono HB3.out.size)); have HC4 := qh hC4; clear hv hb4 hC4) | (go_at_call 94; refine (HE.out _ _ _ HC4.out hl4).mono ?_; rintro e w5 ⟨rfl, hb5⟩; have HB5 := qh (HB4.out.trans (hb5.mono HB4.out.size)); clear hb5) | (go_at_call 56; refine (HU.out _ (HT.out.below HB5.out)).mono ?_; rintro e w6 ⟨rfl, hT6, hf6⟩))
     go_ret
     exact ⟨rfl, hT6, (Frm.ofBelow HB5.out).trans hf6⟩
    ·
     rw [if_pos hn]
     rw [decide_eq_true (show 0 < n by omega)] at HE
     clear hin hn HU
     go_enter Tryz.func52, Tryz.ntmps52
     go_wp2_with (first | (go_at_call 91; refine (HS.out _ HT.out.at_).mono ?_; rintro e w2 ⟨rfl, hb2⟩; have HB2 := qh (hb2.alloc hb2.size (.cells #[.int .i64 0, .int .i64 0, .int .i64 0] 143)); have HT2 := qh (HT.out.below HB2.out); clear hb2) | (go_at_call 93; refine (HP.out _ HT2.out.at_).mono ?_; rintro e w3 ⟨rfl, hb3⟩; have HB3 := qh (HB2.out.trans (hb3.mono HB2.out.size)); have HT3 := qh (HT.out.below HB3.out); clear hb3) | (go_at_call 74; refine (HL.out _ HT3.out.at_).mono ?_; rintro e w4 ⟨v, rfl, hv, hb4⟩; obtain ⟨A4, c4, rfl, hl4, hC4⟩ := Kd.R_reads hv; have HB4 := qh (HB3.out.trans (hb4.mono HB3.out.size)); have HC4 := qh hC4; clear hv hb4 hC4) | (go_at_call 94; refine (HE.out _ _ _ HC4.out hl4).mono ?_; rintro e w5 ⟨rfl, hb5⟩; have HB5 := qh (HB4.out.trans (hb5.mono HB4.out.size)); clear hb5))
     go_ret
     exact left_err HT.out HB5.out
   ·
    rw [if_pos he]
    have b3 : (e != 0) = true := bne_iff_ne.2 he
    clear he hin HL HE HU
    go_enter Tryz.func52, Tryz.ntmps52
    go_wp2_with (first | (go_at_call 91; refine (HS.out _ HT.out.at_).mono ?_; rintro e w2 ⟨rfl, hb2⟩; have HB2 := qh (hb2.alloc hb2.size (.cells #[.int .i64 0, .int .i64 0, .int .i64 0] 143)); have HT2 := qh (HT.out.below HB2.out); clear hb2) | (go_at_call 93; refine (HP.out _ HT2.out.at_).mono ?_; rintro e w3 ⟨rfl, hb3⟩; have HB3 := qh (HB2.out.trans (hb3.mono HB2.out.size)); have HT3 := qh (HT.out.below HB3.out); clear hb3))
    go_ret
    exact left_err HT.out HB3.out
  ·
   rw [if_pos hf5]
   have b2 : (fe != 5) = true := bne_iff_ne.2 hf5
   clear hfe hf5 hin HP HL HE HU
   go_enter Tryz.func52, Tryz.ntmps52
   go_wp2_with (go_at_call 91; refine (HS.out _ HT.out.at_).mono ?_; rintro e w2 ⟨rfl, hb2⟩; have HB2 := qh (hb2.alloc hb2.size (.cells #[.int .i64 0, .int .i64 0, .int .i64 0] 143)); have HT2 := qh (HT.out.below HB2.out); clear hb2)
   go_ret
   exact left_err HT.out HB2.out
theorem two_blocks (w : World) (o1 o2 : Obj) : ((w.alloc o1).alloc o2).heap[w.heap.size]? = some o1 ∧ ((w.alloc o1).alloc o2).heap[w.heap.size + 1]? = some o2 ∧ Below w.heap.size w ((w.alloc o1).alloc o2) := by
 have s1 : (w.alloc o1).heap.size = w.heap.size + 1 := Array.size_push _
 refine ⟨?_, ?_, ?_⟩
 · rw [heap_alloc_old _ _ _ (by omega), heap_alloc_new]
 · rw [← s1, heap_alloc_new]
 · exact ((Below.refl _ w).alloc (Nat.le_refl _) _).alloc (by omega) _
abbrev fnV (k : Nat) : Value := .func (.func k) #[] #[]
def ByV (W : World) (v : Value) (k : Nat) : Prop := ∃ g : Nat, v = .func (.func 151) #[] #[.pointer (some ⟨g, 0, none⟩)] ∧ W.heap[g]? = some (.cells #[fnV k] 104 (0, 0))
theorem ByV.below {w W : World} {v : Value} {k : Nat} (h : ByV w v k) (hb : Below w.heap.size w W) : ByV W v k := by
 obtain ⟨g, rfl, h1⟩ := h
 exact ⟨g, rfl, (hb.block _ (blk_lt h1)).trans h1⟩
theorem one_set {w : World} {k : Nat} {v0 u0 : Value} {t : TypeId} (h : w.heap[k]? = some (.cells #[v0] t (0, 0))) : (w.setCell ⟨k, 0, none⟩ u0).heap[k]? = some (.cells #[u0] t (0, 0)) := by
 rw [setCell_eq_setRow w _ 0 _ _ _ _ h, setRow_heap w _ _ _ _ _ h]; rfl
theorem by_calls (k : Nat) (w : World) : Calls Tryz.prog 121 #[fnV k] w fun r w' => ∃ v, r = .returned (.agg #[v]) ∧ ByV w' v k ∧ Below w.heap.size w w' := by
 have hu := Tryz.underlying122
 obtain ⟨k1, k2, k3⟩ := two_blocks w (.cells #[fnV k] 104) (.cells #[.nilFunc] 122)
 have HK := qh (And.intro k1 (And.intro k2 k3))
 clear k1 k2 k3
 go_enter Tryz.func121, Tryz.ntmps121
 go_upto_region 1 with (fail)
 generalize (w.alloc (.cells #[fnV k] 104)).alloc (.cells #[.nilFunc] 122) = w2 at HK ⊢
 generalize hb0 : w.heap.size = b at HK ⊢
 have HW0 := qh hb0
 clear hb0
 obtain ⟨h1, h2, h3⟩ := HK.out
 have r0 : w2.cell? ⟨b + 1, 0, none⟩ = some .nilFunc := by rw [blk_cell h2]; rfl
 have f0 := blk_frozen h2 0
 clear HK
 go_wp2
 have e2 := one_set (u0 := .func (.func 151) #[] #[.pointer (some ⟨b, 0, none⟩)]) h2
 have t0 : (w2.setCell ⟨b + 1, 0, none⟩ (.func (.func 151) #[] #[.pointer (some ⟨b, 0, none⟩)])).cell? ⟨b + 1, 0, none⟩ = some (.func (.func 151) #[] #[.pointer (some ⟨b, 0, none⟩)]) := by rw [blk_cell e2]; rfl
 refine bodyPost_ret (v := .agg #[.func (.func 151) #[] #[.pointer (some ⟨b, 0, none⟩)]]) (by simp [results, Tryz.results121, go_sem, t0, hu]) rfl ⟨_, rfl, ⟨b, rfl, ?_⟩, ?_⟩
 · exact (Below.heap_setCell w2 ⟨b + 1, 0, none⟩ _ b (by simp)).trans h1
 · rw [HW0.out]; exact h3.setCell (p := ⟨b + 1, 0, none⟩) (Nat.le_succ b) _
theorem seven_set {w : World} {r : Nat} {a0 a1 a2 a3 a4 a5 a6 v0 v1 v2 v3 v4 v5 v6 : Value} {t : TypeId} (h : w.heap[r]? = some (.cells #[a0, a1, a2, a3, a4, a5, a6] t (0, 0))) :
  (((((((w.setCell ⟨r, 0, none⟩ v0).setCell ⟨r, 1, none⟩ v1).setCell ⟨r, 2, none⟩ v2).setCell ⟨r, 3, none⟩ v3).setCell ⟨r, 4, none⟩ v4).setCell ⟨r, 5, none⟩ v5).setCell ⟨r, 6, none⟩ v6).heap[r]? = some (.cells #[v0, v1, v2, v3, v4, v5, v6] t (0, 0)) := by
 have k0 : (w.setCell ⟨r, 0, none⟩ v0).heap[r]? = some (.cells #[v0, a1, a2, a3, a4, a5, a6] t (0, 0)) := by rw [setCell_eq_setRow w _ 0 _ _ _ _ h, setRow_heap w _ _ _ _ _ h]; rfl
 have k1 : ((w.setCell ⟨r, 0, none⟩ v0).setCell ⟨r, 1, none⟩ v1).heap[r]? = some (.cells #[v0, v1, a2, a3, a4, a5, a6] t (0, 0)) := by rw [setCell_eq_setRow _ _ 1 _ _ _ _ k0, setRow_heap _ _ _ _ _ _ k0]; rfl
 have k2 : (((w.setCell ⟨r, 0, none⟩ v0).setCell ⟨r, 1, none⟩ v1).setCell ⟨r, 2, none⟩ v2).heap[r]? = some (.cells #[v0, v1, v2, a3, a4, a5, a6] t (0, 0)) := by rw [setCell_eq_setRow _ _ 2 _ _ _ _ k1, setRow_heap _ _ _ _ _ _ k1]; rfl
 have k3 : ((((w.setCell ⟨r, 0, none⟩ v0).setCell ⟨r, 1, none⟩ v1).setCell ⟨r, 2, none⟩ v2).setCell ⟨r, 3, none⟩ v3).heap[r]? = some (.cells #[v0, v1, v2, v3, a4, a5, a6] t (0, 0)) := by rw [setCell_eq_setRow _ _ 3 _ _ _ _ k2, setRow_heap _ _ _ _ _ _ k2]; rfl
 have k4 : (((((w.setCell ⟨r, 0, none⟩ v0).setCell ⟨r, 1, none⟩ v1).setCell ⟨r, 2, none⟩ v2).setCell ⟨r, 3, none⟩ v3).setCell ⟨r, 4, none⟩ v4).heap[r]? = some (.cells #[v0, v1, v2, v3, v4, a5, a6] t (0, 0)) := by rw [setCell_eq_setRow _ _ 4 _ _ _ _ k3, setRow_heap _ _ _ _ _ _ k3]; rfl
 have k5 : ((((((w.setCell ⟨r, 0, none⟩ v0).setCell ⟨r, 1, none⟩ v1).setCell ⟨r, 2, none⟩ v2).setCell ⟨r, 3, none⟩ v3).setCell ⟨r, 4, none⟩ v4).setCell ⟨r, 5, none⟩ v5).heap[r]? = some (.cells #[v0, v1, v2, v3, v4, v5, a6] t (0, 0)) := by rw [setCell_eq_setRow _ _ 5 _ _ _ _ k4, setRow_heap _ _ _ _ _ _ k4]; rfl
 rw [setCell_eq_setRow _ _ 6 _ _ _ _ k5, setRow_heap _ _ _ _ _ _ k5]; rfl
theorem seven_other {w : World} {r j : Nat} {v0 v1 v2 v3 v4 v5 v6 : Value} {X : Option Obj} (hne : j ≠ r) (h : w.heap[j]? = X) :
  (((((((w.setCell ⟨r, 0, none⟩ v0).setCell ⟨r, 1, none⟩ v1).setCell ⟨r, 2, none⟩ v2).setCell ⟨r, 3, none⟩ v3).setCell ⟨r, 4, none⟩ v4).setCell ⟨r, 5, none⟩ v5).setCell ⟨r, 6, none⟩ v6).heap[j]? = X := by
 rw [Below.heap_setCell _ ⟨r, 6, none⟩ _ j hne, Below.heap_setCell _ ⟨r, 5, none⟩ _ j hne, Below.heap_setCell _ ⟨r, 4, none⟩ _ j hne, Below.heap_setCell _ ⟨r, 3, none⟩ _ j hne, Below.heap_setCell _ ⟨r, 2, none⟩ _ j hne, Below.heap_setCell _ ⟨r, 1, none⟩ _ j hne, Below.heap_setCell _ ⟨r, 0, none⟩ _ j hne, h]
theorem by_other {w W : World} {b k : Nat} {v : Value} {cs : Array Value} (h : ByV w v k) (hb : w.heap[b]? = some (.cells cs 123 (0, 0))) (HO : ∀ (g : Nat) (o : Obj), w.heap[g]? = some o → g ≠ b → W.heap[g]? = some o) : ByV W v k := by
 obtain ⟨g, rfl, h1⟩ := h
 refine ⟨g, rfl, HO g _ h1 ?_⟩
 rintro rfl
 rw [hb] at h1
 injection h1 with h1
 injection h1 with _ h1
 exact absurd h1 (by decide)
theorem deeds_calls (w : World) : Calls Tryz.prog 78 #[] w fun r w' => ∃ v1 v2 v4, r = .returned (.agg #[.nilFunc, v1, v2, fnV 122, v4, fnV 123, fnV 124]) ∧
  (ByV w' v1 62 ∧ ByV w' v2 63 ∧ ByV w' v4 65) ∧ Below w.heap.size w w' := by
 have hu := Tryz.underlying122
 have hu3 := Tryz.underlying123
 have HY := qh (fun k W => by_calls k W)
 have HB1 := qh ((Below.refl w.heap.size w).alloc (Nat.le_refl _) (.cells #[.nilFunc, .nilFunc, .nilFunc, .nilFunc, .nilFunc, .nilFunc, .nilFunc] 123))
 have H1 := qh (heap_alloc_new w (.cells #[.nilFunc, .nilFunc, .nilFunc, .nilFunc, .nilFunc, .nilFunc, .nilFunc] 123))
 go_enter Tryz.func78, Tryz.ntmps78
 go_upto_region 1 with (fail)
 generalize w.alloc (.cells #[.nilFunc, .nilFunc, .nilFunc, .nilFunc, .nilFunc, .nilFunc, .nilFunc] 123) = w1 at HB1 H1 ⊢
 generalize hb0 : w.heap.size = b at HB1 H1 ⊢
 have HW0 := qh hb0
 clear hb0
 have HX := qh (fun (W : World) (hb : Below w1.heap.size w1 W) => show (W.cell? ⟨b, 0, none⟩ = some .nilFunc ∧ W.cell? ⟨b, 1, none⟩ = some .nilFunc ∧ W.cell? ⟨b, 2, none⟩ = some .nilFunc ∧ W.cell? ⟨b, 3, none⟩ = some .nilFunc ∧ W.cell? ⟨b, 4, none⟩ = some .nilFunc ∧ W.cell? ⟨b, 5, none⟩ = some .nilFunc ∧ W.cell? ⟨b, 6, none⟩ = some .nilFunc) ∧ (W.frozen? ⟨b, 0, none⟩ = false ∧ W.frozen? ⟨b, 1, none⟩ = false ∧ W.frozen? ⟨b, 2, none⟩ = false ∧ W.frozen? ⟨b, 3, none⟩ = false ∧ W.frozen? ⟨b, 4, none⟩ = false ∧ W.frozen? ⟨b, 5, none⟩ = false ∧ W.frozen? ⟨b, 6, none⟩ = false) by
  have e1 := (hb.block _ (blk_lt H1.out)).trans H1.out
  refine ⟨⟨?_, ?_, ?_, ?_, ?_, ?_, ?_⟩, blk_frozen e1 0, blk_frozen e1 1, blk_frozen e1 2, blk_frozen e1 3, blk_frozen e1 4, blk_frozen e1 5, blk_frozen e1 6⟩ <;> (rw [blk_cell e1]; rfl))
 have HE1 := qh (Below.refl w1.heap.size w1)
 go_wp2_with (first
  | (go_at_call 121; refine (HY.out _ _).mono ?_; rintro e w4 ⟨v4, rfl, hv4, hb⟩; have HE4 := qh (HE3.out.trans (hb.mono HE3.out.size)); have HV4 := qh hv4; obtain ⟨g4, rfl, -⟩ := hv4; have HV1 := qh (HV1.out.below hb); have HV2 := qh (HV2.out.below hb); clear hb; obtain ⟨⟨x0, x1, x2, x3, x4, x5, x6⟩, y0, y1, y2, y3, y4, y5, y6⟩ := HX.out _ HE4.out)
  | (go_at_call 121; refine (HY.out _ _).mono ?_; rintro e w3 ⟨v2, rfl, hv2, hb⟩; have HE3 := qh (HE2.out.trans (hb.mono HE2.out.size)); have HV2 := qh hv2; obtain ⟨g2, rfl, -⟩ := hv2; have HV1 := qh (HV1.out.below hb); clear hb)
  | (go_at_call 121; refine (HY.out _ _).mono ?_; rintro e w2 ⟨v1, rfl, hv1, hb⟩; have HE2 := qh (HE1.out.trans (hb.mono HE1.out.size)); have HV1 := qh hv1; obtain ⟨g1, rfl, -⟩ := hv1; clear hb))
 have e4 := (HE4.out.block _ (blk_lt H1.out)).trans H1.out
 have e5 := seven_set (v0 := .nilFunc) (v1 := .func (.func 151) #[] #[.pointer (some ⟨g1, 0, none⟩)]) (v2 := .func (.func 151) #[] #[.pointer (some ⟨g2, 0, none⟩)]) (v3 := fnV 122) (v4 := .func (.func 151) #[] #[.pointer (some ⟨g4, 0, none⟩)]) (v5 := fnV 123) (v6 := fnV 124) e4
 have HB9 : Hid (Below b w ((((((((w4).setCell ⟨b, 0, none⟩ (.nilFunc)).setCell ⟨b, 1, none⟩ (.func (.func 151) #[] #[.pointer (some ⟨g1, 0, none⟩)])).setCell ⟨b, 2, none⟩ (.func (.func 151) #[] #[.pointer (some ⟨g2, 0, none⟩)])).setCell ⟨b, 3, none⟩ (fnV 122)).setCell ⟨b, 4, none⟩ (.func (.func 151) #[] #[.pointer (some ⟨g4, 0, none⟩)])).setCell ⟨b, 5, none⟩ (fnV 123)).setCell ⟨b, 6, none⟩ (fnV 124))) := qh ((((((((HB1.out.trans (HE4.out.mono (Nat.le_of_lt (blk_lt H1.out)))).setCell (p := ⟨b, 0, none⟩) (Nat.le_refl b) (.nilFunc)).setCell (p := ⟨b, 1, none⟩) (Nat.le_refl b) (.func (.func 151) #[] #[.pointer (some ⟨g1, 0, none⟩)])).setCell (p := ⟨b, 2, none⟩) (Nat.le_refl b) (.func (.func 151) #[] #[.pointer (some ⟨g2, 0, none⟩)])).setCell (p := ⟨b, 3, none⟩) (Nat.le_refl b) (fnV 122)).setCell (p := ⟨b, 4, none⟩) (Nat.le_refl b) (.func (.func 151) #[] #[.pointer (some ⟨g4, 0, none⟩)])).setCell (p := ⟨b, 5, none⟩) (Nat.le_refl b) (fnV 123)).setCell (p := ⟨b, 6, none⟩) (Nat.le_refl b) (fnV 124))
 have HO := fun (g : Nat) (o : Obj) (hg : w4.heap[g]? = some o) (hne : g ≠ b) => seven_other (v0 := .nilFunc) (v1 := .func (.func 151) #[] #[.pointer (some ⟨g1, 0, none⟩)]) (v2 := .func (.func 151) #[] #[.pointer (some ⟨g2, 0, none⟩)]) (v3 := fnV 122) (v4 := .func (.func 151) #[] #[.pointer (some ⟨g4, 0, none⟩)]) (v5 := fnV 123) (v6 := fnV 124) hne hg
 have HV : Hid (ByV ((((((((w4).setCell ⟨b, 0, none⟩ (.nilFunc)).setCell ⟨b, 1, none⟩ (.func (.func 151) #[] #[.pointer (some ⟨g1, 0, none⟩)])).setCell ⟨b, 2, none⟩ (.func (.func 151) #[] #[.pointer (some ⟨g2, 0, none⟩)])).setCell ⟨b, 3, none⟩ (fnV 122)).setCell ⟨b, 4, none⟩ (.func (.func 151) #[] #[.pointer (some ⟨g4, 0, none⟩)])).setCell ⟨b, 5, none⟩ (fnV 123)).setCell ⟨b, 6, none⟩ (fnV 124)) (.func (.func 151) #[] #[.pointer (some ⟨g1, 0, none⟩)]) 62 ∧ ByV ((((((((w4).setCell ⟨b, 0, none⟩ (.nilFunc)).setCell ⟨b, 1, none⟩ (.func (.func 151) #[] #[.pointer (some ⟨g1, 0, none⟩)])).setCell ⟨b, 2, none⟩ (.func (.func 151) #[] #[.pointer (some ⟨g2, 0, none⟩)])).setCell ⟨b, 3, none⟩ (fnV 122)).setCell ⟨b, 4, none⟩ (.func (.func 151) #[] #[.pointer (some ⟨g4, 0, none⟩)])).setCell ⟨b, 5, none⟩ (fnV 123)).setCell ⟨b, 6, none⟩ (fnV 124)) (.func (.func 151) #[] #[.pointer (some ⟨g2, 0, none⟩)]) 63 ∧ ByV ((((((((w4).setCell ⟨b, 0, none⟩ (.nilFunc)).setCell ⟨b, 1, none⟩ (.func (.func 151) #[] #[.pointer (some ⟨g1, 0, none⟩)])).setCell ⟨b, 2, none⟩ (.func (.func 151) #[] #[.pointer (some ⟨g2, 0, none⟩)])).setCell ⟨b, 3, none⟩ (fnV 122)).setCell ⟨b, 4, none⟩ (.func (.func 151) #[] #[.pointer (some ⟨g4, 0, none⟩)])).setCell ⟨b, 5, none⟩ (fnV 123)).setCell ⟨b, 6, none⟩ (fnV 124)) (.func (.func 151) #[] #[.pointer (some ⟨g4, 0, none⟩)]) 65) := qh ⟨by_other HV1.out e4 HO, by_other HV2.out e4 HO, by_other HV4.out e4 HO⟩
 clear HV1 HV2 HV4 HO
 generalize (((((((w4).setCell ⟨b, 0, none⟩ (.nilFunc)).setCell ⟨b, 1, none⟩ (.func (.func 151) #[] #[.pointer (some ⟨g1, 0, none⟩)])).setCell ⟨b, 2, none⟩ (.func (.func 151) #[] #[.pointer (some ⟨g2, 0, none⟩)])).setCell ⟨b, 3, none⟩ (fnV 122)).setCell ⟨b, 4, none⟩ (.func (.func 151) #[] #[.pointer (some ⟨g4, 0, none⟩)])).setCell ⟨b, 5, none⟩ (fnV 123)).setCell ⟨b, 6, none⟩ (fnV 124) = w9 at HB9 HV e5 ⊢
 have t0 : w9.cell? ⟨b, 0, none⟩ = some .nilFunc := by rw [blk_cell e5]; rfl
 have t1 : w9.cell? ⟨b, 1, none⟩ = some (.func (.func 151) #[] #[.pointer (some ⟨g1, 0, none⟩)]) := by rw [blk_cell e5]; rfl
 have t2 : w9.cell? ⟨b, 2, none⟩ = some (.func (.func 151) #[] #[.pointer (some ⟨g2, 0, none⟩)]) := by rw [blk_cell e5]; rfl
 have t3 : w9.cell? ⟨b, 3, none⟩ = some (fnV 122) := by rw [blk_cell e5]; rfl
 have t4 : w9.cell? ⟨b, 4, none⟩ = some (.func (.func 151) #[] #[.pointer (some ⟨g4, 0, none⟩)]) := by rw [blk_cell e5]; rfl
 have t5 : w9.cell? ⟨b, 5, none⟩ = some (fnV 123) := by rw [blk_cell e5]; rfl
 have t6 : w9.cell? ⟨b, 6, none⟩ = some (fnV 124) := by rw [blk_cell e5]; rfl
 refine bodyPost_ret (v := .agg #[.nilFunc, .func (.func 151) #[] #[.pointer (some ⟨g1, 0, none⟩)], .func (.func 151) #[] #[.pointer (some ⟨g2, 0, none⟩)], fnV 122, .func (.func 151) #[] #[.pointer (some ⟨g4, 0, none⟩)], fnV 123, fnV 124]) (by simp [results, Tryz.results78, go_sem, t0, t1, t2, t3, t4, t5, t6, hu, hu3]) rfl ⟨_, _, _, rfl, HV.out, ?_⟩
 rw [HW0.out]
 exact HB9.out
@[go_sem] theorem ix_deed1 (v0 v1 v2 v3 v4 v5 v6 : Value) (w : World) : (Instr.index 123 (.agg #[v0, v1, v2, v3, v4, v5, v6]) (.int .i64 1)).run Tryz.prog w = .ok (.agg #[v1]) w := by kernel_rfl
@[go_sem] theorem ix_deed2 (v0 v1 v2 v3 v4 v5 v6 : Value) (w : World) : (Instr.index 123 (.agg #[v0, v1, v2, v3, v4, v5, v6]) (.int .i64 2)).run Tryz.prog w = .ok (.agg #[v2]) w := by kernel_rfl
@[go_sem] theorem ix_deed3 (v0 v1 v2 v3 v4 v5 v6 : Value) (w : World) : (Instr.index 123 (.agg #[v0, v1, v2, v3, v4, v5, v6]) (.int .i64 3)).run Tryz.prog w = .ok (.agg #[v3]) w := by kernel_rfl
@[go_sem] theorem ix_deed4 (v0 v1 v2 v3 v4 v5 v6 : Value) (w : World) : (Instr.index 123 (.agg #[v0, v1, v2, v3, v4, v5, v6]) (.int .i64 4)).run Tryz.prog w = .ok (.agg #[v4]) w := by kernel_rfl
@[go_sem] theorem ix_deed5 (v0 v1 v2 v3 v4 v5 v6 : Value) (w : World) : (Instr.index 123 (.agg #[v0, v1, v2, v3, v4, v5, v6]) (.int .i64 5)).run Tryz.prog w = .ok (.agg #[v5]) w := by kernel_rfl
@[go_sem] theorem ix_deed6 (v0 v1 v2 v3 v4 v5 v6 : Value) (w : World) : (Instr.index 123 (.agg #[v0, v1, v2, v3, v4, v5, v6]) (.int .i64 6)).run Tryz.prog w = .ok (.agg #[v6]) w := by kernel_rfl
@[go_sem] theorem fl_deed (v0 : Value) (w : World) : (Instr.field 122 (.agg #[v0]) 0).run Tryz.prog w = .ok v0 w := by kernel_rfl
theorem known_yes (k : Int) (w : World) (h : 1 ≤ k ∧ k ≤ 6) : Calls Tryz.prog 76 #[.int .i64 k] w fun e w' => e = .returned (.bool true) ∧ w' = w := by
 obtain ⟨h1, h2⟩ := h
 go_enter Tryz.func76, Tryz.ntmps76
 go_wp2
 go_ret
 exact ⟨rfl, rfl⟩
theorem known_no (k : Int) (w : World) (h : ¬ (1 ≤ k ∧ k ≤ 6)) : Calls Tryz.prog 76 #[.int .i64 k] w fun e w' => e = .returned (.bool false) ∧ w' = w := by
 by_cases h1 : 1 ≤ k
 ·
  have h2 : ¬ k ≤ 6 := fun e => h ⟨h1, e⟩
  clear h
  go_enter Tryz.func76, Tryz.ntmps76
  go_wp2
  go_ret
  exact ⟨rfl, rfl⟩
 ·
  clear h
  go_enter Tryz.func76, Tryz.ntmps76
  go_wp2
  go_ret
  exact ⟨rfl, rfl⟩
theorem by1_Mkdir (p B : Nat) (L : List RN) (last k : Int) (a t : ByteArray) (g : Nat) (w : World) (h : TreeB w p B (trOf L last)) (hG : GoodL L last) (hM : GoodM L) (hla : last < 1000000) (hg : w.heap[g]? = some (.cells #[fnV 62] 104 (0, 0))) :
  Calls Tryz.prog 151 #[pT p, .agg #[.int .i64 k, .string a, .string t], .pointer (some ⟨g, 0, none⟩)] w (Left p B w (mkP L last a 1 ⟨#[]⟩)) := by
 have hB0 := (Below.refl w.heap.size w).alloc (Nat.le_refl _) (.cells #[.int .i64 k, .string a, .string t] 36)
 have HB0 := qh hB0
 have x0 : (w.alloc (.cells #[.int .i64 k, .string a, .string t] 36)).cell? ⟨g, 0, none⟩ = some (fnV 62) := by rw [blk_cell ((hB0.block _ (blk_lt hg)).trans hg)]; rfl
 have HS := qh (mkdir9_calls p B L last a _ (h.below hB0) hG hM hla)
 generalize mkP L last a 1 ⟨#[]⟩ = o at *
 clear h hG hM hla hB0 hg
 go_enter Tryz.func151, Tryz.ntmps151
 go_wp2_with (go_at_call 62; refine HS.out.mono ?_; rintro e w3 ⟨rfl, hT3, hF3⟩)
 go_ret
 exact ⟨rfl, hT3, (Frm.ofBelow HB0.out).trans hF3⟩
theorem by1_Rmdir (p B : Nat) (L : List RN) (last k : Int) (a t : ByteArray) (g : Nat) (w : World) (h : TreeB w p B (trOf L last)) (hG : GoodL L last) (hM : GoodM L) (hla : last < 1000000) (hg : w.heap[g]? = some (.cells #[fnV 63] 104 (0, 0))) :
  Calls Tryz.prog 151 #[pT p, .agg #[.int .i64 k, .string a, .string t], .pointer (some ⟨g, 0, none⟩)] w (Left p B w (cutP L last a true)) := by
 have hB0 := (Below.refl w.heap.size w).alloc (Nat.le_refl _) (.cells #[.int .i64 k, .string a, .string t] 36)
 have HB0 := qh hB0
 have x0 : (w.alloc (.cells #[.int .i64 k, .string a, .string t] 36)).cell? ⟨g, 0, none⟩ = some (fnV 63) := by rw [blk_cell ((hB0.block _ (blk_lt hg)).trans hg)]; rfl
 have HS := qh (rmdir9_calls p B L last a _ (h.below hB0) hG hM hla)
 generalize cutP L last a true = o at *
 clear h hG hM hla hB0 hg
 go_enter Tryz.func151, Tryz.ntmps151
 go_wp2_with (go_at_call 63; refine HS.out.mono ?_; rintro e w3 ⟨rfl, hT3, hF3⟩)
 go_ret
 exact ⟨rfl, hT3, (Frm.ofBelow HB0.out).trans hF3⟩
theorem by1_Unlink (p B : Nat) (L : List RN) (last k : Int) (a t : ByteArray) (g : Nat) (w : World) (h : TreeB w p B (trOf L last)) (hG : GoodL L last) (hM : GoodM L) (hla : last < 1000000) (hg : w.heap[g]? = some (.cells #[fnV 65] 104 (0, 0))) :
  Calls Tryz.prog 151 #[pT p, .agg #[.int .i64 k, .string a, .string t], .pointer (some ⟨g, 0, none⟩)] w (Left p B w (cutP L last a false)) := by
 have hB0 := (Below.refl w.heap.size w).alloc (Nat.le_refl _) (.cells #[.int .i64 k, .string a, .string t] 36)
 have HB0 := qh hB0
 have x0 : (w.alloc (.cells #[.int .i64 k, .string a, .string t] 36)).cell? ⟨g, 0, none⟩ = some (fnV 65) := by rw [blk_cell ((hB0.block _ (blk_lt hg)).trans hg)]; rfl
 have HS := qh (unlink9_calls p B L last a _ (h.below hB0) hG hM hla)
 generalize cutP L last a false = o at *
 clear h hG hM hla hB0 hg
 go_enter Tryz.func151, Tryz.ntmps151
 go_wp2_with (go_at_call 65; refine HS.out.mono ?_; rintro e w3 ⟨rfl, hT3, hF3⟩)
 go_ret
 exact ⟨rfl, hT3, (Frm.ofBelow HB0.out).trans hF3⟩
theorem deeds1_calls (p B : Nat) (L : List RN) (last k : Int) (a t : ByteArray) (w : World) (h : TreeB w p B (trOf L last)) (hG : GoodL L last) (hM : GoodM L) (hla : last < 1000000) :
  Calls Tryz.prog 122 #[pT p, .agg #[.int .i64 k, .string a, .string t]] w (Left p B w (mkP L last a 3 t)) := by
 have hB0 := (Below.refl w.heap.size w).alloc (Nat.le_refl _) (.cells #[.int .i64 k, .string a, .string t] 36)
 have HB0 := qh hB0
 have HS := qh (symlink9_calls p B L last t a _ (h.below hB0) hG hM hla)
 generalize mkP L last a 3 t = o at *
 clear h hG hM hla hB0
 go_enter Tryz.func122, Tryz.ntmps122
 go_wp2_with (go_at_call 64; refine HS.out.mono ?_; rintro e w3 ⟨rfl, hT3, hF3⟩)
 go_ret
 exact ⟨rfl, hT3, (Frm.ofBelow HB0.out).trans hF3⟩
theorem deeds2_calls (p B : Nat) (L : List RN) (last k : Int) (a t : ByteArray) (w : World) (h : TreeB w p B (trOf L last)) (hG : GoodL L last) (hM : GoodM L) (hla : last < 1000000) :
  Calls Tryz.prog 123 #[pT p, .agg #[.int .i64 k, .string a, .string t]] w (Left p B w (renP L last a t)) := by
 have hB0 := (Below.refl w.heap.size w).alloc (Nat.le_refl _) (.cells #[.int .i64 k, .string a, .string t] 36)
 have HB0 := qh hB0
 have HS := qh (rename9_calls p B L last a t _ (h.below hB0) hG hM hla)
 generalize renP L last a t = o at *
 clear h hG hM hla hB0
 go_enter Tryz.func123, Tryz.ntmps123
 go_wp2_with (go_at_call 66; refine HS.out.mono ?_; rintro e w3 ⟨rfl, hT3, hF3⟩)
 go_ret
 exact ⟨rfl, hT3, (Frm.ofBelow HB0.out).trans hF3⟩
theorem deeds3_calls (p B : Nat) (L : List RN) (last k : Int) (a t : ByteArray) (w : World) (h : TreeB w p B (trOf L last)) (hG : GoodL L last) (hM : GoodM L) (hla : last < 1000000) :
  Calls Tryz.prog 124 #[pT p, .agg #[.int .i64 k, .string a, .string t]] w (Left p B w (wrP L last a t)) := by
 have hB0 := (Below.refl w.heap.size w).alloc (Nat.le_refl _) (.cells #[.int .i64 k, .string a, .string t] 36)
 have HB0 := qh hB0
 have HS := qh (write9_calls p B L last a t _ (h.below hB0) hG hM hla)
 generalize wrP L last a t = o at *
 clear h hG hM hla hB0
 go_enter Tryz.func124, Tryz.ntmps124
 go_wp2_with (go_at_call 52; refine HS.out.mono ?_; rintro e w3 ⟨rfl, hT3, hF3⟩)
 go_ret
 exact ⟨rfl, hT3, (Frm.ofBelow HB0.out).trans hF3⟩
theorem box3 {W : World} {g : Nat} {k : Int} {a t : ByteArray} {ty : TypeId} (h : W.heap[g]? = some (.cells #[.int .i64 k, .string a, .string t] ty (0, 0))) : W.cell? ⟨g, 0, none⟩ = some (.int .i64 k) ∧ W.cell? ⟨g, 1, none⟩ = some (.string a) ∧ W.cell? ⟨g, 2, none⟩ = some (.string t) :=
 ⟨by rw [blk_cell h]; rfl, by rw [blk_cell h]; rfl, by rw [blk_cell h]; rfl⟩
theorem tk_frm {w w' : World} {p B : Nat} {Tt : Tr} {A : Option Addr} {l : List S36} (hC : Kd.C k36 w A l.length l) (hT : TreeB w p B Tt) (hf : Frm w w' p B) : Kd.C k36 w' A l.length l := by
 obtain ⟨hp, es, clock, hB⟩ := hT.two
 refine ⟨hC.1, hC.2.1, fun hn => ?_⟩
 obtain ⟨ad, eA, hc⟩ := hC.2.2 hn
 refine ⟨ad, eA, fun j q hj => ?_⟩
 obtain ⟨cs, hl, hK, hq⟩ := hc j q hj
 obtain rfl := k36_open hK
 have h0 := hq 1 _ rfl
 have hne : ad.block < w.heap.size ∧ ad.block ≠ p ∧ ad.block ≠ B := by
  have hbl := add_block ad (j * k36.sz + 1)
  generalize ad.add (j * k36.sz + 1) = a0 at h0 hbl
  refine ⟨?_, ?_, ?_⟩
  · rw [← hbl]; exact block_lt_of_cell h0
  ·
   intro e
   rw [e] at hbl
   obtain ⟨b, o, sp⟩ := a0
   subst hbl
   simp [World.cell?, hp] at h0
   cases sp with
   | none =>
    simp at h0
    match o, h0 with
    | 0, h0 => simp at h0
    | 1, h0 => simp at h0
    | n + 2, h0 => simp at h0
   | some q => simp at h0
  ·
   intro e
   rw [e] at hbl
   obtain ⟨b, o, sp⟩ := a0
   subst hbl
   simp [World.cell?, hB] at h0
 refine ⟨_, hl, k36_mk _ _, fun i u hu => ?_⟩
 have := hq i u hu
 rw [← this]
 have hbl := add_block ad (j * k36.sz + i)
 generalize ad.add (j * k36.sz + i) = a at hbl
 unfold World.cell?
 rw [hbl, hf.block _ hne.1 hne.2.1 hne.2.2]
noncomputable def appP : List RN → Int → List S36 → Op3 × Nat
 | L, la, [] => ((L, la, 0), 0)
 | L, la, x :: ts => if (doP L la x.f0 x.f1 x.f2).2.2 ≠ 0 then (doP L la x.f0 x.f1 x.f2, 0) else ((appP (doP L la x.f0 x.f1 x.f2).1 (doP L la x.f0 x.f1 x.f2).2.1 ts).1, (appP (doP L la x.f0 x.f1 x.f2).1 (doP L la x.f0 x.f1 x.f2).2.1 ts).2 + 1)
theorem appP_cons (L : List RN) (la : Int) (x : S36) (ts : List S36) : appP L la (x :: ts) = if (doP L la x.f0 x.f1 x.f2).2.2 ≠ 0 then (doP L la x.f0 x.f1 x.f2, 0) else ((appP (doP L la x.f0 x.f1 x.f2).1 (doP L la x.f0 x.f1 x.f2).2.1 ts).1, (appP (doP L la x.f0 x.f1 x.f2).1 (doP L la x.f0 x.f1 x.f2).2.1 ts).2 + 1) := by rw [appP]
theorem apply_calls (p B : Nat) (L : List RN) (last : Int) (A : Option Addr) (c : Nat) (ts : List S36) (w : World) (h : TreeB w p B (trOf L last)) (hG : GoodL L last) (hM : GoodM L) (hC : Kd.C k36 w A ts.length ts) (hc : ts.length ≤ c) (hl : ts.length ≤ 100000) (hla : last ≤ 100000) :
  Calls Tryz.prog 28 #[pT p, .slice A ts.length c] w fun e w' => e = .returned (.tuple #[.int .i64 ((appP L last ts).2 : Int), .int .i64 (appP L last ts).1.2.2]) ∧ TreeB w' p B (trOf (appP L last ts).1.1 (appP L last ts).1.2.1) ∧ Frm w w' p B := by
 have hu36 := Tryz.underlying36
 have HT := qh h
 have HC := qh hC
 have HL := qh hl
 have HG := qh (And.intro hG (And.intro hM hla))
 have HD := qh (fun W => deeds_calls W)
 obtain ⟨RR, hRR⟩ : ∃ RR, appP L last ts = RR := ⟨_, rfl⟩
 have HRR := qh hRR
 rw [hRR]
 clear h hC hl hG hM hla hRR
 go_enter Tryz.func28, Tryz.ntmps28
 go_wp2
 go_loopw [13] (fun v13 wr => ∃ i : Nat, v13 = .int .i64 (i : Int) ∧ i ≤ ts.length ∧ ∃ (Li : List RN) (li : Int), TreeB wr p B (trOf Li li) ∧ Frm w wr p B ∧ GoodL Li li ∧ GoodM Li ∧ li ≤ last + i ∧ RR = ((appP Li li (ts.drop i)).1, i + (appP Li li (ts.drop i)).2)) (fun v _ => ts.length - (intOf v).toNat)
 case atStart => exact ⟨0, rfl, Nat.zero_le _, L, last, HT.out, Frm.refl _ _ _, HG.out.1, HG.out.2.1, by omega, by rw [List.drop_zero, HRR.out, Nat.zero_add]⟩
 case round =>
  obtain ⟨i, rfl, hi, Li, li, hT, hF, hG, hM, hli, hA⟩ := hrel
  have HTr := qh hT
  have HFr := qh hF
  by_cases hlt : i < ts.length
  ·
   have hlt' : (i : Int) < (ts.length : Int) := by omega
   have hCr := tk_frm HC.out HT.out hF
   obtain ⟨ad, eA, a0, a1, a2⟩ := at_T36 hCr (i : Int) (by omega) hlt'
   have hrd : rd_T36 ts (i : Int) = ts[i] := by simp [rd_T36, hlt]
   rw [hrd] at a0 a1 a2
   rw [Int.toNat_natCast] at a0 a1 a2
   subst eA
   rw [List.drop_eq_getElem_cons hlt] at hA
   have hA2 : RR = if (doP Li li ts[i].f0 ts[i].f1 ts[i].f2).2.2 ≠ 0 then (doP Li li ts[i].f0 ts[i].f1 ts[i].f2, i) else ((appP (doP Li li ts[i].f0 ts[i].f1 ts[i].f2).1 (doP Li li ts[i].f0 ts[i].f1 ts[i].f2).2.1 (ts.drop (i + 1))).1, (i + 1) + (appP (doP Li li ts[i].f0 ts[i].f1 ts[i].f2).1 (doP Li li ts[i].f0 ts[i].f1 ts[i].f2).2.1 (ts.drop (i + 1))).2) := by
    rw [hA, appP_cons]
    split
    · rfl
    · exact Prod.ext rfl (by show i + (_ + 1) = i + 1 + _; omega)
   generalize ts[i] = x at *
   obtain ⟨k, a, t⟩ := x
   simp only [] at a0 a1 a2 hA2
   have HA := qh hA2
   have hfd := fine_do hG hM k a t
   have hli2 : li < 1000000 := by have := HG.out.2.2; have := HL.out; omega
   have HFD := qh (And.intro hfd.good (And.intro hfd.goodm (show (doP Li li k a t).2.1 ≤ last + (i + 1) by have := hfd.lst; omega)))
   have HI := qh (And.intro hlt hi)
   have hb := below_alloc (Below.refl wr.heap.size wr) (.cells #[.int .i64 k, .string a, .string t] 36)
   have hT2 := hT.below hb
   have HT2 := qh hT2
   have HF2 := qh (hF.trans (Frm.ofBelow hb))
   have h2 := heap_alloc_new wr (.cells #[.int .i64 k, .string a, .string t] 36)
   have H2 := qh h2
   clear hA hA2 hrd hCr hT hF hi HRR hfd
   by_cases k1 : k = 1
   ·
    subst k1
    have e0 : doP Li li 1 a t = mkP Li li a 1 ⟨#[]⟩ := by unfold doP; simp
    rw [e0] at HFD HA
    have HCK := qh (fun g W h hg => by1_Mkdir p B Li li 1 a t g W h hG hM hli2 hg)
    generalize mkP Li li a 1 ⟨#[]⟩ = o at *
    obtain ⟨Lo, no, eo⟩ := o
    simp only [] at HFD HA
    clear hG hM hli hli2 e0 HG
    have HKN := qh (fun W => known_yes 1 W (by decide))
    go_upto_region 8 with (go_at_call 76; refine (HKN.out _).mono ?_; rintro e w' ⟨rfl, rfl⟩)
    clear a0 a1 a2
    generalize wr.alloc (.cells #[.int .i64 1, .string a, .string t] 36) = w2 at HT2 HF2 H2 hT2 hb h2 ⊢
    generalize wr.heap.size = gb at H2 h2 ⊢
    have HY := qh (fun (W : World) (q : Below w2.heap.size w2 W) => show W.cell? ⟨gb, 0, none⟩ = some (.int .i64 1) ∧ W.cell? ⟨gb, 1, none⟩ = some (.string a) ∧ W.cell? ⟨gb, 2, none⟩ = some (.string t) by
     have e1 := (q.block _ (blk_lt H2.out)).trans H2.out
     exact ⟨by rw [blk_cell e1]; rfl, by rw [blk_cell e1]; rfl, by rw [blk_cell e1]; rfl⟩)
    obtain ⟨y0, y1, y2⟩ := HY.out _ (Below.refl _ _)
    clear hb hT2 h2
    go_region_held3 (fun w' => w'.cell? ⟨gb, 0, none⟩ = some (.int .i64 1) ∧ w'.cell? ⟨gb, 1, none⟩ = some (.string a) ∧ w'.cell? ⟨gb, 2, none⟩ = some (.string t)) (first | (go_keep; done) | exact HY4.out | exact HY.out _ HE3.out) (first | (go_at_call 78; refine (HD.out _).mono ?_; rintro e w3 ⟨v1, v2, v4, rfl, hv, hb3⟩; have HE3 : Hid (Below w2.heap.size w2 w3) := qh (by first | exact hb3 | exact (below_drew (Below.refl _ _)).trans hb3); clear hb3; obtain ⟨g, rfl, hg⟩ := hv.1; clear hv) | (go_at_call 151; refine (HCK.out _ _ (HT2.out.below HE3.out) hg).mono ?_; rintro e w4 ⟨rfl, hT4, hF4⟩; have HT4 := qh hT4; have HF4 := qh (HF2.out.trans ((Frm.ofBelow HE3.out).trans hF4)); have HY4 := qh (box3 (cells_frm ((HE3.out.block _ (blk_lt H2.out)).trans H2.out) (by decide) (HT2.out.below HE3.out) hF4)); clear hT4 hF4))
    all_goals
     clear y0 y1 y2 HY HD
     by_cases he : eo = 0
     ·
      subst he
      have hA := HA.out
      rw [if_neg (by simp)] at hA
      have HA2 := qh hA
      clear HA hA
      go_wp2
      go_roundw
      case rel => exact ⟨i + 1, by have := HL.out; rw [w1 (by omega)], HI.out.1, Lo, no, HT4.out, HF4.out, HFD.out.1, HFD.out.2.1, HFD.out.2.2, HA2.out⟩
      case measure => exact meas_big HI.out.1 (by have := HL.out; omega)
     ·
      have hA := HA.out
      rw [if_pos he] at hA
      subst hA
      have b9 : (eo != 0) = true := bne_iff_ne.2 he
      clear HA he
      go_wp2
      refine bodyPost_ret (v := .tuple #[.int .i64 (i : Int), .int .i64 eo]) (by simp [results, Tryz.results28, go_sem]) rfl ⟨rfl, HT4.out, HF4.out⟩
   ·
    by_cases k2 : k = 2
    ·
     subst k2
     have e0 : doP Li li 2 a t = cutP Li li a true := by unfold doP; simp
     rw [e0] at HFD HA
     have HCK := qh (fun g W h hg => by1_Rmdir p B Li li 2 a t g W h hG hM hli2 hg)
     generalize cutP Li li a true = o at *
     obtain ⟨Lo, no, eo⟩ := o
     simp only [] at HFD HA
     clear hG hM hli hli2 e0 HG
     have HKN := qh (fun W => known_yes 2 W (by decide))
     go_upto_region 8 with (go_at_call 76; refine (HKN.out _).mono ?_; rintro e w' ⟨rfl, rfl⟩)
     clear a0 a1 a2
     generalize wr.alloc (.cells #[.int .i64 2, .string a, .string t] 36) = w2 at HT2 HF2 H2 hT2 hb h2 ⊢
     generalize wr.heap.size = gb at H2 h2 ⊢
     have HY := qh (fun (W : World) (q : Below w2.heap.size w2 W) => show W.cell? ⟨gb, 0, none⟩ = some (.int .i64 2) ∧ W.cell? ⟨gb, 1, none⟩ = some (.string a) ∧ W.cell? ⟨gb, 2, none⟩ = some (.string t) by
      have e1 := (q.block _ (blk_lt H2.out)).trans H2.out
      exact ⟨by rw [blk_cell e1]; rfl, by rw [blk_cell e1]; rfl, by rw [blk_cell e1]; rfl⟩)
     obtain ⟨y0, y1, y2⟩ := HY.out _ (Below.refl _ _)
     clear hb hT2 h2
     go_region_held3 (fun w' => w'.cell? ⟨gb, 0, none⟩ = some (.int .i64 2) ∧ w'.cell? ⟨gb, 1, none⟩ = some (.string a) ∧ w'.cell? ⟨gb, 2, none⟩ = some (.string t)) (first | (go_keep; done) | exact HY4.out | exact HY.out _ HE3.out) (first | (go_at_call 78; refine (HD.out _).mono ?_; rintro e w3 ⟨v1, v2, v4, rfl, hv, hb3⟩; have HE3 : Hid (Below w2.heap.size w2 w3) := qh (by first | exact hb3 | exact (below_drew (Below.refl _ _)).trans hb3); clear hb3; obtain ⟨g, rfl, hg⟩ := hv.2.1; clear hv) | (go_at_call 151; refine (HCK.out _ _ (HT2.out.below HE3.out) hg).mono ?_; rintro e w4 ⟨rfl, hT4, hF4⟩; have HT4 := qh hT4; have HF4 := qh (HF2.out.trans ((Frm.ofBelow HE3.out).trans hF4)); have HY4 := qh (box3 (cells_frm ((HE3.out.block _ (blk_lt H2.out)).trans H2.out) (by decide) (HT2.out.below HE3.out) hF4)); clear hT4 hF4))
     all_goals
      clear y0 y1 y2 HY HD
      by_cases he : eo = 0
      ·
       subst he
       have hA := HA.out
       rw [if_neg (by simp)] at hA
       have HA2 := qh hA
       clear HA hA
       go_wp2
       go_roundw
       case rel => exact ⟨i + 1, by have := HL.out; rw [w1 (by omega)], HI.out.1, Lo, no, HT4.out, HF4.out, HFD.out.1, HFD.out.2.1, HFD.out.2.2, HA2.out⟩
       case measure => exact meas_big HI.out.1 (by have := HL.out; omega)
      ·
       have hA := HA.out
       rw [if_pos he] at hA
       subst hA
       have b9 : (eo != 0) = true := bne_iff_ne.2 he
       clear HA he
       go_wp2
       refine bodyPost_ret (v := .tuple #[.int .i64 (i : Int), .int .i64 eo]) (by simp [results, Tryz.results28, go_sem]) rfl ⟨rfl, HT4.out, HF4.out⟩
    ·
     by_cases k3 : k = 3
     ·
      subst k3
      have e0 : doP Li li 3 a t = mkP Li li a 3 t := by unfold doP; simp
      rw [e0] at HFD HA
      have HCK := qh (fun W h => deeds1_calls p B Li li 3 a t W h hG hM hli2)
      generalize mkP Li li a 3 t = o at *
      obtain ⟨Lo, no, eo⟩ := o
      simp only [] at HFD HA
      clear hG hM hli hli2 e0 HG
      have HKN := qh (fun W => known_yes 3 W (by decide))
      go_upto_region 8 with (go_at_call 76; refine (HKN.out _).mono ?_; rintro e w' ⟨rfl, rfl⟩)
      clear a0 a1 a2
      generalize wr.alloc (.cells #[.int .i64 3, .string a, .string t] 36) = w2 at HT2 HF2 H2 hT2 hb h2 ⊢
      generalize wr.heap.size = gb at H2 h2 ⊢
      have HY := qh (fun (W : World) (q : Below w2.heap.size w2 W) => show W.cell? ⟨gb, 0, none⟩ = some (.int .i64 3) ∧ W.cell? ⟨gb, 1, none⟩ = some (.string a) ∧ W.cell? ⟨gb, 2, none⟩ = some (.string t) by
       have e1 := (q.block _ (blk_lt H2.out)).trans H2.out
       exact ⟨by rw [blk_cell e1]; rfl, by rw [blk_cell e1]; rfl, by rw [blk_cell e1]; rfl⟩)
      obtain ⟨y0, y1, y2⟩ := HY.out _ (Below.refl _ _)
      clear hb hT2 h2
      go_region_held3 (fun w' => w'.cell? ⟨gb, 0, none⟩ = some (.int .i64 3) ∧ w'.cell? ⟨gb, 1, none⟩ = some (.string a) ∧ w'.cell? ⟨gb, 2, none⟩ = some (.string t)) (first | (go_keep; done) | exact HY4.out | exact HY.out _ HE3.out) (first | (go_at_call 78; refine (HD.out _).mono ?_; rintro e w3 ⟨v1, v2, v4, rfl, hv, hb3⟩; have HE3 : Hid (Below w2.heap.size w2 w3) := qh (by first | exact hb3 | exact (below_drew (Below.refl _ _)).trans hb3); clear hb3; clear hv) | (go_at_call 122; refine (HCK.out _ (HT2.out.below HE3.out)).mono ?_; rintro e w4 ⟨rfl, hT4, hF4⟩; have HT4 := qh hT4; have HF4 := qh (HF2.out.trans ((Frm.ofBelow HE3.out).trans hF4)); have HY4 := qh (box3 (cells_frm ((HE3.out.block _ (blk_lt H2.out)).trans H2.out) (by decide) (HT2.out.below HE3.out) hF4)); clear hT4 hF4))
      all_goals
       clear y0 y1 y2 HY HD
       by_cases he : eo = 0
       ·
        subst he
        have hA := HA.out
        rw [if_neg (by simp)] at hA
        have HA2 := qh hA
        clear HA hA
        go_wp2
        go_roundw
        case rel => exact ⟨i + 1, by have := HL.out; rw [w1 (by omega)], HI.out.1, Lo, no, HT4.out, HF4.out, HFD.out.1, HFD.out.2.1, HFD.out.2.2, HA2.out⟩
        case measure => exact meas_big HI.out.1 (by have := HL.out; omega)
       ·
        have hA := HA.out
        rw [if_pos he] at hA
        subst hA
        have b9 : (eo != 0) = true := bne_iff_ne.2 he
        clear HA he
        go_wp2
        refine bodyPost_ret (v := .tuple #[.int .i64 (i : Int), .int .i64 eo]) (by simp [results, Tryz.results28, go_sem]) rfl ⟨rfl, HT4.out, HF4.out⟩
     ·
      by_cases k4 : k = 4
      ·
       subst k4
       have e0 : doP Li li 4 a t = cutP Li li a false := by unfold doP; simp
       rw [e0] at HFD HA
       have HCK := qh (fun g W h hg => by1_Unlink p B Li li 4 a t g W h hG hM hli2 hg)
       generalize cutP Li li a false = o at *
       obtain ⟨Lo, no, eo⟩ := o
       simp only [] at HFD HA
       clear hG hM hli hli2 e0 HG
       have HKN := qh (fun W => known_yes 4 W (by decide))
       go_upto_region 8 with (go_at_call 76; refine (HKN.out _).mono ?_; rintro e w' ⟨rfl, rfl⟩)
       clear a0 a1 a2
       generalize wr.alloc (.cells #[.int .i64 4, .string a, .string t] 36) = w2 at HT2 HF2 H2 hT2 hb h2 ⊢
       generalize wr.heap.size = gb at H2 h2 ⊢
       have HY := qh (fun (W : World) (q : Below w2.heap.size w2 W) => show W.cell? ⟨gb, 0, none⟩ = some (.int .i64 4) ∧ W.cell? ⟨gb, 1, none⟩ = some (.string a) ∧ W.cell? ⟨gb, 2, none⟩ = some (.string t) by
        have e1 := (q.block _ (blk_lt H2.out)).trans H2.out
        exact ⟨by rw [blk_cell e1]; rfl, by rw [blk_cell e1]; rfl, by rw [blk_cell e1]; rfl⟩)
       obtain ⟨y0, y1, y2⟩ := HY.out _ (Below.refl _ _)
       clear hb hT2 h2
       go_region_held3 (fun w' => w'.cell? ⟨gb, 0, none⟩ = some (.int .i64 4) ∧ w'.cell? ⟨gb, 1, none⟩ = some (.string a) ∧ w'.cell? ⟨gb, 2, none⟩ = some (.string t)) (first | (go_keep; done) | exact HY4.out | exact HY.out _ HE3.out) (first | (go_at_call 78; refine (HD.out _).mono ?_; rintro e w3 ⟨v1, v2, v4, rfl, hv, hb3⟩; have HE3 : Hid (Below w2.heap.size w2 w3) := qh (by first | exact hb3 | exact (below_drew (Below.refl _ _)).trans hb3); clear hb3; obtain ⟨g, rfl, hg⟩ := hv.2.2; clear hv) | (go_at_call 151; refine (HCK.out _ _ (HT2.out.below HE3.out) hg).mono ?_; rintro e w4 ⟨rfl, hT4, hF4⟩; have HT4 := qh hT4; have HF4 := qh (HF2.out.trans ((Frm.ofBelow HE3.out).trans hF4)); have HY4 := qh (box3 (cells_frm ((HE3.out.block _ (blk_lt H2.out)).trans H2.out) (by decide) (HT2.out.below HE3.out) hF4)); clear hT4 hF4))
       all_goals
        clear y0 y1 y2 HY HD
        by_cases he : eo = 0
        ·
         subst he
         have hA := HA.out
         rw [if_neg (by simp)] at hA
         have HA2 := qh hA
         clear HA hA
         go_wp2
         go_roundw
         case rel => exact ⟨i + 1, by have := HL.out; rw [w1 (by omega)], HI.out.1, Lo, no, HT4.out, HF4.out, HFD.out.1, HFD.out.2.1, HFD.out.2.2, HA2.out⟩
         case measure => exact meas_big HI.out.1 (by have := HL.out; omega)
        ·
         have hA := HA.out
         rw [if_pos he] at hA
         subst hA
         have b9 : (eo != 0) = true := bne_iff_ne.2 he
         clear HA he
         go_wp2
         refine bodyPost_ret (v := .tuple #[.int .i64 (i : Int), .int .i64 eo]) (by simp [results, Tryz.results28, go_sem]) rfl ⟨rfl, HT4.out, HF4.out⟩
      ·
       by_cases k5 : k = 5
       ·
        subst k5
        have e0 : doP Li li 5 a t = renP Li li a t := by unfold doP; simp
        rw [e0] at HFD HA
        have HCK := qh (fun W h => deeds2_calls p B Li li 5 a t W h hG hM hli2)
        generalize renP Li li a t = o at *
        obtain ⟨Lo, no, eo⟩ := o
        simp only [] at HFD HA
        clear hG hM hli hli2 e0 HG
        have HKN := qh (fun W => known_yes 5 W (by decide))
        go_upto_region 8 with (go_at_call 76; refine (HKN.out _).mono ?_; rintro e w' ⟨rfl, rfl⟩)
        clear a0 a1 a2
        generalize wr.alloc (.cells #[.int .i64 5, .string a, .string t] 36) = w2 at HT2 HF2 H2 hT2 hb h2 ⊢
        generalize wr.heap.size = gb at H2 h2 ⊢
        have HY := qh (fun (W : World) (q : Below w2.heap.size w2 W) => show W.cell? ⟨gb, 0, none⟩ = some (.int .i64 5) ∧ W.cell? ⟨gb, 1, none⟩ = some (.string a) ∧ W.cell? ⟨gb, 2, none⟩ = some (.string t) by
         have e1 := (q.block _ (blk_lt H2.out)).trans H2.out
         exact ⟨by rw [blk_cell e1]; rfl, by rw [blk_cell e1]; rfl, by rw [blk_cell e1]; rfl⟩)
        obtain ⟨y0, y1, y2⟩ := HY.out _ (Below.refl _ _)
        clear hb hT2 h2
        go_region_held3 (fun w' => w'.cell? ⟨gb, 0, none⟩ = some (.int .i64 5) ∧ w'.cell? ⟨gb, 1, none⟩ = some (.string a) ∧ w'.cell? ⟨gb, 2, none⟩ = some (.string t)) (first | (go_keep; done) | exact HY4.out | exact HY.out _ HE3.out) (first | (go_at_call 78; refine (HD.out _).mono ?_; rintro e w3 ⟨v1, v2, v4, rfl, hv, hb3⟩; have HE3 : Hid (Below w2.heap.size w2 w3) := qh (by first | exact hb3 | exact (below_drew (Below.refl _ _)).trans hb3); clear hb3; clear hv) | (go_at_call 123; refine (HCK.out _ (HT2.out.below HE3.out)).mono ?_; rintro e w4 ⟨rfl, hT4, hF4⟩; have HT4 := qh hT4; have HF4 := qh (HF2.out.trans ((Frm.ofBelow HE3.out).trans hF4)); have HY4 := qh (box3 (cells_frm ((HE3.out.block _ (blk_lt H2.out)).trans H2.out) (by decide) (HT2.out.below HE3.out) hF4)); clear hT4 hF4))
        all_goals
         clear y0 y1 y2 HY HD
         by_cases he : eo = 0
         ·
          subst he
          have hA := HA.out
          rw [if_neg (by simp)] at hA
          have HA2 := qh hA
          clear HA hA
          go_wp2
          go_roundw
          case rel => exact ⟨i + 1, by have := HL.out; rw [w1 (by omega)], HI.out.1, Lo, no, HT4.out, HF4.out, HFD.out.1, HFD.out.2.1, HFD.out.2.2, HA2.out⟩
          case measure => exact meas_big HI.out.1 (by have := HL.out; omega)
         ·
          have hA := HA.out
          rw [if_pos he] at hA
          subst hA
          have b9 : (eo != 0) = true := bne_iff_ne.2 he
          clear HA he
          go_wp2
          refine bodyPost_ret (v := .tuple #[.int .i64 (i : Int), .int .i64 eo]) (by simp [results, Tryz.results28, go_sem]) rfl ⟨rfl, HT4.out, HF4.out⟩
       ·
        by_cases k6 : k = 6
        ·
         subst k6
         have e0 : doP Li li 6 a t = wrP Li li a t := by unfold doP; simp
         rw [e0] at HFD HA
         have HCK := qh (fun W h => deeds3_calls p B Li li 6 a t W h hG hM hli2)
         generalize wrP Li li a t = o at *
         obtain ⟨Lo, no, eo⟩ := o
         simp only [] at HFD HA
         clear hG hM hli hli2 e0 HG
         have HKN := qh (fun W => known_yes 6 W (by decide))
         go_upto_region 8 with (go_at_call 76; refine (HKN.out _).mono ?_; rintro e w' ⟨rfl, rfl⟩)
         clear a0 a1 a2
         generalize wr.alloc (.cells #[.int .i64 6, .string a, .string t] 36) = w2 at HT2 HF2 H2 hT2 hb h2 ⊢
         generalize wr.heap.size = gb at H2 h2 ⊢
         have HY := qh (fun (W : World) (q : Below w2.heap.size w2 W) => show W.cell? ⟨gb, 0, none⟩ = some (.int .i64 6) ∧ W.cell? ⟨gb, 1, none⟩ = some (.string a) ∧ W.cell? ⟨gb, 2, none⟩ = some (.string t) by
          have e1 := (q.block _ (blk_lt H2.out)).trans H2.out
          exact ⟨by rw [blk_cell e1]; rfl, by rw [blk_cell e1]; rfl, by rw [blk_cell e1]; rfl⟩)
         obtain ⟨y0, y1, y2⟩ := HY.out _ (Below.refl _ _)
         clear hb hT2 h2
         go_region_held3 (fun w' => w'.cell? ⟨gb, 0, none⟩ = some (.int .i64 6) ∧ w'.cell? ⟨gb, 1, none⟩ = some (.string a) ∧ w'.cell? ⟨gb, 2, none⟩ = some (.string t)) (first | (go_keep; done) | exact HY4.out | exact HY.out _ HE3.out) (first | (go_at_call 78; refine (HD.out _).mono ?_; rintro e w3 ⟨v1, v2, v4, rfl, hv, hb3⟩; have HE3 : Hid (Below w2.heap.size w2 w3) := qh (by first | exact hb3 | exact (below_drew (Below.refl _ _)).trans hb3); clear hb3; clear hv) | (go_at_call 124; refine (HCK.out _ (HT2.out.below HE3.out)).mono ?_; rintro e w4 ⟨rfl, hT4, hF4⟩; have HT4 := qh hT4; have HF4 := qh (HF2.out.trans ((Frm.ofBelow HE3.out).trans hF4)); have HY4 := qh (box3 (cells_frm ((HE3.out.block _ (blk_lt H2.out)).trans H2.out) (by decide) (HT2.out.below HE3.out) hF4)); clear hT4 hF4))
         all_goals
          clear y0 y1 y2 HY HD
          by_cases he : eo = 0
          ·
           subst he
           have hA := HA.out
           rw [if_neg (by simp)] at hA
           have HA2 := qh hA
           clear HA hA
           go_wp2
           go_roundw
           case rel => exact ⟨i + 1, by have := HL.out; rw [w1 (by omega)], HI.out.1, Lo, no, HT4.out, HF4.out, HFD.out.1, HFD.out.2.1, HFD.out.2.2, HA2.out⟩
           case measure => exact meas_big HI.out.1 (by have := HL.out; omega)
          ·
           have hA := HA.out
           rw [if_pos he] at hA
           subst hA
           have b9 : (eo != 0) = true := bne_iff_ne.2 he
           clear HA he
           go_wp2
           refine bodyPost_ret (v := .tuple #[.int .i64 (i : Int), .int .i64 eo]) (by simp [results, Tryz.results28, go_sem]) rfl ⟨rfl, HT4.out, HF4.out⟩
        ·
         have e0 : doP Li li k a t = (Li, li, 2) := by unfold doP; simp [k1, k2, k3, k4, k5, k6]
         have hA := HA.out
         rw [e0, if_pos (by simp)] at hA
         subst hA
         have HKN := qh (fun W => known_no k W (by omega))
         clear k1 k2 k3 k4 k5 k6 hG hM hli hli2 HG HA HFD e0 HD
         go_wp2_with (go_at_call 76; refine (HKN.out _).mono ?_; rintro e w' ⟨rfl, rfl⟩)
         refine bodyPost_ret (v := .tuple #[.int .i64 (i : Int), .int .i64 2]) (by simp [results, Tryz.results28, go_sem]) rfl ⟨rfl, HT2.out, HF2.out⟩
  ·
   obtain rfl : i = ts.length := by omega
   rw [List.drop_length] at hA
   have hlt' : ¬ (ts.length : Int) < (ts.length : Int) := by omega
   have hA2 : RR = ((Li, li, 0), ts.length) := by rw [hA]; rfl
   subst hA2
   clear hA hT hF hG hM hli HRR
   go_wp2
   refine bodyPost_ret (v := .tuple #[.int .i64 (ts.length : Int), .int .i64 0]) (by simp [results, Tryz.results28, go_sem]) rfl ⟨rfl, HTr.out, HFr.out⟩
abbrev FT := S115
def fP (n : Int) (x : FT) : Bool := x.f0 == n && x.f1 != 0
def faultV (l : List FT) (n : Int) : Int := match l.find? (fP n) with | some x => x.f1 | none => 0
structure FsAt (W : World) (f p : Nat) (l : List FT) (cnt : Int) (dn : Bool) : Prop where
 ex : ∃ A c, W.heap[f]? = some (.cells #[pT p, .slice A l.length c, .int .i64 cnt, .bool dn] 117 (0, 0)) ∧ l.length ≤ c ∧ ∃ base, Kd.R k115 115 W base (fun _ => True) (.slice A l.length c) l
theorem FsAt.below {w W : World} {f p : Nat} {l : List FT} {cnt : Int} {dn : Bool} (h : FsAt w f p l cnt dn) (hb : Below w.heap.size w W) : FsAt W f p l cnt dn := by
 obtain ⟨A, c, h1, h2, base, h3⟩ := h.ex
 exact ⟨A, c, (hb.block _ (blk_lt h1)).trans h1, h2, base, Kd.R_below h3 hb⟩
theorem FsAt.frm {w W : World} {f p q B : Nat} {T : Tr} {l : List FT} {cnt : Int} {dn : Bool} (h : FsAt w f p l cnt dn) (hT : TreeB w q B T) (hf : Frm w W q B) : FsAt W f p l cnt dn := by
 obtain ⟨A, c, h1, h2, base, h3⟩ := h.ex
 refine ⟨A, c, cells_frm h1 (by decide) hT hf, h2, base, ?_⟩
 obtain ⟨hp, es, clock, hB⟩ := hT.two
 have h4 := Kd.R_mono (Kd.R_bound h3) (ok' := fun k => k ≠ q ∧ k ≠ B) (fun k hk => by
  obtain ⟨_, _, _, t, ht, cells, hc⟩ := hk
  have ht : t = 115 := by simpa [k115, Kd.iso, Kd.pair, Kd.int, Kd.scalar] using ht
  subst ht
  refine ⟨?_, ?_⟩
  ·
   rintro rfl
   rw [hp] at hc
   injection hc with hc
   injection hc with _ hc
   exact absurd hc (by decide)
  ·
   rintro rfl
   rw [hB] at hc
   cases hc)
 exact Kd.R_mono (Kd.R_step h4 (fun k hk hlt => hf.block k hlt hk.1 hk.2)) (fun _ _ => trivial)
structure Fr3 (w w' : World) (p B f : Nat) : Prop where
 os : w'.os = w.os
 tape : w'.tape = w.tape
 output : w'.output = w.output
 size : w.heap.size ≤ w'.heap.size
 block : ∀ k, k < w.heap.size → k ≠ p → k ≠ B → k ≠ f → w'.heap[k]? = w.heap[k]?
theorem Fr3.refl (w : World) (p B f : Nat) : Fr3 w w p B f := ⟨rfl, rfl, rfl, Nat.le_refl _, fun _ _ _ _ _ => rfl⟩
theorem Fr3.trans {w w1 w2 : World} {p B f : Nat} (h : Fr3 w w1 p B f) (k : Fr3 w1 w2 p B f) : Fr3 w w2 p B f :=
 ⟨k.os.trans h.os, k.tape.trans h.tape, k.output.trans h.output, Nat.le_trans h.size k.size, fun j hj h1 h2 h3 => (k.block j (Nat.lt_of_lt_of_le hj h.size) h1 h2 h3).trans (h.block j hj h1 h2 h3)⟩
theorem Fr3.ofBelow {w w' : World} {p B f : Nat} (h : Below w.heap.size w w') : Fr3 w w' p B f := ⟨h.os, h.tape, h.output, h.size, fun k hk _ _ _ => h.block k hk⟩
theorem Fr3.below {w w' : World} {p B f base : Nat} (h : Fr3 w w' p B f) (hb : base ≤ w.heap.size) (hp : base ≤ p) (hB : base ≤ B) (hf : base ≤ f) : Below base w w' :=
 ⟨h.os, h.tape, h.output, h.size, fun k hk => h.block k (by omega) (by omega) (by omega) (by omega)⟩
theorem R115_set {w : World} {f base : Nat} {v : Value} {l : List FT} {cs : Array Value} (h : Kd.R k115 115 w base (fun _ => True) v l) (hf : w.heap[f]? = some (.cells cs 117 (0, 0))) (i : Nat) (u : Value) : Kd.R k115 115 (w.setCell ⟨f, i, none⟩ u) base (fun _ => True) v l := by
 have h4 := Kd.R_mono (Kd.R_bound h) (ok' := fun k => k ≠ f) (fun k hk => by
  obtain ⟨_, _, _, t, ht, cells, hc⟩ := hk
  have ht : t = 115 := by simpa [k115, Kd.iso, Kd.pair, Kd.int, Kd.scalar] using ht
  subst ht
  rintro rfl
  rw [hf] at hc
  injection hc with hc
  injection hc with _ hc
  exact absurd hc (by decide))
 exact Kd.R_mono (Kd.R_far (p := ⟨f, i, none⟩) h4 (fun k hk => hk) u) (fun _ _ => trivial)
theorem fs_set {w : World} {f : Nat} {v0 v1 v2 v3 : Value} {t : TypeId} (h : w.heap[f]? = some (.cells #[v0, v1, v2, v3] t (0, 0))) (u : Value) :
  (w.setCell ⟨f, 1, none⟩ u).heap[f]? = some (.cells #[v0, u, v2, v3] t (0, 0)) ∧ (w.setCell ⟨f, 2, none⟩ u).heap[f]? = some (.cells #[v0, v1, u, v3] t (0, 0)) ∧ (w.setCell ⟨f, 3, none⟩ u).heap[f]? = some (.cells #[v0, v1, v2, u] t (0, 0)) :=
 ⟨by rw [setCell_eq_setRow w _ 1 _ _ _ _ h, setRow_heap w _ _ _ _ _ h]; rfl, by rw [setCell_eq_setRow w _ 2 _ _ _ _ h, setRow_heap w _ _ _ _ _ h]; rfl, by rw [setCell_eq_setRow w _ 3 _ _ _ _ h, setRow_heap w _ _ _ _ _ h]; rfl⟩
theorem fs_cells {W : World} {f : Nat} {v0 v1 v2 v3 : Value} {t : TypeId} (h : W.heap[f]? = some (.cells #[v0, v1, v2, v3] t (0, 0))) :
  (W.cell? ⟨f, 0, none⟩ = some v0 ∧ W.cell? ⟨f, 1, none⟩ = some v1 ∧ W.cell? ⟨f, 2, none⟩ = some v2 ∧ W.cell? ⟨f, 3, none⟩ = some v3) ∧ (W.frozen? ⟨f, 1, none⟩ = false ∧ W.frozen? ⟨f, 2, none⟩ = false ∧ W.frozen? ⟨f, 3, none⟩ = false) :=
 ⟨⟨by rw [blk_cell h]; rfl, by rw [blk_cell h]; rfl, by rw [blk_cell h]; rfl, by rw [blk_cell h]; rfl⟩, blk_frozen h 1, blk_frozen h 2, blk_frozen h 3⟩
theorem FsAt.ne {w : World} {f p q B : Nat} {l : List FT} {cnt : Int} {dn : Bool} {T : Tr} (h : FsAt w f p l cnt dn) (hT : TreeB w q B T) : q ≠ f ∧ B ≠ f := by
 obtain ⟨A, c, h1, -⟩ := h.ex
 obtain ⟨h2, es, ck, h3⟩ := hT.two
 constructor
 ·
  rintro rfl
  rw [h2] at h1
  injection h1 with h1
  injection h1 with _ h1
  exact absurd h1 (by decide)
 ·
  rintro rfl
  rw [h3] at h1
  cases h1
theorem FsAt.set2 {w : World} {f p : Nat} {l : List FT} {cnt : Int} {dn : Bool} (h : FsAt w f p l cnt dn) (n : Int) : FsAt (w.setCell ⟨f, 2, none⟩ (.int .i64 n)) f p l n dn := by
 obtain ⟨A, c, h1, h2, base, h3⟩ := h.ex
 exact ⟨A, c, (fs_set h1 (.int .i64 n)).2.1, h2, base, R115_set h3 h1 _ _⟩
theorem FsAt.cells {w : World} {f p : Nat} {l : List FT} {cnt : Int} {dn : Bool} (h : FsAt w f p l cnt dn) : w.cell? ⟨f, 0, none⟩ = some (pT p) ∧ w.cell? ⟨f, 2, none⟩ = some (.int .i64 cnt) ∧ w.cell? ⟨f, 3, none⟩ = some (.bool dn) ∧ w.frozen? ⟨f, 2, none⟩ = false ∧ w.frozen? ⟨f, 3, none⟩ = false := by
 obtain ⟨A, c, h1, -⟩ := h.ex
 obtain ⟨⟨a, -, b, c⟩, -, d, e⟩ := fs_cells h1
 exact ⟨a, b, c, d, e⟩
noncomputable def fsP (L : List RN) (la : Int) (fl : List FT) (cnt : Int) (dn : Bool) (k : Int) (a t : ByteArray) : Op3 × Int × Bool :=
 if dn = true then ((L, la, 17), cnt, dn) else if ¬ (1 ≤ k ∧ k ≤ 6) then ((L, la, 2), cnt, dn) else
  if faultV fl (cnt + 1) ≠ 0 then ((L, la, faultV fl (cnt + 1)), cnt + 1, faultV fl (cnt + 1) == 17) else (doP L la k a t, cnt + 1, false)
theorem fine_fs {L : List RN} {la : Int} (hG : GoodL L la) (hM : GoodM L) (fl : List FT) (cnt : Int) (dn : Bool) (k : Int) (a t : ByteArray) : Fine L la (fsP L la fl cnt dn k a t).1 ∧ (fsP L la fl cnt dn k a t).2.1 ≤ cnt + 1 ∧ cnt ≤ (fsP L la fl cnt dn k a t).2.1 := by
 unfold fsP
 split
 · exact ⟨fine_err hG hM, by show cnt ≤ cnt + 1; omega, Int.le_refl _⟩
 ·
  split
  · exact ⟨fine_err hG hM, by show cnt ≤ cnt + 1; omega, Int.le_refl _⟩
  ·
   split
   · exact ⟨fine_err hG hM, Int.le_refl _, by show cnt ≤ cnt + 1; omega⟩
   · exact ⟨fine_do hG hM k a t, Int.le_refl _, by show cnt ≤ cnt + 1; omega⟩
theorem walkF_up {T : Tr} {lst : Bool} : ∀ (k : Nat) (a h : Int) (l : List ByteArray) (R : Int × Int), walkF T lst k a h l = some R → walkF T lst (k + 1) a h l = some R
 | 0, _, _, _, _, h => by simp [walkF] at h
 | k + 1, a, h, [], R, e => by simpa [walkF] using e
 | k + 1, a, h, s :: l, R, e => by
  unfold walkF at e ⊢
  split
  · rename_i c; rw [if_pos c] at e; exact e
  ·
   rename_i c1
   rw [if_neg c1] at e
   split
   · rename_i c; rw [if_pos c] at e; exact walkF_up k _ _ _ _ e
   ·
    rename_i c2
    rw [if_neg c2] at e
    split
    · rename_i c; rw [if_pos c] at e; exact e
    ·
     rename_i c3
     rw [if_neg c3] at e
     split
     · rename_i c; rw [if_pos c] at e; exact walkF_up k _ _ _ _ e
     ·
      rename_i c4
      rw [if_neg c4] at e
      split
      · rename_i c; rw [if_pos c] at e; exact e
      ·
       rename_i c5
       rw [if_neg c5] at e
       exact walkF_up k _ _ _ _ e
theorem walkF_le {T : Tr} {lst : Bool} {k k' : Nat} (h : k ≤ k') {a b : Int} {l : List ByteArray} {R : Int × Int} (e : walkF T lst k a b l = some R) : walkF T lst k' a b l = some R := by
 induction h with
 | refl => exact e
 | step _ ih => exact walkF_up _ _ _ _ _ ih
theorem walkF_det {T : Tr} {lst : Bool} {k k' : Nat} {a b : Int} {l : List ByteArray} {R R' : Int × Int} (e : walkF T lst k a b l = some R) (e' : walkF T lst k' a b l = some R') : R = R' := by
 have h1 := walkF_le (Nat.le_max_left k k') e
 have h2 := walkF_le (Nat.le_max_right k k') e'
 rw [h1] at h2
 exact Option.some.inj h2
theorem spotF_det {T : Tr} {k k' : Nat} {s : ByteArray} {R R' : R3} (e : spotF T k s = some R) (e' : spotF T k' s = some R') : R = R' := by
 unfold spotF at e e'
 split at e
 ·
  rename_i c
  rw [if_pos c] at e'
  cases hl : (partsB s).getLast? with
  | none => rw [hl] at e e'; simp only [] at e e'; rw [e] at e'; exact Option.some.inj e'
  | some z =>
   rw [hl] at e e'
   simp only [] at e e'
   split at e
   · rename_i q; rw [if_pos q] at e'; rw [e] at e'; exact Option.some.inj e'
   ·
    rename_i q
    rw [if_neg q] at e'
    obtain ⟨r, hr, e⟩ := Option.bind_eq_some_iff.1 e
    obtain ⟨r', hr', e'⟩ := Option.bind_eq_some_iff.1 e'
    obtain rfl := walkF_det hr hr'
    rw [e] at e'
    exact Option.some.inj e'
 ·
  rename_i c
  rw [if_neg c] at e'
  rw [e] at e'
  exact Option.some.inj e'
end Go.Proofs.YtnpeeiikdcankaaGreat.Tw

namespace Go.Proofs.YtnpeeiikdcankaaGreat.X
open Go.RowKit Go.Proofs.YtnpeeiikdcankaaGreatW.PrintWords Go.Proofs.YtnpeeiikdcankaaGreatW.PrintLast Go.Proofs.YtnpeeiikdcankaaGreatW.PrintMore Go.Proofs.YtnpeeiikdcankaaGreat.Ext
attribute [local go_sem] max2_int min2_int max_two min_two max_three min_three max_four min_four
theorem eqA162 (d : Nat) (w : World) (x0 y0 : ByteArray) (x1 y1 : Int) :
  (Op.equalIn (d + 2) 162 (.agg #[.string x0, .int .i64 x1]) (.agg #[.string y0, .int .i64 y1])).run Tryz.prog w = .ok (x0.toList == y0.toList && (x1 == y1)) w := by
 refine eqA_of Tryz.underlying162 (by kernel_rfl) ?_
 refine eqf_cons (by rfl) (by go_simp; rfl) (by go_simp; rfl) (by go_simp) ?_
 exact eqf_last (by rfl) (by go_simp; rfl) (by go_simp; rfl) (by go_simp)
end Go.Proofs.YtnpeeiikdcankaaGreat.X

namespace Go.Proofs.YtnpeeiikdcankaaGreat.X
open Go.RowKit Go.Proofs.YtnpeeiikdcankaaGreatW.PrintWords Go.Proofs.YtnpeeiikdcankaaGreatW.PrintLast Go.Proofs.YtnpeeiikdcankaaGreatW.PrintMore Go.Proofs.YtnpeeiikdcankaaGreat.Ext
attribute [local go_sem] max2_int min2_int max_two min_two max_three min_three max_four min_four
attribute [local go_sem high] eqA162
end Go.Proofs.YtnpeeiikdcankaaGreat.X

namespace Go.Proofs.YtnpeeiikdcankaaGreat.Tw
open Go Go.RowKit Go.Shelf Go.Proofs Go.Proofs.YtnpeeiikdcankaaGreat Go.Proofs.YtnpeeiikdcankaaGreatW.PrintWords Go.Proofs.YtnpeeiikdcankaaGreat.Ext Go.Proofs.YtnpeeiikdcankaaGreat.X Go.Proofs.YtnpeeiikdcankaaGreat.Pu
def rowsL0 : List RN := [⟨1, 1, ⟨#[]⟩, 1, ⟨#[]⟩⟩]
def rowsL1 : List RN := [⟨1, 1, ⟨#[]⟩, 1, ⟨#[]⟩⟩, ⟨2, 1, ⟨#[97]⟩, 1, ⟨#[]⟩⟩]
def flL : List FT := [⟨2, 16⟩]
theorem spotL0 : spotV rowsL0 1 ⟨#[97]⟩ = (1, ⟨#[97]⟩, 0) := by
 have hG : GoodL rowsL0 1 := good0
 obtain ⟨k, hk⟩ := spotV_spec hG goodM0 ⟨#[97]⟩
 have : spotF (trOf rowsL0 1) 10 ⟨#[97]⟩ = some (1, ⟨#[97]⟩, 0) := by
  simp [rowsL0, spotF, beginE, toL, ByteArray.size, partsB, bs, Sp.parts, Sp.go, Sp.keep, walk_cons, walk_nil, node_of hG, downT_of hG, atR, inR, inQ, Sp.check, slashB, Lib.hasPrefix, Sp.mk, show trOf [⟨1, 1, ⟨#[]⟩, 1, ⟨#[]⟩⟩] 1 = trOf rowsL0 1 from rfl]
 exact spotF_det hk this
theorem fsA : fsP rowsL0 1 flL 0 false 1 ⟨#[97]⟩ ⟨#[]⟩ = ((rowsL1, 2, 0), 1, false) := by
 have h1 : doP rowsL0 1 1 ⟨#[97]⟩ ⟨#[]⟩ = (rowsL1, 2, 0) := by
  unfold doP mkP
  rw [if_pos rfl, spotL0]
  simp [rowsL0, rowsL1, putL, putN, putRE, dirE, atR, inR, inQ, toL, mayE, Sp.check, ByteArray.size]
 unfold fsP
 rw [if_neg (by decide), if_neg (by decide), if_neg (by simp [faultV, flL, fP]), h1]
 rfl
theorem goodL1 : GoodL rowsL1 2 ∧ GoodM rowsL1 := by
 have := (fine_fs (L := rowsL0) (la := 1) good0 goodM0 flL 0 false 1 ⟨#[97]⟩ ⟨#[]⟩).1
 rw [fsA] at this
 exact ⟨this.good, this.goodm⟩
noncomputable def validP (L : List RN) (la : Int) (ts : List S36) : Int × Int := if mayT ts ≠ 0 then (0, mayT ts) else (((appP L la ts).2 : Int), (appP L la ts).1.2.2)
theorem valid_calls (p B : Nat) (L : List RN) (la : Int) (A : Option Addr) (c : Nat) (ts : List S36) (w : World) (h : TreeB w p B (trOf L la)) (hG : GoodL L la) (hM : GoodM L) (hC : Kd.C k36 w A ts.length ts) (hc : ts.length ≤ c) (hl : ts.length ≤ 100000) (hz : OkSz ts) (hla : la ≤ 100000) :
  Calls Tryz.prog 31 #[pT p, .slice A ts.length c] w fun e w' => e = .returned (.tuple #[.int .i64 (validP L la ts).1, .int .i64 (validP L la ts).2]) ∧ Below w.heap.size w w' := by
 have HM := qh (fun W h => may20_calls A c ts W h hc (by omega) hz)
 have HCP := qh (fun W h => copy_calls p B L la W h hG hla)
 have HAP := qh (fun p B W h hC => apply_calls p B L la A c ts W h hG hM hC hc hl hla)
 have HT := qh h
 have HC := qh hC
 unfold validP
 generalize appP L la ts = o at *
 generalize mayT ts = m at *
 obtain ⟨⟨L7, n7, oE⟩, oN⟩ := o
 clear h hG hM hC hl hz hla
 by_cases hm : m = 0
 ·
  subst hm
  rw [if_neg (by simp)]
  go_enter Tryz.func31, Tryz.ntmps31
  go_wp2_with (first
   | (go_at_call 79; refine (HM.out _ HC.out).mono ?_; rintro e w2 ⟨rfl, hb2⟩; have HB2 := qh hb2; clear hb2)
   | (go_at_call 80; refine (HCP.out _ (HT.out.below HB2.out)).mono ?_; rintro e w3 ⟨p', B', rfl, hT3, hb3, hp, hB⟩; have HT3 := qh hT3; have HB3 := qh (HB2.out.trans (hb3.mono HB2.out.size)); have HPB := qh (And.intro (Nat.le_trans HB2.out.size hp) (Nat.le_trans HB2.out.size hB)); clear hT3 hb3 hp hB)
   | (go_at_call 28; refine (HAP.out _ _ _ HT3.out (Kd.C_below HC.out HB3.out)).mono ?_; rintro e w4 ⟨rfl, hT4, hF4⟩))
  refine bodyPost_ret (v := .tuple #[.int .i64 (oN : Int), .int .i64 oE]) (by simp [results, Tryz.results31, go_sem]) rfl ⟨rfl, HB3.out.trans (hF4.below HB3.out.size HPB.out.1 HPB.out.2)⟩
 ·
  rw [if_pos hm]
  have b1 : (m != 0) = true := bne_iff_ne.2 hm
  clear hm
  go_enter Tryz.func31, Tryz.ntmps31
  go_wp2_with (go_at_call 79; refine (HM.out _ HC.out).mono ?_; rintro e w2 ⟨rfl, hb2⟩)
  refine bodyPost_ret (v := .tuple #[.int .i64 0, .int .i64 m]) (by simp [results, Tryz.results31, go_sem]) rfl ⟨rfl, hb2⟩
theorem valid_nil (v : Value) (w : World) : Calls Tryz.prog 31 #[.pointer none, v] w fun e w' => e = .returned (.tuple #[.int .i64 0, .int .i64 1]) ∧ w' = w := by
 go_enter Tryz.func31, Tryz.ntmps31
 go_wp2
 refine bodyPost_ret (v := .tuple #[.int .i64 0, .int .i64 1]) (by simp [results, Tryz.results31, go_sem]) rfl ⟨rfl, rfl⟩
theorem run_nil (v : Value) (w : World) : Calls Tryz.prog 50 #[.pointer none, v] w fun e w' => e = .returned (.tuple #[.int .i64 0, .int .i64 1]) ∧ w' = w := by
 go_enter Tryz.func50, Tryz.ntmps50
 go_wp2
 refine bodyPost_ret (v := .tuple #[.int .i64 0, .int .i64 1]) (by simp [results, Tryz.results50, go_sem]) rfl ⟨rfl, rfl⟩
theorem after_nil (v n : Value) (w : World) : Calls Tryz.prog 33 #[.pointer none, v, n] w fun e w' => e = .returned (.pointer none) ∧ w' = w := by
 go_enter Tryz.func33, Tryz.ntmps33
 go_wp2
 go_ret
 exact ⟨rfl, rfl⟩
def tkA : S36 := ⟨1, ⟨#[47, 97]⟩, ⟨#[]⟩⟩
theorem spotA0 : spotV rowsL0 1 ⟨#[47, 97]⟩ = (1, ⟨#[97]⟩, 0) := by
 have hG : GoodL rowsL0 1 := good0
 obtain ⟨k, hk⟩ := spotV_spec hG goodM0 ⟨#[47, 97]⟩
 have : spotF (trOf rowsL0 1) 10 ⟨#[47, 97]⟩ = some (1, ⟨#[97]⟩, 0) := by
  simp [rowsL0, spotF, beginE, toL, ByteArray.size, partsB, bs, Sp.parts, Sp.go, Sp.keep, walk_cons, walk_nil, node_of hG, downT_of hG, atR, inR, inQ, Sp.check, slashB, Lib.hasPrefix, Sp.mk, show trOf [⟨1, 1, ⟨#[]⟩, 1, ⟨#[]⟩⟩] 1 = trOf rowsL0 1 from rfl]
 exact spotF_det hk this
theorem spotA1 : spotV rowsL1 2 ⟨#[47, 97]⟩ = (1, ⟨#[97]⟩, 0) := by
 have hG : GoodL rowsL1 2 := goodL1.1
 obtain ⟨k, hk⟩ := spotV_spec hG goodL1.2 ⟨#[47, 97]⟩
 have : spotF (trOf rowsL1 2) 10 ⟨#[47, 97]⟩ = some (1, ⟨#[97]⟩, 0) := by
  simp [rowsL1, spotF, beginE, toL, ByteArray.size, partsB, bs, Sp.parts, Sp.go, Sp.keep, walk_cons, walk_nil, node_of hG, downT_of hG, atR, inR, inQ, Sp.check, slashB, Lib.hasPrefix, Sp.mk, show trOf [⟨1, 1, ⟨#[]⟩, 1, ⟨#[]⟩⟩, ⟨2, 1, ⟨#[97]⟩, 1, ⟨#[]⟩⟩] 2 = trOf rowsL1 2 from rfl]
 exact spotF_det hk this
theorem doA0 : doP rowsL0 1 tkA.f0 tkA.f1 tkA.f2 = (rowsL1, 2, 0) := by
 show doP rowsL0 1 1 ⟨#[47, 97]⟩ ⟨#[]⟩ = _
 unfold doP mkP
 rw [if_pos rfl, spotA0]
 simp [rowsL0, rowsL1, putL, putN, putRE, dirE, atR, inR, inQ, toL, mayE, Sp.check, ByteArray.size]
theorem doA1 : doP rowsL1 2 tkA.f0 tkA.f1 tkA.f2 = (rowsL1, 2, 6) := by
 show doP rowsL1 2 1 ⟨#[47, 97]⟩ ⟨#[]⟩ = _
 unfold doP mkP
 rw [if_pos rfl, spotA1]
 simp [rowsL1, putL, putN, putRE, dirE, atR, inR, inQ, toL, mayE, Sp.check, ByteArray.size]
theorem rtA : rtB tkA = true := by decide
theorem validA : validP rowsL0 1 [tkA, tkA] = (1, 6) := by
 have h1 : mayT [tkA, tkA] = 0 := by unfold mayT; rw [if_neg (by simp [rtA])]; rfl
 have h2 : appP rowsL0 1 [tkA, tkA] = ((rowsL1, 2, 6), 1) := by
  rw [appP_cons, doA0, if_neg (by simp), appP_cons, doA1, if_pos (by simp)]
 unfold validP
 rw [h1, h2]
 rfl
theorem litT {w : World} {b : Nat} {x y : S36} (h : w.heap[b]? = some (.cells #[.int .i64 x.f0, .string x.f1, .string x.f2, .int .i64 y.f0, .string y.f1, .string y.f2] 36 (0, 0))) : Kd.C k36 w (some ⟨b, 0, none⟩) 2 [x, y] := by
 refine ⟨rfl, by simp, fun _ => ⟨⟨b, 0, none⟩, rfl, fun j q hj => ?_⟩⟩
 match j, hj with
 | 0, hj =>
  cases hj
  refine ⟨_, rfl, k36_mk _ _, fun i u hu => ?_⟩
  match i, hu with
  | 0, hu => cases hu; show w.cell? ⟨b, 0, none⟩ = _; rw [blk_cell h]; rfl
  | 1, hu => cases hu; show w.cell? ⟨b, 1, none⟩ = _; rw [blk_cell h]; rfl
  | 2, hu => cases hu; show w.cell? ⟨b, 2, none⟩ = _; rw [blk_cell h]; rfl
 | 1, hj =>
  cases hj
  refine ⟨_, rfl, k36_mk _ _, fun i u hu => ?_⟩
  match i, hu with
  | 0, hu => cases hu; show w.cell? ⟨b, 3, none⟩ = _; rw [blk_cell h]; rfl
  | 1, hu => cases hu; show w.cell? ⟨b, 4, none⟩ = _; rw [blk_cell h]; rfl
  | 2, hu => cases hu; show w.cell? ⟨b, 5, none⟩ = _; rw [blk_cell h]; rfl
theorem lives20_calls (w : World) : Calls Tryz.prog 30 #[] w fun e w' => e = .returned (.bool true) ∧ Below w.heap.size w w' := by
 have HN := qh (fun W => new_calls W)
 have HV := qh (fun p B A c W h hC hc => valid_calls p B rowsL0 1 A c [tkA, tkA] W h good0 goodM0 hC hc (by decide) (by intro x hx; simp only [List.mem_cons, List.not_mem_nil, or_false, or_self] at hx; subst hx; decide) (by decide))
 rw [validA] at HV
 rw [show T0 = trOf rowsL0 1 from T0_eq] at HN
 go_enter Tryz.func30, Tryz.ntmps30
 go_wp2_with (first
  | (go_at_call 54; refine (HN.out _).mono ?_; rintro e w2 ⟨p, B, rfl, hT, hb, hp, hB⟩; have hba := below_alloc (Below.refl w2.heap.size w2) (.cells #[.int .i64 1, .string ⟨#[47, 97]⟩, .string ⟨#[]⟩, .int .i64 1, .string ⟨#[47, 97]⟩, .string ⟨#[]⟩] 36); have HT2 := qh (hT.below hba); have HB2 := qh (hb.trans (hba.mono hb.size)); have HQ2 := qh (litT (x := tkA) (y := tkA) (heap_alloc_new w2 (.cells #[.int .i64 1, .string ⟨#[47, 97]⟩, .string ⟨#[]⟩, .int .i64 1, .string ⟨#[47, 97]⟩, .string ⟨#[]⟩] 36))); clear hT hb hp hB hba)
  | (go_at_call 31; refine (HV.out _ _ _ _ _ HT2.out HQ2.out (by decide)).mono ?_; rintro e w3 ⟨rfl, hb3⟩))
 go_ret
 exact ⟨rfl, HB2.out.trans (hb3.mono HB2.out.size)⟩
theorem actNone_calls (A : Option Addr) (c : Nat) (ts : List S36) (n : Int) (w : World) (hC : Kd.C k36 w A ts.length ts) (hc : ts.length ≤ c) (hb : (ts.map (fun x => 1 + (x.f1.size + 1 + (x.f2.size + 1)) + 1)).sum + 1 ≤ 1048576) (ho : ∀ x ∈ ts, (Lit.int .i64 x.f0).wf = true ∧ True ∧ True) (hn : (Lit.int .i64 n).wf = true) :
  Calls Tryz.prog 9 #[.slice A ts.length c, .int .i64 n] w fun e w' => e = .returned (.bool true) ∧ Below w.heap.size w w' := by
 have HV := qh (fun v W => valid_nil v W)
 have HR := qh (fun v W => run_nil v W)
 have HA := qh (fun v n W => after_nil v n W)
 have HLV := qh lives20_calls
 clear hC hc
 go_enter Tryz.func9, Tryz.ntmps9
 go_wp2_with (first
  | (go_at_call 31; refine (HV.out _ _).mono ?_; rintro e w' ⟨rfl, rfl⟩)
  | (go_at_call 50; refine (HR.out _ _).mono ?_; rintro e w' ⟨rfl, rfl⟩)
  | (go_at_call 33; refine (HA.out _ _ _).mono ?_; rintro e w' ⟨rfl, rfl⟩)
  | (go_at_call 30; refine (HLV.out _).mono ?_; rintro e w2 ⟨rfl, hb2⟩))
 go_ret
 exact ⟨rfl, hb2⟩
end Go.Proofs.YtnpeeiikdcankaaGreat.Tw
