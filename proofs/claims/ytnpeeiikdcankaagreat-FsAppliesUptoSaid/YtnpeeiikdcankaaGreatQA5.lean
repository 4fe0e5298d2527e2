/- Texts of this session, merged: PosO, PosW, Rset, RsetOk, Rcut, Rmove, FsA, FsC, RmoveD, RmoveF, Rnine, RnineB. -/
import Derived.Test.YtnpeeiikdcankaaGreatQA0
import Derived.Test.YtnpeeiikdcankaaGreatQA2
import Derived.Test.YtnpeeiikdcankaaGreatQA3
import Derived.Test.YtnpeeiikdcankaaGreatQA4
import Derived.Laws.EntriesVeiled
set_option linter.unusedVariables false
set_option linter.unusedSimpArgs false

set_option maxHeartbeats 8000000
set_option maxRecDepth 1000000
namespace Go.Proofs.YtnpeeiikdcankaaGreat.Tw
open Go Go.RowKit Go.Shelf Go.Proofs Go.Proofs.YtnpeeiikdcankaaGreat Go.Proofs.YtnpeeiikdcankaaGreatW.PrintWords Go.Proofs.YtnpeeiikdcankaaGreat.Ext Go.Proofs.YtnpeeiikdcankaaGreat.X Go.Proofs.YtnpeeiikdcankaaGreat.Pu
noncomputable def spotV (L : List RN) (last : Int) (s : ByteArray) : R3 := @Classical.epsilon R3 ⟨noS 0⟩ (fun R => ∃ k, spotF (trOf L last) k s = some R)
noncomputable def findV (L : List RN) (last : Int) (lst : Bool) (s : ByteArray) : Int × Int := @Classical.epsilon (Int × Int) ⟨(0, 0)⟩ (fun R => ∃ k, findF (trOf L last) lst k s = some R)
theorem spotV_spec {L : List RN} {last : Int} (hG : GoodL L last) (hM : GoodM L) (s : ByteArray) : ∃ k, spotF (trOf L last) k s = some (spotV L last s) := by
 obtain ⟨k, _, R, h, _⟩ := spot_both hG hM s
 exact @Classical.epsilon_spec R3 (fun R => ∃ k, spotF (trOf L last) k s = some R) ⟨R, k, h⟩
theorem findV_spec {L : List RN} {last : Int} (hG : GoodL L last) (hM : GoodM L) (lst : Bool) (s : ByteArray) : ∃ k, findF (trOf L last) lst k s = some (findV L last lst s) := by
 obtain ⟨k, R, h, _⟩ := find_both hG hM lst s
 exact @Classical.epsilon_spec (Int × Int) (fun R => ∃ k, findF (trOf L last) lst k s = some R) ⟨R, k, h⟩
theorem spotF_wf {T : Tr} (hO : TrOK T) {k : Nat} {s : ByteArray} {R : R3} (h : spotF T k s = some R) : wf R.1 ∧ R.2.1.size ≤ 1024 := by
 unfold spotF at h
 by_cases h0 : beginE s = 0
 ·
  rw [if_pos h0] at h
  have hz := (beginE_ok h0).1
  cases hl : (partsB s).getLast? with
  | none => rw [hl] at h; cases h; exact ⟨wf0, Nat.zero_le _⟩
  | some z =>
   rw [hl] at h
   have hzm : z ∈ partsB s := List.mem_of_getLast? hl
   have hzz := partsB_sz s z hzm
   simp only [] at h
   split at h
   · cases h; exact ⟨wf0, Nat.zero_le _⟩
   ·
    obtain ⟨r, hr, h⟩ := Option.bind_eq_some_iff.1 h
    have hwr := walkF_wf hO true k 1 0 _ r wf1 hr
    split at h
    ·
     split at h
     ·
      split at h
      · cases h; exact ⟨hwr, by show z.size ≤ 1024; omega⟩
      · cases h; exact ⟨wf0, Nat.zero_le _⟩
     · cases h; exact ⟨wf0, Nat.zero_le _⟩
    · cases h; exact ⟨wf0, Nat.zero_le _⟩
 ·
  rw [if_neg h0] at h
  cases h
  exact ⟨wf0, Nat.zero_le _⟩
abbrev Op3 := List RN × Int × Int
noncomputable def mkP (L : List RN) (last : Int) (s : ByteArray) (kind : Int) (data : ByteArray) : Op3 :=
 if (spotV L last s).2.2 ≠ 0 then (L, last, (spotV L last s).2.2) else
  (putL L last (spotV L last s).1 (spotV L last s).2.1 kind data, putN L last (spotV L last s).1 (spotV L last s).2.1 kind data, putRE L (spotV L last s).1 (spotV L last s).2.1 kind data)
def mayK (dir : Bool) (k : Int) : Int := if dir = true then (if k = 1 then 0 else 7) else (if k = 1 then 8 else 0)
noncomputable def cutP (L : List RN) (last : Int) (s : ByteArray) (dir : Bool) : Op3 :=
 if (spotV L last s).2.2 ≠ 0 then (L, last, (spotV L last s).2.2) else
  if inR L (spotV L last s).1 (spotV L last s).2.1 = 0 then (L, last, 5) else
   if mayK dir (atR L (inR L (spotV L last s).1 (spotV L last s).2.1)).f3 ≠ 0 then (L, last, mayK dir (atR L (inR L (spotV L last s).1 (spotV L last s).2.1)).f3) else
    (cutS L (spotV L last s).1 (spotV L last s).2.1, last, cutRE L (spotV L last s).1 (spotV L last s).2.1)
noncomputable def renP (L : List RN) (last : Int) (a b : ByteArray) : Op3 :=
 if (spotV L last a).2.2 ≠ 0 then (L, last, (spotV L last a).2.2) else if (spotV L last b).2.2 ≠ 0 then (L, last, (spotV L last b).2.2) else
  (movM L last (spotV L last a).1 (spotV L last a).2.1 (spotV L last b).1 (spotV L last b).2.1, last, movP L last (spotV L last a).1 (spotV L last a).2.1 (spotV L last b).1 (spotV L last b).2.1)
noncomputable def wrP (L : List RN) (last : Int) (s data : ByteArray) : Op3 :=
 if (findV L last true s).2 = 0 then (setS L (findV L last true s).1 data, last, setRE L (findV L last true s).1 data) else
  if (findV L last true s).2 ≠ 5 then (L, last, (findV L last true s).2) else
   if (spotV L last s).2.2 ≠ 0 then (L, last, (spotV L last s).2.2) else
    if inR L (spotV L last s).1 (spotV L last s).2.1 ≠ 0 then (L, last, 5) else
     (putL L last (spotV L last s).1 (spotV L last s).2.1 2 data, putN L last (spotV L last s).1 (spotV L last s).2.1 2 data, putRE L (spotV L last s).1 (spotV L last s).2.1 2 data)
noncomputable def doP (L : List RN) (last k : Int) (a b : ByteArray) : Op3 :=
 if k = 1 then mkP L last a 1 ⟨#[]⟩ else if k = 2 then cutP L last a true else if k = 3 then mkP L last a 3 b else if k = 4 then cutP L last a false else if k = 5 then renP L last a b else if k = 6 then wrP L last a b else (L, last, 2)
structure Fine (L : List RN) (last : Int) (o : Op3) : Prop where
 good : GoodL o.1 o.2.1
 goodm : GoodM o.1
 lst : o.2.1 ≤ last + 1
 same : o.2.2 ≠ 0 → o.1 = L ∧ o.2.1 = last
theorem fine_err {L : List RN} {last e : Int} (hG : GoodL L last) (hM : GoodM L) : Fine L last (L, last, e) := ⟨hG, hM, by show last ≤ last + 1; omega, fun _ => ⟨rfl, rfl⟩⟩
theorem fine_put {L : List RN} {last d : Int} {s : ByteArray} {kind : Int} {data : ByteArray} (hG : GoodL L last) (hM : GoodM L) : Fine L last (putL L last d s kind data, putN L last d s kind data, putRE L d s kind data) := by
 refine ⟨good_put hG, goodM_put hG hM, ?_, fun h => ?_⟩
 ·
  show putN L last d s kind data ≤ last + 1
  unfold putN
  split
  · omega
  · omega
 ·
  show putL L last d s kind data = L ∧ putN L last d s kind data = last
  unfold putL putN
  rw [if_neg h, if_neg h]
  exact ⟨rfl, rfl⟩
theorem fine_mk {L : List RN} {last : Int} (hG : GoodL L last) (hM : GoodM L) (s : ByteArray) (kind : Int) (data : ByteArray) : Fine L last (mkP L last s kind data) := by
 unfold mkP
 split
 · exact fine_err hG hM
 · exact fine_put hG hM
theorem fine_cut {L : List RN} {last : Int} (hG : GoodL L last) (hM : GoodM L) (s : ByteArray) (dir : Bool) : Fine L last (cutP L last s dir) := by
 unfold cutP
 split
 · exact fine_err hG hM
 ·
  split
  · exact fine_err hG hM
  ·
   split
   · exact fine_err hG hM
   ·
    have := good_cut hG hM (spotV L last s).1 (spotV L last s).2.1
    refine ⟨this.1, this.2, by show last ≤ last + 1; omega, fun h => ⟨?_, rfl⟩⟩
    show cutS _ _ _ = L
    unfold cutS
    rw [if_neg h]
theorem fine_ren {L : List RN} {last : Int} (hG : GoodL L last) (hM : GoodM L) (a b : ByteArray) : Fine L last (renP L last a b) := by
 unfold renP
 split
 · exact fine_err hG hM
 ·
  split
  · exact fine_err hG hM
  ·
   have := good_mov hG hM (spotV L last a).1 (spotV L last a).2.1 (spotV L last b).1 (spotV L last b).2.1
   refine ⟨this.1, this.2, by show last ≤ last + 1; omega, fun h => ⟨?_, rfl⟩⟩
   show movM _ _ _ _ _ _ = L
   unfold movM
   rw [if_neg (fun q => h q.1)]
theorem fine_wr {L : List RN} {last : Int} (hG : GoodL L last) (hM : GoodM L) (s data : ByteArray) : Fine L last (wrP L last s data) := by
 unfold wrP
 split
 ·
  have := good_set hG hM (findV L last true s).1 data
  refine ⟨this.1, this.2, by show last ≤ last + 1; omega, fun h => ⟨?_, rfl⟩⟩
  show setS _ _ _ = L
  unfold setS
  rw [if_neg h]
 ·
  split
  · exact fine_err hG hM
  ·
   split
   · exact fine_err hG hM
   ·
    split
    · exact fine_err hG hM
    · exact fine_put hG hM
theorem fine_do {L : List RN} {last : Int} (hG : GoodL L last) (hM : GoodM L) (k : Int) (a b : ByteArray) : Fine L last (doP L last k a b) := by
 unfold doP
 split
 · exact fine_mk hG hM _ _ _
 ·
  split
  · exact fine_cut hG hM _ _
  ·
   split
   · exact fine_mk hG hM _ _ _
   ·
    split
    · exact fine_cut hG hM _ _
    ·
     split
     · exact fine_ren hG hM _ _
     ·
      split
      · exact fine_wr hG hM _ _
      · exact fine_err hG hM
def Left (p B : Nat) (w : World) (o : Op3) (e : Ending) (w' : World) : Prop := e = .returned (.int .i64 o.2.2) ∧ TreeB w' p B (trOf o.1 o.2.1) ∧ Frm w w' p B
theorem left_err {p B : Nat} {w w' : World} {L : List RN} {last e : Int} (h : TreeB w p B (trOf L last)) (hb : Below w.heap.size w w') : Left p B w (L, last, e) (.returned (.int .i64 e)) w' := ⟨rfl, h.below hb, Frm.ofBelow hb⟩
theorem put9_calls (p B : Nat) (L : List RN) (last : Int) (s : ByteArray) (kind : Int) (data : ByteArray) (w : World) (h : TreeB w p B (trOf L last)) (hG : GoodL L last) (hM : GoodM L) (hla : last < 1000000) :
  Calls Tryz.prog 112 #[pT p, .string s, .int .i64 kind, .string data] w (Left p B w (mkP L last s kind data)) := by
 have hO := trOK hG (by omega)
 obtain ⟨k, hk⟩ := spotV_spec hG hM s
 obtain ⟨hw, hz⟩ := spotF_wf hO hk
 have HP := qh (fun W h => spot_calls p (trOf L last) s k _ W h hO hk)
 have HU := qh (fun W h => tput_calls p B L last (spotV L last s).1 (spotV L last s).2.1 kind data W h hG hw (by omega) hla)
 have HT := qh h
 unfold mkP
 generalize putA L last (spotV L last s).1 (spotV L last s).2.1 kind data = pa at *
 generalize putRE L (spotV L last s).1 (spotV L last s).2.1 kind data = pe at *
 generalize hpl : putL L last (spotV L last s).1 (spotV L last s).2.1 kind data = pl at *
 generalize hpn : putN L last (spotV L last s).1 (spotV L last s).2.1 kind data = pn at *
 generalize spotV L last s = R at *
 obtain ⟨d, z, e⟩ := R
 simp only [] at *
 clear h hO hG hM hla hk hw hz hpl hpn
 by_cases he : e = 0
 ·
  subst he
  rw [if_neg (by simp)]
  go_enter Tryz.func112, Tryz.ntmps112
  go_wp2_with (first
   | (go_at_call 93; refine (HP.out _ HT.out.at_).mono ?_; rintro e w3 ⟨rfl, hb3⟩)
   | (go_at_call 56; refine (HU.out _ (HT.out.below hb3)).mono ?_; rintro e w6 ⟨rfl, hT6, hf6⟩))
  go_ret
  exact ⟨rfl, hT6, (Frm.ofBelow hb3).trans hf6⟩
 ·
  rw [if_pos he]
  have b1 : (e != 0) = true := bne_iff_ne.2 he
  clear he
  go_enter Tryz.func112, Tryz.ntmps112
  go_wp2_with (go_at_call 93; refine (HP.out _ HT.out.at_).mono ?_; rintro e w3 ⟨rfl, hb3⟩)
  go_ret
  exact left_err HT.out hb3
theorem mkdir9_calls (p B : Nat) (L : List RN) (last : Int) (s : ByteArray) (w : World) (h : TreeB w p B (trOf L last)) (hG : GoodL L last) (hM : GoodM L) (hla : last < 1000000) :
  Calls Tryz.prog 62 #[pT p, .string s] w (Left p B w (mkP L last s 1 ⟨#[]⟩)) := by
 have HP := qh (put9_calls p B L last s 1 ⟨#[]⟩ w h hG hM hla)
 generalize mkP L last s 1 ⟨#[]⟩ = o at *
 clear h hG hM hla
 go_enter Tryz.func62, Tryz.ntmps62
 go_wp2_with (go_at_call 112; refine HP.out.mono ?_; rintro e w3 ⟨rfl, hT, hF⟩)
 go_ret
 exact ⟨rfl, hT, hF⟩
theorem symlink9_calls (p B : Nat) (L : List RN) (last : Int) (data s : ByteArray) (w : World) (h : TreeB w p B (trOf L last)) (hG : GoodL L last) (hM : GoodM L) (hla : last < 1000000) :
  Calls Tryz.prog 64 #[pT p, .string data, .string s] w (Left p B w (mkP L last s 3 data)) := by
 have HP := qh (put9_calls p B L last s 3 data w h hG hM hla)
 generalize mkP L last s 3 data = o at *
 clear h hG hM hla
 go_enter Tryz.func64, Tryz.ntmps64
 go_wp2_with (go_at_call 112; refine HP.out.mono ?_; rintro e w3 ⟨rfl, hT, hF⟩)
 go_ret
 exact ⟨rfl, hT, hF⟩
theorem rename9_calls (p B : Nat) (L : List RN) (last : Int) (a b : ByteArray) (w : World) (h : TreeB w p B (trOf L last)) (hG : GoodL L last) (hM : GoodM L) (hla : last < 1000000) :
  Calls Tryz.prog 66 #[pT p, .string a, .string b] w (Left p B w (renP L last a b)) := by
 have hO := trOK hG (by omega)
 obtain ⟨k, hk⟩ := spotV_spec hG hM a
 obtain ⟨hw, hz⟩ := spotF_wf hO hk
 obtain ⟨k2, hk2⟩ := spotV_spec hG hM b
 obtain ⟨hw2, hz2⟩ := spotF_wf hO hk2
 have HP := qh (fun W h => spot_calls p (trOf L last) a k _ W h hO hk)
 have HP2 := qh (fun W h => spot_calls p (trOf L last) b k2 _ W h hO hk2)
 have HU := qh (fun W h => tmove_calls p B L last (spotV L last a).1 (spotV L last a).2.1 (spotV L last b).1 (spotV L last b).2.1 W h hG hM hw hw2 (by omega) (by omega))
 have HT := qh h
 unfold renP
 generalize movP L last (spotV L last a).1 (spotV L last a).2.1 (spotV L last b).1 (spotV L last b).2.1 = pe at *
 generalize hpl : movM L last (spotV L last a).1 (spotV L last a).2.1 (spotV L last b).1 (spotV L last b).2.1 = pl at *
 generalize spotV L last a = R at *
 generalize spotV L last b = R2 at *
 obtain ⟨d, z, e⟩ := R
 obtain ⟨d2, z2, e2⟩ := R2
 simp only [] at *
 clear h hO hG hM hla hk hw hz hk2 hw2 hz2 hpl
 have tk1 : True := trivial
 by_cases he : e = 0
 ·
  subst he
  rw [if_neg (by simp)]
  by_cases he2 : e2 = 0
  ·
   subst he2
   rw [if_neg (by simp)]
   go_enter Tryz.func66, Tryz.ntmps66
   go_upto_region 2 with (go_at_call 93; refine (HP.out _ HT.out.at_).mono ?_; rintro e w3 ⟨rfl, hb3⟩)
   go_wp2_with (first
    | (go_at_call 93; refine (HP2.out _ (HT.out.below hb3).at_).mono ?_; rintro e w4 ⟨rfl, hb4⟩)
    | (go_at_call 115; refine (HU.out _ ((HT.out.below hb3).below hb4)).mono ?_; rintro e w6 ⟨rfl, hT6, hf6⟩))
   go_ret
   exact ⟨rfl, hT6, (Frm.ofBelow (hb3.trans (hb4.mono hb3.size))).trans hf6⟩
  ·
   rw [if_pos he2]
   have b1 : (e2 != 0) = true := bne_iff_ne.2 he2
   clear he2
   go_enter Tryz.func66, Tryz.ntmps66
   go_upto_region 2 with (go_at_call 93; refine (HP.out _ HT.out.at_).mono ?_; rintro e w3 ⟨rfl, hb3⟩)
   go_wp2_with (go_at_call 93; refine (HP2.out _ (HT.out.below hb3).at_).mono ?_; rintro e w4 ⟨rfl, hb4⟩)
   go_ret
   exact left_err HT.out (hb3.trans (hb4.mono hb3.size))
 ·
  rw [if_pos he]
  have b1 : (e != 0) = true := bne_iff_ne.2 he
  clear he
  go_enter Tryz.func66, Tryz.ntmps66
  go_wp2_with (go_at_call 93; refine (HP.out _ HT.out.at_).mono ?_; rintro e w3 ⟨rfl, hb3⟩)
  go_ret
  exact left_err HT.out hb3
theorem unlink1_calls (k : Int) (w : World) : Calls Tryz.prog 114 #[.int .i64 k] w fun r w' => r = .returned (.int .i64 (if k = 1 then 8 else 0)) ∧ Below w.heap.size w w' := by
 by_cases hk : k = 1
 ·
  subst hk
  rw [if_pos rfl]
  go_enter Tryz.func114, Tryz.ntmps114
  go_wp2
  go_ret
  exact ⟨rfl, Below.refl _ _⟩
 ·
  rw [if_neg hk]
  have hk' : (k == 1) = false := beq_eq_false_iff_ne.2 hk
  clear hk
  go_enter Tryz.func114, Tryz.ntmps114
  go_wp2
  go_ret
  exact ⟨rfl, Below.refl _ _⟩
theorem cutR_calls (p B : Nat) (L : List RN) (last : Int) (s : ByteArray) (v : Value) (w : World) (h : TreeB w p B (trOf L last)) (hG : GoodL L last) (hM : GoodM L) (hla : last < 1000000) (hv : OnlyV w v 1 7) :
  Calls Tryz.prog 113 #[pT p, .string s, v] w (Left p B w (cutP L last s true)) := by
 have hO := trOK hG (by omega)
 obtain ⟨k, hk⟩ := spotV_spec hG hM s
 obtain ⟨hw, hz⟩ := spotF_wf hO hk
 have HP := qh (fun W h => spot_calls p (trOf L last) s k _ W h hO hk)
 have HL := qh (fun W h => list_calls p (trOf L last) (spotV L last s).1 W h hw (hO.small.node _))
 have HE := qh (fun A c W h hc => find_calls A c ((trOf L last).node (spotV L last s).1).ents (spotV L last s).2.1 W h hc (hO.small.node _) (node_rt hO _))
 rw [node_of hG (spotV L last s).1] at HE HL
 simp only [find_ents hG (spotV L last s).1 (spotV L last s).2.1] at HE
 have hwn := hO.wf_find (spotV L last s).1 (spotV L last s).2.1
 rw [node_of hG (spotV L last s).1] at hwn
 simp only [find_ents hG (spotV L last s).1 (spotV L last s).2.1] at hwn
 have HK := qh (fun W h => kind_calls p (trOf L last) (inR L (spotV L last s).1 (spotV L last s).2.1) W h hwn)
 rw [node_of hG (inR L (spotV L last s).1 (spotV L last s).2.1)] at HK
 simp only [] at HK HL
 have HU := qh (fun W h => tcut_calls p B L last (spotV L last s).1 (spotV L last s).2.1 W h hG hw (by omega))
 have HT := qh h
 have hin := inR_le hG (spotV L last s).1 (spotV L last s).2.1
 obtain ⟨gg, gh, rfl, h1, h2⟩ := hv
 have HO0 := qh (fun x W q1 q2 => only1_calls x 1 7 gg gh W q1 q2)
 have HV := qh (And.intro h1 h2)
 clear h1 h2
 unfold cutP
 generalize cutRE L (spotV L last s).1 (spotV L last s).2.1 = ce at *
 generalize hcs : cutS L (spotV L last s).1 (spotV L last s).2.1 = cs at *
 generalize (atR L (inR L (spotV L last s).1 (spotV L last s).2.1)).f3 = kd at *
 generalize inR L (spotV L last s).1 (spotV L last s).2.1 = n at *
 generalize entsOf L (spotV L last s).1 = es at *
 generalize spotV L last s = R at *
 obtain ⟨d, z, e⟩ := R
 simp only [] at *
 clear h hO hG hM hla hk hw hz hcs hwn
 by_cases he : e = 0
 ·
  subst he
  rw [if_neg (by simp)]
  by_cases hn : n = 0
  ·
   subst hn
   rw [if_pos rfl]
   rw [show decide ((0 : Int) < 0) = false from rfl] at HE
   clear HK HU hin
   go_enter Tryz.func113, Tryz.ntmps113
   go_wp2_with (first
    | (go_at_call 93; refine (HP.out _ HT.out.at_).mono ?_; rintro e w3 ⟨rfl, hb3⟩; have HB3 := qh hb3; have HT3 := qh (HT.out.below hb3); clear hb3)
    | (go_at_call 74; refine (HL.out _ HT3.out.at_).mono ?_; rintro e w4 ⟨v, rfl, hv, hb4⟩; obtain ⟨A4, c4, rfl, hl4, hC4⟩ := Kd.R_reads hv; have HB4 := qh (HB3.out.trans (hb4.mono HB3.out.size)); have HC4 := qh hC4; clear hv hb4 hC4)
    | (go_at_call 94; refine (HE.out _ _ _ HC4.out hl4).mono ?_; rintro e w5 ⟨rfl, hb5⟩; have HB5 := qh (HB4.out.trans (hb5.mono HB4.out.size)); have HT5 := qh (HT.out.below HB5.out); clear hb5))
   go_ret
   exact left_err HT.out HB5.out
  ·
   rw [if_neg hn]
   rw [decide_eq_true (show 0 < n by omega)] at HE
   by_cases hk1 : kd = 1
   ·
    subst hk1
    have hm : mayK true 1 = 0 := rfl
    rw [hm, if_neg (by simp)]
    have HO := qh (fun W q1 q2 => HO0.out 1 W q1 q2)
    rw [if_pos rfl] at HO
    clear HO0 hm
    clear hin hn
    go_enter Tryz.func113, Tryz.ntmps113
    go_wp2_with (first
     | (go_at_call 93; refine (HP.out _ HT.out.at_).mono ?_; rintro e w3 ⟨rfl, hb3⟩; have HB3 := qh hb3; have HT3 := qh (HT.out.below hb3); clear hb3)
     | (go_at_call 74; refine (HL.out _ HT3.out.at_).mono ?_; rintro e w4 ⟨v, rfl, hv, hb4⟩; obtain ⟨A4, c4, rfl, hl4, hC4⟩ := Kd.R_reads hv; have HB4 := qh (HB3.out.trans (hb4.mono HB3.out.size)); have HC4 := qh hC4; clear hv hb4 hC4)
     | (go_at_call 94; refine (HE.out _ _ _ HC4.out hl4).mono ?_; rintro e w5 ⟨rfl, hb5⟩; have HB5 := qh (HB4.out.trans (hb5.mono HB4.out.size)); have HT5 := qh (HT.out.below HB5.out); clear hb5)
     | (go_at_call 69; refine (HK.out _ HT5.out.at_).mono ?_; rintro e w6 ⟨rfl, hb6⟩; have HB6 := qh (HB5.out.trans (hb6.mono HB5.out.size)); have HT6 := qh (HT.out.below HB6.out); clear hb6)
     | (go_at_call 140; refine (HO.out _ ((HB6.out.block _ (blk_lt HV.out.1)).trans HV.out.1) ((HB6.out.block _ (blk_lt HV.out.2)).trans HV.out.2)).mono ?_; rintro e w7 ⟨rfl, hb7⟩; have HB7 := qh (HB6.out.trans (hb7.mono HB6.out.size)); have HT7 := qh (HT.out.below HB7.out); clear hb7)
     | (go_at_call 146; refine (HU.out _ HT7.out).mono ?_; rintro e w8 ⟨rfl, hT8, hF8⟩))
    go_ret
    exact ⟨rfl, hT8, (Frm.ofBelow HB7.out).trans hF8⟩
   ·
    have hm : mayK true kd = 7 := by unfold mayK; rw [if_pos rfl, if_neg hk1]
    rw [hm, if_pos (by simp)]
    have HO := qh (fun W q1 q2 => HO0.out kd W q1 q2)
    rw [if_neg hk1] at HO
    clear HO0 hm hk1
    clear hin hn HU
    go_enter Tryz.func113, Tryz.ntmps113
    go_wp2_with (first
     | (go_at_call 93; refine (HP.out _ HT.out.at_).mono ?_; rintro e w3 ⟨rfl, hb3⟩; have HB3 := qh hb3; have HT3 := qh (HT.out.below hb3); clear hb3)
     | (go_at_call 74; refine (HL.out _ HT3.out.at_).mono ?_; rintro e w4 ⟨v, rfl, hv, hb4⟩; obtain ⟨A4, c4, rfl, hl4, hC4⟩ := Kd.R_reads hv; have HB4 := qh (HB3.out.trans (hb4.mono HB3.out.size)); have HC4 := qh hC4; clear hv hb4 hC4)
     | (go_at_call 94; refine (HE.out _ _ _ HC4.out hl4).mono ?_; rintro e w5 ⟨rfl, hb5⟩; have HB5 := qh (HB4.out.trans (hb5.mono HB4.out.size)); have HT5 := qh (HT.out.below HB5.out); clear hb5)
     | (go_at_call 69; refine (HK.out _ HT5.out.at_).mono ?_; rintro e w6 ⟨rfl, hb6⟩; have HB6 := qh (HB5.out.trans (hb6.mono HB5.out.size)); have HT6 := qh (HT.out.below HB6.out); clear hb6)
     | (go_at_call 140; refine (HO.out _ ((HB6.out.block _ (blk_lt HV.out.1)).trans HV.out.1) ((HB6.out.block _ (blk_lt HV.out.2)).trans HV.out.2)).mono ?_; rintro e w7 ⟨rfl, hb7⟩; have HB7 := qh (HB6.out.trans (hb7.mono HB6.out.size)); have HT7 := qh (HT.out.below HB7.out); clear hb7))
    go_ret
    exact left_err HT.out HB7.out
 ·
  rw [if_pos he]
  have b1 : (e != 0) = true := bne_iff_ne.2 he
  clear he
  go_enter Tryz.func113, Tryz.ntmps113
  go_wp2_with (go_at_call 93; refine (HP.out _ HT.out.at_).mono ?_; rintro e w3 ⟨rfl, hb3⟩; have HB3 := qh hb3; have HT3 := qh (HT.out.below hb3); clear hb3)
  go_ret
  exact left_err HT.out HB3.out
theorem cutU_calls (p B : Nat) (L : List RN) (last : Int) (s : ByteArray) (w : World) (h : TreeB w p B (trOf L last)) (hG : GoodL L last) (hM : GoodM L) (hla : last < 1000000) :
  Calls Tryz.prog 113 #[pT p, .string s, .func (.func 114) #[] #[]] w (Left p B w (cutP L last s false)) := by
 have hO := trOK hG (by omega)
 obtain ⟨k, hk⟩ := spotV_spec hG hM s
 obtain ⟨hw, hz⟩ := spotF_wf hO hk
 have HP := qh (fun W h => spot_calls p (trOf L last) s k _ W h hO hk)
 have HL := qh (fun W h => list_calls p (trOf L last) (spotV L last s).1 W h hw (hO.small.node _))
 have HE := qh (fun A c W h hc => find_calls A c ((trOf L last).node (spotV L last s).1).ents (spotV L last s).2.1 W h hc (hO.small.node _) (node_rt hO _))
 rw [node_of hG (spotV L last s).1] at HE HL
 simp only [find_ents hG (spotV L last s).1 (spotV L last s).2.1] at HE
 have hwn := hO.wf_find (spotV L last s).1 (spotV L last s).2.1
 rw [node_of hG (spotV L last s).1] at hwn
 simp only [find_ents hG (spotV L last s).1 (spotV L last s).2.1] at hwn
 have HK := qh (fun W h => kind_calls p (trOf L last) (inR L (spotV L last s).1 (spotV L last s).2.1) W h hwn)
 rw [node_of hG (inR L (spotV L last s).1 (spotV L last s).2.1)] at HK
 simp only [] at HK HL
 have HU := qh (fun W h => tcut_calls p B L last (spotV L last s).1 (spotV L last s).2.1 W h hG hw (by omega))
 have HT := qh h
 have hin := inR_le hG (spotV L last s).1 (spotV L last s).2.1
 unfold cutP
 generalize cutRE L (spotV L last s).1 (spotV L last s).2.1 = ce at *
 generalize hcs : cutS L (spotV L last s).1 (spotV L last s).2.1 = cs at *
 generalize (atR L (inR L (spotV L last s).1 (spotV L last s).2.1)).f3 = kd at *
 generalize inR L (spotV L last s).1 (spotV L last s).2.1 = n at *
 generalize entsOf L (spotV L last s).1 = es at *
 generalize spotV L last s = R at *
 obtain ⟨d, z, e⟩ := R
 simp only [] at *
 clear h hO hG hM hla hk hw hz hcs hwn
 by_cases he : e = 0
 ·
  subst he
  rw [if_neg (by simp)]
  by_cases hn : n = 0
  ·
   subst hn
   rw [if_pos rfl]
   rw [show decide ((0 : Int) < 0) = false from rfl] at HE
   clear HK HU hin
   go_enter Tryz.func113, Tryz.ntmps113
   go_wp2_with (first
    | (go_at_call 93; refine (HP.out _ HT.out.at_).mono ?_; rintro e w3 ⟨rfl, hb3⟩; have HB3 := qh hb3; have HT3 := qh (HT.out.below hb3); clear hb3)
    | (go_at_call 74; refine (HL.out _ HT3.out.at_).mono ?_; rintro e w4 ⟨v, rfl, hv, hb4⟩; obtain ⟨A4, c4, rfl, hl4, hC4⟩ := Kd.R_reads hv; have HB4 := qh (HB3.out.trans (hb4.mono HB3.out.size)); have HC4 := qh hC4; clear hv hb4 hC4)
    | (go_at_call 94; refine (HE.out _ _ _ HC4.out hl4).mono ?_; rintro e w5 ⟨rfl, hb5⟩; have HB5 := qh (HB4.out.trans (hb5.mono HB4.out.size)); have HT5 := qh (HT.out.below HB5.out); clear hb5))
   go_ret
   exact left_err HT.out HB5.out
  ·
   rw [if_neg hn]
   rw [decide_eq_true (show 0 < n by omega)] at HE
   by_cases hk1 : kd = 1
   ·
    subst hk1
    have hm : mayK false 1 = 8 := rfl
    rw [hm, if_pos (by simp)]
    have HO := qh (fun W => unlink1_calls 1 W)
    rw [if_pos rfl] at HO
    clear hm
    clear hin hn HU
    go_enter Tryz.func113, Tryz.ntmps113
    go_wp2_with (first
     | (go_at_call 93; refine (HP.out _ HT.out.at_).mono ?_; rintro e w3 ⟨rfl, hb3⟩; have HB3 := qh hb3; have HT3 := qh (HT.out.below hb3); clear hb3)
     | (go_at_call 74; refine (HL.out _ HT3.out.at_).mono ?_; rintro e w4 ⟨v, rfl, hv, hb4⟩; obtain ⟨A4, c4, rfl, hl4, hC4⟩ := Kd.R_reads hv; have HB4 := qh (HB3.out.trans (hb4.mono HB3.out.size)); have HC4 := qh hC4; clear hv hb4 hC4)
     | (go_at_call 94; refine (HE.out _ _ _ HC4.out hl4).mono ?_; rintro e w5 ⟨rfl, hb5⟩; have HB5 := qh (HB4.out.trans (hb5.mono HB4.out.size)); have HT5 := qh (HT.out.below HB5.out); clear hb5)
     | (go_at_call 69; refine (HK.out _ HT5.out.at_).mono ?_; rintro e w6 ⟨rfl, hb6⟩; have HB6 := qh (HB5.out.trans (hb6.mono HB5.out.size)); have HT6 := qh (HT.out.below HB6.out); clear hb6)
     | (go_at_call 114; refine (HO.out _).mono ?_; rintro e w7 ⟨rfl, hb7⟩; have HB7 := qh (HB6.out.trans (hb7.mono HB6.out.size)); have HT7 := qh (HT.out.below HB7.out); clear hb7))
    go_ret
    exact left_err HT.out HB7.out
   ·
    have hm : mayK false kd = 0 := by unfold mayK; rw [if_neg (by simp), if_neg hk1]
    rw [hm, if_neg (by simp)]
    have HO := qh (fun W => unlink1_calls kd W)
    rw [if_neg hk1] at HO
    clear hm hk1
    clear hin hn
    go_enter Tryz.func113, Tryz.ntmps113
    go_wp2_with (first
     | (go_at_call 93; refine (HP.out _ HT.out.at_).mono ?_; rintro e w3 ⟨rfl, hb3⟩; have HB3 := qh hb3; have HT3 := qh (HT.out.below hb3); clear hb3)
     | (go_at_call 74; refine (HL.out _ HT3.out.at_).mono ?_; rintro e w4 ⟨v, rfl, hv, hb4⟩; obtain ⟨A4, c4, rfl, hl4, hC4⟩ := Kd.R_reads hv; have HB4 := qh (HB3.out.trans (hb4.mono HB3.out.size)); have HC4 := qh hC4; clear hv hb4 hC4)
     | (go_at_call 94; refine (HE.out _ _ _ HC4.out hl4).mono ?_; rintro e w5 ⟨rfl, hb5⟩; have HB5 := qh (HB4.out.trans (hb5.mono HB4.out.size)); have HT5 := qh (HT.out.below HB5.out); clear hb5)
     | (go_at_call 69; refine (HK.out _ HT5.out.at_).mono ?_; rintro e w6 ⟨rfl, hb6⟩; have HB6 := qh (HB5.out.trans (hb6.mono HB5.out.size)); have HT6 := qh (HT.out.below HB6.out); clear hb6)
     | (go_at_call 114; refine (HO.out _).mono ?_; rintro e w7 ⟨rfl, hb7⟩; have HB7 := qh (HB6.out.trans (hb7.mono HB6.out.size)); have HT7 := qh (HT.out.below HB7.out); clear hb7)
     | (go_at_call 146; refine (HU.out _ HT7.out).mono ?_; rintro e w8 ⟨rfl, hT8, hF8⟩))
    go_ret
    exact ⟨rfl, hT8, (Frm.ofBelow HB7.out).trans hF8⟩
 ·
  rw [if_pos he]
  have b1 : (e != 0) = true := bne_iff_ne.2 he
  clear he
  go_enter Tryz.func113, Tryz.ntmps113
  go_wp2_with (go_at_call 93; refine (HP.out _ HT.out.at_).mono ?_; rintro e w3 ⟨rfl, hb3⟩; have HB3 := qh hb3; have HT3 := qh (HT.out.below hb3); clear hb3)
  go_ret
  exact left_err HT.out HB3.out
theorem rmdir9_calls (p B : Nat) (L : List RN) (last : Int) (s : ByteArray) (w : World) (h : TreeB w p B (trOf L last)) (hG : GoodL L last) (hM : GoodM L) (hla : last < 1000000) :
  Calls Tryz.prog 63 #[pT p, .string s] w (Left p B w (cutP L last s true)) := by
 have HP := qh (fun v W h hv => cutR_calls p B L last s v W h hG hM hla hv)
 have HO := qh (only_calls 1 7 w)
 have HT := qh h
 generalize cutP L last s true = o at *
 clear h hG hM hla
 go_enter Tryz.func63, Tryz.ntmps63
 go_wp2_with (first | (go_at_call 96; refine HO.out.mono ?_; rintro e w2 ⟨v, rfl, hv, hb2⟩; have HV := qh hv; clear hv) | (go_at_call 113; refine (HP.out _ _ (HT.out.below hb2) HV.out).mono ?_; rintro e w3 ⟨rfl, hT, hF⟩))
 go_ret
 exact ⟨rfl, hT, (Frm.ofBelow hb2).trans hF⟩
theorem unlink9_calls (p B : Nat) (L : List RN) (last : Int) (s : ByteArray) (w : World) (h : TreeB w p B (trOf L last)) (hG : GoodL L last) (hM : GoodM L) (hla : last < 1000000) :
  Calls Tryz.prog 65 #[pT p, .string s] w (Left p B w (cutP L last s false)) := by
 have HP := qh (cutU_calls p B L last s w h hG hM hla)
 generalize cutP L last s false = o at *
 clear h hG hM hla
 go_enter Tryz.func65, Tryz.ntmps65
 go_wp2_with (go_at_call 113; refine HP.out.mono ?_; rintro e w3 ⟨rfl, hT, hF⟩)
 go_ret
 exact ⟨rfl, hT, hF⟩
theorem findV_wf {L : List RN} {last : Int} (hG : GoodL L last) (hM : GoodM L) (hla : last ≤ 1000000) (lst : Bool) (s : ByteArray) : wf (findV L last lst s).1 := by
 obtain ⟨k, hk⟩ := findV_spec hG hM lst s
 exact find_wf hG hM hla hk
theorem write9_calls (p B : Nat) (L : List RN) (last : Int) (s data : ByteArray) (w : World) (h : TreeB w p B (trOf L last)) (hG : GoodL L last) (hM : GoodM L) (hla : last < 1000000) :
  Calls Tryz.prog 52 #[pT p, .string s, .string data] w (Left p B w (wrP L last s data)) := by
 have hO := trOK hG (by omega)
 obtain ⟨k1, hk1⟩ := findV_spec hG hM true s
 have hwF := findV_wf hG hM (by omega) true s
 obtain ⟨k, hk⟩ := spotV_spec hG hM s
 obtain ⟨hw, hz⟩ := spotF_wf hO hk
 have HS := qh (fun W h => pstat_calls p (trOf L last) s k1 _ W h hO hwF hk1)
 have HST : Hid (stT (trOf L last) (findV L last true s) = if (findV L last true s).2 = 0 then ((findV L last true s).1, ((trOf L last).node (findV L last true s).1).kind, sizeT (trOf L last) (findV L last true s).1) else (0, 0, 0)) := qh rfl
 have HP := qh (fun W h => spot_calls p (trOf L last) s k _ W h hO hk)
 have HL := qh (fun W h => list_calls p (trOf L last) (spotV L last s).1 W h hw (hO.small.node _))
 have HE := qh (fun A c W h hc => find_calls A c ((trOf L last).node (spotV L last s).1).ents (spotV L last s).2.1 W h hc (hO.small.node _) (node_rt hO _))
 rw [node_of hG (spotV L last s).1] at HE HL
 simp only [find_ents hG (spotV L last s).1 (spotV L last s).2.1] at HE
 simp only [] at HL
 have HU := qh (fun W h => tput_calls p B L last (spotV L last s).1 (spotV L last s).2.1 2 data W h hG hw (by omega) hla)
 have HSET := qh (fun W h => tset_calls p B L last (findV L last true s).1 data W h hG hM hwF)
 have hin := inR_le hG (spotV L last s).1 (spotV L last s).2.1
 have HT := qh h
 unfold wrP
 generalize hst : stT (trOf L last) (findV L last true s) = st at *
 generalize sizeT (trOf L last) (findV L last true s).1 = sz at *
 generalize (trOf L last).node (findV L last true s).1 = nd at *
 generalize setRE L (findV L last true s).1 data = se at *
 generalize hsl : setS L (findV L last true s).1 data = sl at *
 generalize putA L last (spotV L last s).1 (spotV L last s).2.1 2 data = pa at *
 generalize putRE L (spotV L last s).1 (spotV L last s).2.1 2 data = pe at *
 generalize hpl : putL L last (spotV L last s).1 (spotV L last s).2.1 2 data = pl at *
 generalize hpn : putN L last (spotV L last s).1 (spotV L last s).2.1 2 data = pn at *
 generalize inR L (spotV L last s).1 (spotV L last s).2.1 = n at *
 generalize entsOf L (spotV L last s).1 = es at *
 generalize spotV L last s = R at *
 generalize findV L last true s = F at *
 obtain ⟨d, z, e⟩ := R
 obtain ⟨fn, fe⟩ := F
 obtain ⟨s0, s1, s2⟩ := st
 obtain ⟨nk, nu, ndd, nes⟩ := nd
 simp only [] at *
 clear h hO hG hM hla hk hw hz hk1 hwF hst hsl hpl hpn
 have hu := Tryz.underlying143
 by_cases hfe : fe = 0
 ·
  subst hfe
  rw [if_pos rfl]
  have hst := HST.out
  rw [if_pos rfl] at hst
  have q0 : fn = s0 := (congrArg Prod.fst hst).symm
  have q1 : nk = s1 := (congrArg (fun x => x.2.1) hst).symm
  have q2 : sz = s2 := (congrArg (fun x => x.2.2) hst).symm
  subst q0 q1 q2
  clear hst HST hin HP HL HE HU
  go_enter Tryz.func52, Tryz.ntmps52
  go_wp2_with (first | (go_at_call 91; refine (HS.out _ HT.out.at_).mono ?_; rintro e w2 ⟨rfl, hb2⟩; have HB2 := qh (hb2.alloc hb2.size (.cells #[.int .i64 fn, .int .i64 nk, .int .i64 sz] 143)); have HT2 := qh (HT.out.below HB2.out); clear hb2) | (go_at_call 92; refine (HSET.out _ HT2.out).mono ?_; rintro e w6 ⟨rfl, hT6, hf6⟩))
  go_ret
  exact ⟨rfl, hT6, (Frm.ofBelow HB2.out).trans hf6⟩
 ·
  rw [if_neg hfe]
  have hst := HST.out
  rw [if_neg hfe] at hst
  cases hst
  have b1 : (fe == 0) = false := beq_eq_false_iff_ne.2 hfe
  clear HST HSET
  by_cases hf5 : fe = 5
  ·
   subst hf5
   rw [if_neg (by simp)]
   clear hfe
   by_cases he : e = 0
   ·
    subst he
    rw [if_neg (by simp)]
    by_cases hn : n = 0
    ·
     subst hn
     rw [if_neg (by simp)]
     rw [show decide ((0 : Int) < 0) = false from rfl] at HE
     clear hin
     go_enter Tryz.func52, Tryz.ntmps52
     go_wp2_with (first | (go_at_call 91; refine (HS.out _ HT.out.at_).mono ?_; rintro e w2 ⟨rfl, hb2⟩; have HB2 := qh (hb2.alloc hb2.size (.cells #[.int .i64 0, .int .i64 0, .int .i64 0] 143)); have HT2 := qh (HT.out.below HB2.out); clear hb2) | (go_at_call 93; refine (HP.out _ HT2.out.at_).mono ?_; rintro e w3 ⟨rfl, hb3⟩; have HB3 := qh (HB2.out.trans (hb3.mono HB2.out.size)); have HT3 := qh (HT.out.below HB3.out); clear hb3) | (go_at_call 74; refine (HL.out _ HT3.out.at_).mono ?_; rintro e w4 ⟨v, rfl, hv, hb4⟩; obtain ⟨A4, c4, rfl, hl4, hC4⟩ := Kd.R_reads hv; have HB4 := qh (HB3.out.trans (hb4.mono HB3.out.size)); have HC4 := qh hC4; clear hv hb4 hC4) | (go_at_call 94; refine (HE.out _ _ _ HC4.out hl4).mono ?_; rintro e w5 ⟨rfl, hb5⟩; have HB5 := qh (HB4.out.trans (hb5.mono HB4.out.size)); clear hb5) | (go_at_call 56; refine (HU.out _ (HT.out.below HB5.out)).mono ?_; rintro e w6 ⟨rfl, hT6, hf6⟩))
     go_ret
     exact ⟨rfl, hT6, (Frm.ofBelow HB5.out).trans hf6⟩
    ·
     rw [if_pos hn]
     rw [decide_eq_true (show 0 < n by omega)] at HE
     clear hin hn HU
     go_enter Tryz.func52, Tryz.ntmps52
     go_wp2_with (first | (go_at_call 91; refine (HS.out _ HT.out.at_).mono ?_; rintro e w2 ⟨rfl, hb2⟩; have HB2 := qh (hb2.alloc hb2.size (.cells #[.int .i64 0, .int .i64 0, .int .i64 0] 143)); have HT2 := qh (HT.out.below HB2.out); clear hb2) | (go_at_call 93; refine (HP.out _ HT2.out.at_).mono ?_; rintro e w3 ⟨rfl, hb3⟩; have HB3 := qh (HB2.out.trans (hb3.mono HB2.out.size)); have HT3 := qh (HT.out.below HB3.out); clear hb3) | (go_at_call 74; refine (HL.out _ HT3.out.at_).mono ?_; rintro e w4 ⟨v, rfl, hv, hb4⟩; obtain ⟨A4, c4, rfl, hl4, hC4⟩ := Kd.R_reads hv; have HB4 := qh (HB3.out.trans (hb4.mono HB3.out.size)); have HC4 := qh hC4; clear hv hb4 hC4) | (go_at_call 94; refine (HE.out _ _ _ HC4.out hl4).mono ?_; rintro e w5 ⟨rfl, hb5⟩; have HB5 := qh (HB4.out.trans (hb5.mono HB4.out.size)); clear hb5))
     go_ret
     exact left_err HT.out HB5.out
   ·
    rw [if_pos he]
    have b3 : (e != 0) = true := bne_iff_ne.2 he
    clear he hin HL HE HU
    go_enter Tryz.func52, Tryz.ntmps52
    go_wp2_with (first | (go_at_call 91; refine (HS.out _ HT.out.at_).mono ?_; rintro e w2 ⟨rfl, hb2⟩; have HB2 := qh (hb2.alloc hb2.size (.cells #[.int .i64 0, .int .i64 0, .int .i64 0] 143)); have HT2 := qh (HT.out.below HB2.out); clear hb2) | (go_at_call 93; refine (HP.out _ HT2.out.at_).mono ?_; rintro e w3 ⟨rfl, hb3⟩; have HB3 := qh (HB2.out.trans (hb3.mono HB2.out.size)); have HT3 := qh (HT.out.below HB3.out); clear hb3))
    go_ret
    exact left_err HT.out HB3.out
  ·
   rw [if_pos hf5]
   have b2 : (fe != 5) = true := bne_iff_ne.2 hf5
   clear hfe hf5 hin HP HL HE HU
   go_enter Tryz.func52, Tryz.ntmps52
   go_wp2_with (go_at_call 91; refine (HS.out _ HT.out.at_).mono ?_; rintro e w2 ⟨rfl, hb2⟩; have HB2 := qh (hb2.alloc hb2.size (.cells #[.int .i64 0, .int .i64 0, .int .i64 0] 143)); have HT2 := qh (HT.out.below HB2.out); clear hb2)
   go_ret
   exact left_err HT.out HB2.out
theorem rdN_get {l : List RN} {i : Nat} (h : i < l.length) : rd_T106 l (i : Int) = l[i] := by
 simp [rd_T106, h]
theorem three_blocks (w : World) (o1 o2 o3 : Obj) : (((w.alloc o1).alloc o2).alloc o3).heap[w.heap.size]? = some o1 ∧ (((w.alloc o1).alloc o2).alloc o3).heap[w.heap.size + 1]? = some o2 ∧ (((w.alloc o1).alloc o2).alloc o3).heap[w.heap.size + 1 + 1]? = some o3 ∧ Below w.heap.size w (((w.alloc o1).alloc o2).alloc o3) ∧ (((w.alloc o1).alloc o2).alloc o3).heap.size = w.heap.size + 3 := by
 have s1 : (w.alloc o1).heap.size = w.heap.size + 1 := Array.size_push _
 have s2 : ((w.alloc o1).alloc o2).heap.size = w.heap.size + 1 + 1 := by rw [← s1]; exact Array.size_push _
 have s3 : (((w.alloc o1).alloc o2).alloc o3).heap.size = w.heap.size + 3 := by rw [show w.heap.size + 3 = w.heap.size + 1 + 1 + 1 from rfl, ← s2]; exact Array.size_push _
 refine ⟨?_, ?_, ?_, ?_, s3⟩
 · rw [heap_alloc_old _ _ _ (by omega), heap_alloc_old _ _ _ (by omega), heap_alloc_new]
 · rw [heap_alloc_old _ _ _ (by omega), ← s1, heap_alloc_new]
 · rw [← s2, heap_alloc_new]
 · exact (((Below.refl _ w).alloc (Nat.le_refl _) _).alloc (by omega) _).alloc (by omega) _
def withI (L : List RN) (x : RN) (i : Nat) : List RN := withL (L.take i) x ++ L.drop i
theorem withI_zero (L : List RN) (x : RN) : withI L x 0 = L := by simp [withI, withL]
theorem withI_end (L : List RN) (x : RN) : withI L x L.length = withL L x := by simp [withI]
theorem withI_len (L : List RN) (x : RN) (i : Nat) : (withI L x i).length = L.length := by
 unfold withI
 rw [List.length_append, withL_len, List.length_take, List.length_drop]
 omega
theorem withI_at (L : List RN) (x : RN) {i : Nat} (h : i < L.length) : (withI L x i).getD i z106 = L[i] := by
 unfold withI
 have hl : (withL (L.take i) x).length = i := by rw [withL_len, List.length_take]; omega
 rw [List.getD_eq_getElem?_getD, List.getElem?_append_right (by omega), hl, Nat.sub_self, List.getElem?_drop, Nat.add_zero, List.getElem?_eq_getElem h]
 rfl
theorem withI_yes (L : List RN) (x : RN) {i : Nat} (h : i < L.length) (he : L[i].f0 = x.f0) : withI L x (i + 1) = (withI L x i).set i x := by
 unfold withI
 have hl : (withL (L.take i) x).length = i := by rw [withL_len, List.length_take]; omega
 rw [List.set_append_right _ _ (by omega), hl, Nat.sub_self, List.drop_eq_getElem_cons h, List.set_cons_zero, List.take_succ_eq_append_getElem h, show withL (L.take i ++ [L[i]]) x = withL (L.take i) x ++ [x] by simp only [withL, List.map_append, List.map_cons, List.map_nil, if_pos he], List.append_assoc]
 rfl
theorem withI_no (L : List RN) (x : RN) {i : Nat} (h : i < L.length) (he : L[i].f0 ≠ x.f0) : withI L x (i + 1) = withI L x i := by
 unfold withI
 rw [List.drop_eq_getElem_cons h, List.take_succ_eq_append_getElem h, show withL (L.take i ++ [L[i]]) x = withL (L.take i) x ++ [L[i]] by simp only [withL, List.map_append, List.map_cons, List.map_nil, if_neg he], List.append_assoc]
 rfl
theorem meas_one {n i : Nat} (h : i < n) : n - (intOf (.int .i64 ((i : Int) + 1))).toNat < n - (intOf (.int .i64 (i : Int))).toNat := by
 simp only [intOf]
 omega
theorem res_cells {W : World} {r : Nat} {a0 a1 : Value} (v0 v1 : Value) (h : W.heap[r]? = some (.cells #[a0, a1] 30 (0, 0))) :
  ((W.setCell ⟨r, 0, none⟩ v0).setCell ⟨r, 1, none⟩ v1).cell? ⟨r, 0, none⟩ = some v0 ∧ ((W.setCell ⟨r, 0, none⟩ v0).setCell ⟨r, 1, none⟩ v1).cell? ⟨r, 1, none⟩ = some v1 := by
 have e1 := setCell_eq_setRow W r 0 _ _ _ v0 h
 have k1 : (W.setCell ⟨r, 0, none⟩ v0).heap[r]? = some (.cells #[v0, a1] 30 (0, 0)) := by rw [e1, setRow_heap W _ _ _ _ _ h]; rfl
 have e2 := setCell_eq_setRow _ r 1 _ _ _ v1 k1
 have k2 : ((W.setCell ⟨r, 0, none⟩ v0).setCell ⟨r, 1, none⟩ v1).heap[r]? = some (.cells #[v0, v1] 30 (0, 0)) := by rw [e2, setRow_heap _ _ _ _ _ _ k1]; rfl
 exact ⟨by rw [blk_cell k2]; rfl, by rw [blk_cell k2]; rfl⟩
theorem meas_big {n i : Nat} (h : i < n) (hn : n ≤ 1000000) : n - (intOf (.int .i64 (wrap64 ((i : Int) + 1)))).toNat < n - (intOf (.int .i64 (i : Int))).toNat := by
 rw [w1 (by omega)]
 simp only [intOf]
 omega
theorem rn_elem {w : World} {B g n cap : Nat} {M : List RN} {i : Nat} {y : RN} (hO : Kd.R k106 106 w B (fun _ => True) (.slice (some ⟨g, 0, none⟩) n cap) M) (hi : i < n) (hy : M.getD i z106 = y) :
  w.cell? ⟨g, i * 5, none⟩ = some (.int .i64 y.f0) ∧ (w.frozen? ⟨g, i * 5, none⟩ = false ∧ w.frozen? ⟨g, i * 5 + 1, none⟩ = false ∧ w.frozen? ⟨g, i * 5 + 2, none⟩ = false ∧ w.frozen? ⟨g, i * 5 + 3, none⟩ = false ∧ w.frozen? ⟨g, i * 5 + 4, none⟩ = false)
   ∧ (w.cell? ⟨g, i * 5 + 1, none⟩ = some (.int .i64 y.f1) ∧ w.cell? ⟨g, i * 5 + 2, none⟩ = some (.string y.f2) ∧ w.cell? ⟨g, i * 5 + 3, none⟩ = some (.int .i64 y.f3) ∧ w.cell? ⟨g, i * 5 + 4, none⟩ = some (.string y.f4)) := by
 obtain ⟨ce, hcl, hM, hcc, hfr⟩ := Kd.R_elem hO z106 (i : Int) (by omega) (by omega)
 rw [Int.toNat_natCast, hy] at hM
 obtain rfl := k106_openM hM
 rw [Int.toNat_natCast] at hcc hfr
 exact ⟨hcc 0 _ rfl, ⟨hfr 0, hfr 1, hfr 2, hfr 3, hfr 4⟩, hcc 1 _ rfl, hcc 2 _ rfl, hcc 3 _ rfl, hcc 4 _ rfl⟩
theorem rn_set {w : World} {B g n cap : Nat} {M : List RN} {i : Nat} (hO : Kd.R k106 106 w B (fun _ => True) (.slice (some ⟨g, 0, none⟩) n cap) M) (hi : i < n) (x : RN) :
  Kd.R k106 106 (((((w.setCell ⟨g, i * 5, none⟩ (.int .i64 x.f0)).setCell ⟨g, i * 5 + 1, none⟩ (.int .i64 x.f1)).setCell ⟨g, i * 5 + 2, none⟩ (.string x.f2)).setCell ⟨g, i * 5 + 3, none⟩ (.int .i64 x.f3)).setCell ⟨g, i * 5 + 4, none⟩ (.string x.f4)) B (fun _ => True) (.slice (some ⟨g, 0, none⟩) n cap) (M.set i x) := by
 obtain ⟨ce, hcl, hM, hcc, hfr⟩ := Kd.R_elem hO z106 (i : Int) (by omega) (by omega)
 obtain rfl := k106_openM hM
 exact (Kd.R_seg hO (i : Int) (by omega) (by omega) (seg := [.int .i64 x.f0, .int .i64 x.f1, .string x.f2, .int .i64 x.f3, .string x.f4]) (j := 0) hcl hcc (show 5 ≤ 5 from by decide) (x' := x) (k106_mkM _ _ _ x) (fun _ hk => hk)).1
theorem rwith_own (L : List RN) (last : Int) (v : Value) (x : RN) (w : World) (h : RAt w v L last) (hl : L.length ≤ 1000000) :
  Calls Tryz.prog 145 #[v, .agg #[.int .i64 x.f0, .int .i64 x.f1, .string x.f2, .int .i64 x.f3, .string x.f4]] w fun e w' => ∃ A9 c9, e = .returned (.agg #[.slice A9 L.length c9, .int .i64 last]) ∧ Below w.heap.size w w' ∧ ∃ B9, w.heap.size < B9 ∧ Kd.R k106 106 w' B9 (fun _ => True) (.slice A9 L.length c9) (withL L x) := by
 obtain ⟨A, c, rfl, hle, hC⟩ := h
 have hu30 := Tryz.underlying30
 have hu106 := Tryz.underlying106
 obtain ⟨k1, k2, k3, k4, k5⟩ := three_blocks w (.cells #[.slice A L.length c, .int .i64 last] 30) (.cells #[.int .i64 x.f0, .int .i64 x.f1, .string x.f2, .int .i64 x.f3, .string x.f4] 106) (.cells #[.slice none 0 0, .int .i64 0] 30)
 have HC := qh (Kd.C_below hC k4)
 have HK := qh (And.intro k1 (And.intro k2 (And.intro k3 (And.intro k4 k5))))
 have HL := qh hl
 clear hC k1 k2 k3 k4 k5
 go_enter Tryz.func145, Tryz.ntmps145
 go_upto_region 1 with (fail)
 generalize ((w.alloc (.cells #[.slice A L.length c, .int .i64 last] 30)).alloc (.cells #[.int .i64 x.f0, .int .i64 x.f1, .string x.f2, .int .i64 x.f3, .string x.f4] 106)).alloc (.cells #[.slice none 0 0, .int .i64 0] 30) = w3 at HC HK ⊢
 have H1 := qh HK.out.1
 have H2 := qh HK.out.2.1
 have H3 := qh HK.out.2.2.1
 have HB3 := qh HK.out.2.2.2.1
 have hs3 := HK.out.2.2.2.2
 have HG := qh (show w.heap.size + 2 < w3.heap.size by omega)
 clear hs3 HK
 generalize hb0 : w.heap.size = b at *
 have HW0 := qh hb0
 clear hb0
 have HX := qh (fun (W : World) (hb : Below w3.heap.size w3 W) => show (W.cell? ⟨b, 0, none⟩ = some (.slice A L.length c) ∧ W.cell? ⟨b, 1, none⟩ = some (.int .i64 last)) ∧ (W.cell? ⟨b + 1, 0, none⟩ = some (.int .i64 x.f0) ∧ W.cell? ⟨b + 1, 1, none⟩ = some (.int .i64 x.f1) ∧ W.cell? ⟨b + 1, 2, none⟩ = some (.string x.f2) ∧ W.cell? ⟨b + 1, 3, none⟩ = some (.int .i64 x.f3) ∧ W.cell? ⟨b + 1, 4, none⟩ = some (.string x.f4)) ∧ (W.frozen? ⟨b + 1 + 1, 0, none⟩ = false ∧ W.frozen? ⟨b + 1 + 1, 1, none⟩ = false) by
  have e1 := (hb.block _ (blk_lt H1.out)).trans H1.out
  have e2 := (hb.block _ (blk_lt H2.out)).trans H2.out
  have e3 := (hb.block _ (blk_lt H3.out)).trans H3.out
  exact ⟨⟨by rw [blk_cell e1]; rfl, by rw [blk_cell e1]; rfl⟩, ⟨by rw [blk_cell e2]; rfl, by rw [blk_cell e2]; rfl, by rw [blk_cell e2]; rfl, by rw [blk_cell e2]; rfl, by rw [blk_cell e2]; rfl⟩, blk_frozen e3 0, blk_frozen e3 1⟩)
 obtain ⟨⟨y0, y1⟩, -, -⟩ := HX.out _ (Below.refl _ _)
 go_upto_region 2 with (((with_reducible refine gate_builtin (b := .append) (xs := #[.const (.slice none 0 0), .tmp 8]) rfl ?_); at_builtin; refine Kd.R_append_rows k106 (w0 := w3) w3.heap.size rfl (.const (.slice none 0 0)) (.tmp 8) 28 106 (.agg #[(.int .i64 0), (.int .i64 0), (.string ⟨#[]⟩), (.int .i64 0), (.string ⟨#[]⟩)]) 56 rfl Tryz.underlying28 info106 rfl (by decide) (by omega) (.slice none 0 0) ([] : List RN) L A L.length c (fun _ => True) (fun _ => False) rfl rfl (Kd.R_nil _ _ _ _ _) HC.out (fun _ _ h => by obtain rfl := k106_open h; exact k106_mkM _ _ _ _) (fun _ h => h.elim) (fun _ _ => trivial) (Below.refl _ _) (Nat.le_refl _) (by have := HL.out; simp; omega) ?_; intro v5 w5 ho5 hb5 hg5 hat5; have HO5 := qh (show Kd.R k106 106 w5 w3.heap.size (fun _ => True) v5 L from ho5); have HB5 := qh hb5; clear ho5 hb5 hg5 hat5))
 obtain ⟨A5, c5, rfl, hl5, -⟩ := Kd.R_reads HO5.out
 clear y0 y1
 go_wp2
 go_loopw [6] (fun v6 wr => ∃ i : Nat, v6 = .int .i64 (i : Int) ∧ i ≤ L.length ∧ Kd.R k106 106 wr w3.heap.size (fun _ => True) (.slice A5 L.length c5) (withI L x i) ∧ Below w3.heap.size w3 wr) (fun v _ => L.length - (intOf v).toNat)
 case atStart => exact ⟨0, rfl, Nat.zero_le _, by rw [withI_zero]; exact HO5.out, HB5.out⟩
 case round =>
  obtain ⟨i, rfl, hi, hO, hB⟩ := hrel
  have HO := qh hO
  have HB := qh hB
  by_cases h : i < L.length
  ·
   obtain ⟨g, cap, eg, hgb, hgl, -⟩ := Kd.R_form hO (by rw [withI_len]; omega)
   injection eg with ea en ec
   subst ea ec
   clear en
   obtain ⟨x0, -, -⟩ := rn_elem hO h (withI_at L x h)
   obtain ⟨-, ⟨z0, z1, z2, z3, z4⟩, -⟩ := HX.out _ hB
   have HGB := qh hgb
   have hlt : (i : Int) < (L.length : Int) := by omega
   by_cases he : L[i].f0 = x.f0
   ·
    have HI := qh (withI_yes L x h he)
    have b1 : (L[i].f0 == x.f0) = true := beq_iff_eq.2 he
    have HWA := qh (withI_at L x h)
    clear he hO hB hgb hgl
    go_upto_region 5 with (fail)
    go_quiet (fail)
    have HO9 := qh (Kd.R_drewN HO.out nq)
    have HB9 := qh (pw_below_drewN HB.out nq)
    generalize wr.drewN nq = w9 at HO9 HB9 ⊢
    clear x0 z0 z1 z2 z3 z4
    obtain ⟨q0, ⟨f0, f1, f2, f3, f4⟩, q1, q2, q3, q4⟩ := rn_elem HO9.out h HWA.out
    obtain ⟨-, ⟨z0, z1, z2, z3, z4⟩, -⟩ := HX.out _ HB9.out
    have HR := qh (rn_set HO9.out h x)
    go_wp2
    exact ⟨⟨i + 1, by go_num, h, by rw [HI.out]; exact HR.out, ((((HB9.out.setCell HGB.out _).setCell HGB.out _).setCell HGB.out _).setCell HGB.out _).setCell HGB.out _⟩, meas_one h⟩
   ·
    have HI := qh (withI_no L x h he)
    have b1 : (L[i].f0 == x.f0) = false := beq_eq_false_iff_ne.2 he
    clear he hO hB hgb hgl
    go_upto_region 5 with (fail)
    go_quiet (fail)
    have HO9 := qh (Kd.R_drewN HO.out nq)
    have HB9 := qh (pw_below_drewN HB.out nq)
    generalize wr.drewN nq = w9 at HO9 HB9 ⊢
    clear x0 z0 z1 z2 z3 z4
    go_wp2
    go_roundw
    case rel => exact ⟨i + 1, by go_num, h, by rw [HI.out]; exact HO9.out, HB9.out⟩
    case measure => exact meas_one h
  ·
   obtain rfl : i = L.length := by omega
   rw [withI_end] at hO
   have h' : ¬ ((L.length : Int) < (L.length : Int)) := by omega
   obtain ⟨⟨y0, y1⟩, -, u0, u1⟩ := HX.out _ hB
   have HR := qh hO
   have hg := HG.out
   have HB9 := qh (((HB3.out.trans (hB.mono (by omega))).setCell (p := ⟨b + 1 + 1, 0, none⟩) (show b ≤ b + 1 + 1 by omega) (.slice A5 L.length c5)).setCell (p := ⟨b + 1 + 1, 1, none⟩) (show b ≤ b + 1 + 1 by omega) (.int .i64 last))
   have e3 := (hB.block _ (blk_lt H3.out)).trans H3.out
   have p0 : wr.cell? ⟨b + 1 + 1, 0, none⟩ = some (.slice none 0 0) := by rw [blk_cell e3]; rfl
   have p1 : wr.cell? ⟨b + 1 + 1, 1, none⟩ = some (.int .i64 0) := by rw [blk_cell e3]; rfl
   have HT := qh (res_cells (.slice A5 L.length c5) (.int .i64 last) e3)
   clear e3
   have HRR := qh <| rfar2 (u := .slice A5 L.length c5) (u' := .int .i64 last) HR.out (show b + 1 + 1 < w3.heap.size by omega)
   clear hB hO h hg
   go_wp2
   obtain ⟨t0, t1⟩ := HT.out
   have hB9 := HB9.out
   have hR9 := HRR.out
   generalize (wr.setCell ⟨b + 1 + 1, 0, none⟩ (.slice A5 L.length c5)).setCell ⟨b + 1 + 1, 1, none⟩ (.int .i64 last) = w9 at t0 t1 hB9 hR9 ⊢
   refine bodyPost_ret (v := .agg #[.slice A5 L.length c5, .int .i64 last]) (by simp [results, Tryz.results145, go_sem, t0, t1, hu30]) rfl ⟨A5, c5, rfl, by rw [HW0.out]; exact hB9, w3.heap.size, by rw [HW0.out]; have := HG.out; omega, hR9⟩
theorem two_blocks (w : World) (o1 o2 : Obj) : ((w.alloc o1).alloc o2).heap[w.heap.size]? = some o1 ∧ ((w.alloc o1).alloc o2).heap[w.heap.size + 1]? = some o2 ∧ Below w.heap.size w ((w.alloc o1).alloc o2) := by
 have s1 : (w.alloc o1).heap.size = w.heap.size + 1 := Array.size_push _
 refine ⟨?_, ?_, ?_⟩
 · rw [heap_alloc_old _ _ _ (by omega), heap_alloc_new]
 · rw [← s1, heap_alloc_new]
 · exact ((Below.refl _ w).alloc (Nat.le_refl _) _).alloc (by omega) _
theorem two_boxes {w2 : World} {b n c : Nat} {A : Option Addr} {last : Int} (h1 : w2.heap[b]? = some (.cells #[.slice A n c, .int .i64 last] 30 (0, 0))) (h2 : w2.heap[b + 1]? = some (.cells #[.slice none 0 0, .int .i64 0] 30 (0, 0))) (W : World) (hb : Below w2.heap.size w2 W) :
  (W.cell? ⟨b, 0, none⟩ = some (.slice A n c) ∧ W.cell? ⟨b, 1, none⟩ = some (.int .i64 last)) ∧ (W.cell? ⟨b + 1, 0, none⟩ = some (.slice none 0 0) ∧ W.cell? ⟨b + 1, 1, none⟩ = some (.int .i64 0)) ∧ (W.frozen? ⟨b + 1, 0, none⟩ = false ∧ W.frozen? ⟨b + 1, 1, none⟩ = false) := by
 have e1 := (hb.block _ (blk_lt h1)).trans h1
 have e2 := (hb.block _ (blk_lt h2)).trans h2
 exact ⟨⟨by rw [blk_cell e1]; rfl, by rw [blk_cell e1]; rfl⟩, ⟨by rw [blk_cell e2]; rfl, by rw [blk_cell e2]; rfl⟩, blk_frozen e2 0, blk_frozen e2 1⟩
theorem fin4 {w w2 W : World} {r : Nat} (v0 v1 : Value) (h : w2.heap[r]? = some (.cells #[.slice none 0 0, .int .i64 0] 30 (0, 0))) (hb : Below w.heap.size w w2) (hB : Below w2.heap.size w2 W) (hr : w.heap.size ≤ r) :
  (((W.setCell ⟨r, 0, none⟩ v0).setCell ⟨r, 1, none⟩ v1).cell? ⟨r, 0, none⟩ = some v0 ∧ ((W.setCell ⟨r, 0, none⟩ v0).setCell ⟨r, 1, none⟩ v1).cell? ⟨r, 1, none⟩ = some v1) ∧ Below w.heap.size w ((W.setCell ⟨r, 0, none⟩ v0).setCell ⟨r, 1, none⟩ v1) ∧ But W ((W.setCell ⟨r, 0, none⟩ v0).setCell ⟨r, 1, none⟩ v1) r := by
 have e3 := (hB.block _ (blk_lt h)).trans h
 exact ⟨res_cells v0 v1 e3, ((hb.trans (hB.mono hb.size)).setCell (p := ⟨r, 0, none⟩) hr v0).setCell (p := ⟨r, 1, none⟩) hr v1, but_two e3 (by simp) (by simp)⟩
theorem fin3 {w w2 W : World} {b : Nat} (v0 v1 : Value) (h : w2.heap[b + 1]? = some (.cells #[.slice none 0 0, .int .i64 0] 30 (0, 0))) (hb : Below w.heap.size w w2) (hB : Below w2.heap.size w2 W) (hw : w.heap.size = b) :
  (((W.setCell ⟨b + 1, 0, none⟩ v0).setCell ⟨b + 1, 1, none⟩ v1).cell? ⟨b + 1, 0, none⟩ = some v0 ∧ ((W.setCell ⟨b + 1, 0, none⟩ v0).setCell ⟨b + 1, 1, none⟩ v1).cell? ⟨b + 1, 1, none⟩ = some v1) ∧ Below w.heap.size w ((W.setCell ⟨b + 1, 0, none⟩ v0).setCell ⟨b + 1, 1, none⟩ v1) ∧ But W ((W.setCell ⟨b + 1, 0, none⟩ v0).setCell ⟨b + 1, 1, none⟩ v1) (b + 1) :=
 fin4 v0 v1 h hb hB (by rw [hw]; exact Nat.le_succ b)
theorem c_later {w w2 : World} {A : Option Addr} {L : List RN} (hC : Kd.C k106 w A L.length L) (h : Below w.heap.size w w2) (W : World) (hb : Below w2.heap.size w2 W) : Kd.C k106 W A L.length L := Kd.C_below hC (h.trans (hb.mono h.size))
theorem r_later {w2 : World} {A : Option Addr} {c : Nat} {L : List RN} {last : Int} (hle : L.length ≤ c) (h : ∀ W : World, Below w2.heap.size w2 W → Kd.C k106 W A L.length L) (W : World) (hb : Below w2.heap.size w2 W) : RAt W (.agg #[.slice A L.length c, .int .i64 last]) L last := ⟨A, c, rfl, hle, h W hb⟩
theorem rset_calls (L : List RN) (last : Int) (v : Value) (n : Int) (data : ByteArray) (w : World) (h : RAt w v L last) (hl : L.length ≤ 1000000) :
  Calls Tryz.prog 111 #[v, .int .i64 n, .string data] w fun e w' => ∃ v', e = .returned (.tuple #[v', .int .i64 (setRE L n data)]) ∧ RAt w' v' (setS L n data) last ∧ Below w.heap.size w w' := by
 obtain ⟨A, c, rfl, hle, hC⟩ := h
 have hu30 := Tryz.underlying30
 have hu106 := Tryz.underlying106
 obtain ⟨ka, hka⟩ := (r07_at L n last (by omega)).rounds
 have HAT := qh (fun W h => linhayref07_At.calls ka A c L last n _ _ _ _ _ W h hle hka)
 have HM := qh (fun W => linhayref07_may.calls 5 (atR L n).f3 data (mayE (atR L n).f3 data) W (r07_may (atR L n).f3 data))
 have HWI := qh (fun W h => rwith_own L last (.agg #[.slice A L.length c, .int .i64 last]) (setX L n data) W h hl)
 obtain ⟨k1, k2, k3⟩ := two_blocks w (.cells #[.slice A L.length c, .int .i64 last] 30) (.cells #[.slice none 0 0, .int .i64 0] 30)
 have HK := qh (And.intro k1 (And.intro k2 k3))
 have HC := qh hC
 unfold setX at HWI
 simp only [] at HWI
 have HS : Hid ((setRE L n data = 0 → setS L n data = withL L (setX L n data)) ∧ (setRE L n data ≠ 0 → setS L n data = L)) := qh ⟨fun e => if_pos e, fun e => if_neg e⟩
 have HRE : Hid (setRE L n data = if (atR L n).f3 = 0 then 5 else if (atR L n).f3 = 1 then 8 else mayE (atR L n).f3 data) := qh rfl
 unfold setX at HS
 generalize setS L n data = SS at *
 generalize setRE L n data = re at *
 generalize mayE (atR L n).f3 data = me at *
 generalize atR L n = q at *
 obtain ⟨q0, q1, q2, q3, q4⟩ := q
 simp only [] at HAT HM HWI HS HRE ⊢
 clear hC k1 k2 k3 hka
 go_enter Tryz.func111, Tryz.ntmps111
 go_upto_region 1 with (fail)
 generalize (w.alloc (.cells #[.slice A L.length c, .int .i64 last] 30)).alloc (.cells #[.slice none 0 0, .int .i64 0] 30) = w2 at HK ⊢
 have HR1 := qh HK.out.1
 have HR2 := qh HK.out.2.1
 have HB2 := qh HK.out.2.2
 clear HK
 generalize hb0 : w.heap.size = b at HR1 HR2 ⊢
 have HW0 := qh hb0
 clear hb0
 have HX := qh (two_boxes HR1.out HR2.out)
 have HCT := qh (c_later HC.out HB2.out)
 obtain ⟨⟨x0, x1⟩, -, -⟩ := HX.out _ (Below.refl _ _)
 go_upto_region 2 with (go_at_call 68; refine (HAT.out _ (HCT.out _ (Below.refl _ _))).mono ?_; rintro e w3 ⟨rfl, hb3⟩; have HB3 := qh hb3; clear hb3 x0 x1)
 have HB4 := qh (HB3.out.alloc HB3.out.size (.cells #[.int .i64 q0, .int .i64 q1, .string q2, .int .i64 q3, .string q4] 106))
 have H4 := qh (heap_alloc_new w3 (.cells #[.int .i64 q0, .int .i64 q1, .string q2, .int .i64 q3, .string q4] 106))
 generalize w3.alloc (.cells #[.int .i64 q0, .int .i64 q1, .string q2, .int .i64 q3, .string q4] 106) = w4 at HB4 H4 ⊢
 have HG4 := qh HB3.out.size
 generalize w3.heap.size = g4 at H4 HG4 ⊢
 have y3 : w4.cell? ⟨g4, 3, none⟩ = some (.int .i64 q3) := by rw [blk_cell H4.out]; rfl
 obtain ⟨⟨x0, x1⟩, ⟨r0, r1⟩, f0, f1⟩ := HX.out _ HB4.out
 by_cases e0 : q3 = 0
 ·
  subst e0
  have hre : re = 5 := by rw [HRE.out, if_pos rfl]
  have hSS := HS.out.2 (by rw [hre]; decide)
  have HRS := qh (And.intro hre hSS)
  clear hre hSS HS HRE HM HWI HAT
  go_wp2
  obtain ⟨hre, hSS⟩ := HRS.out
  obtain ⟨hT, hB9, -⟩ := fin3 (.slice A L.length c) (.int .i64 last) HR2.out HB2.out HB4.out HW0.out
  generalize (w4.setCell ⟨b + 1, 0, none⟩ (.slice A L.length c)).setCell ⟨b + 1, 1, none⟩ (.int .i64 last) = w9 at hT hB9 ⊢
  obtain ⟨t0, t1⟩ := hT
  refine bodyPost_ret (v := .tuple #[.agg #[.slice A L.length c, .int .i64 last], .int .i64 5]) (by simp [results, Tryz.results111, go_sem, t0, t1, hu30]) rfl ⟨.agg #[.slice A L.length c, .int .i64 last], by rw [hre], by rw [hSS]; exact ⟨A, c, rfl, hle, Kd.C_below HC.out hB9⟩, hB9⟩
 ·
  have b0 : (q3 == 0) = false := beq_eq_false_iff_ne.2 e0
  by_cases e1 : q3 = 1
  ·
   subst e1
   have hre : re = 8 := by rw [HRE.out, if_neg (by decide), if_pos rfl]
   have hSS := HS.out.2 (by rw [hre]; decide)
   have HRS := qh (And.intro hre hSS)
   clear hre hSS HS HRE HM HWI HAT
   go_wp2
   obtain ⟨hre, hSS⟩ := HRS.out
   obtain ⟨hT, hB9, -⟩ := fin3 (.slice A L.length c) (.int .i64 last) HR2.out HB2.out HB4.out HW0.out
   generalize (w4.setCell ⟨b + 1, 0, none⟩ (.slice A L.length c)).setCell ⟨b + 1, 1, none⟩ (.int .i64 last) = w9 at hT hB9 ⊢
   obtain ⟨t0, t1⟩ := hT
   refine bodyPost_ret (v := .tuple #[.agg #[.slice A L.length c, .int .i64 last], .int .i64 8]) (by simp [results, Tryz.results111, go_sem, t0, t1, hu30]) rfl ⟨.agg #[.slice A L.length c, .int .i64 last], by rw [hre], by rw [hSS]; exact ⟨A, c, rfl, hle, Kd.C_below HC.out hB9⟩, hB9⟩
  ·
   have b1 : (q3 == 1) = false := beq_eq_false_iff_ne.2 e1
   by_cases e2 : me = 0
   ·
    subst e2
    have hre : re = 0 := by rw [HRE.out, if_neg e0, if_neg e1]
    have hSS := HS.out.1 hre
    have HRS := qh (And.intro hre hSS)
    clear hre hSS HS HRE HAT e0 e1
    go_upto_region 9 with (go_at_call 106; refine (HM.out _).mono ?_; rintro e w5 ⟨rfl, hd5⟩; have HB5 := qh (HB4.out.trans (hd5.below.mono HB4.out.size)); have H5 := qh ((hd5.below.block _ (blk_lt H4.out)).trans H4.out); clear hd5 x0 x1 r0 r1 f0 f1 y3; obtain ⟨⟨x0, x1⟩, ⟨r0, r1⟩, f0, f1⟩ := HX.out _ HB5.out)
    have y4 : w5.cell? ⟨g4, 4, none⟩ = some (.string q4) := by rw [blk_cell H5.out]; rfl
    have u4 := blk_frozen H5.out 4
    have HB6 := qh (HB5.out.setCell (p := ⟨g4, 4, none⟩) HG4.out (.string data))
    have H6 : Hid ((w5.setCell ⟨g4, 4, none⟩ (.string data)).heap[g4]? = some (.cells #[.int .i64 q0, .int .i64 q1, .string q2, .int .i64 q3, .string data] 106 (0, 0))) := qh (by
     rw [setCell_eq_setRow w5 g4 4 _ _ _ (.string data) H5.out, setRow_heap w5 _ _ _ _ _ H5.out]; rfl)
    go_upto_region 10 with (fail)
    generalize w5.setCell ⟨g4, 4, none⟩ (.string data) = w6 at HB6 H6 ⊢
    clear x0 x1 r0 r1 f0 f1 y4 u4
    obtain ⟨⟨x0, x1⟩, -, -⟩ := HX.out _ HB6.out
    have y0 : w6.cell? ⟨g4, 0, none⟩ = some (.int .i64 q0) := by rw [blk_cell H6.out]; rfl
    have y1 : w6.cell? ⟨g4, 1, none⟩ = some (.int .i64 q1) := by rw [blk_cell H6.out]; rfl
    have y2 : w6.cell? ⟨g4, 2, none⟩ = some (.string q2) := by rw [blk_cell H6.out]; rfl
    have y3 : w6.cell? ⟨g4, 3, none⟩ = some (.int .i64 q3) := by rw [blk_cell H6.out]; rfl
    have y4 : w6.cell? ⟨g4, 4, none⟩ = some (.string data) := by rw [blk_cell H6.out]; rfl
    go_wp2_with (go_at_call 145; refine (HWI.out _ ⟨A, c, rfl, hle, HCT.out _ HB6.out⟩).mono ?_; rintro e w7 ⟨A7, c7, rfl, hb7, B7, hB7, hR7⟩; have HB7 := qh (HB6.out.trans (hb7.mono HB6.out.size)); have HR7 := qh hR7; have HBB := qh (Nat.lt_of_le_of_lt HB6.out.size hB7); clear hR7 hB7 hb7 x0 x1; obtain ⟨⟨x0, x1⟩, ⟨r0, r1⟩, f0, f1⟩ := HX.out _ HB7.out)
    have hlt2 := blk_lt HR2.out
    have hRR := Kd.R_reads (rfar2 (u := .slice A7 L.length c7) (u' := .int .i64 last) HR7.out (show b + 1 < B7 by have := HBB.out; omega))
    obtain ⟨hre, hSS⟩ := HRS.out
    obtain ⟨hT, hB9, -⟩ := fin3 (.slice A7 L.length c7) (.int .i64 last) HR2.out HB2.out HB7.out HW0.out
    generalize (w7.setCell ⟨b + 1, 0, none⟩ (.slice A7 L.length c7)).setCell ⟨b + 1, 1, none⟩ (.int .i64 last) = w9 at hT hB9 hRR ⊢
    obtain ⟨t0, t1⟩ := hT
    refine bodyPost_ret (v := .tuple #[.agg #[.slice A7 L.length c7, .int .i64 last], .int .i64 0]) (by simp [results, Tryz.results111, go_sem, t0, t1, hu30]) rfl ⟨.agg #[.slice A7 L.length c7, .int .i64 last], by rw [hre], by rw [hSS]; exact (by obtain ⟨A9, c9, e9, h9, hC9⟩ := hRR; rw [withL_len] at e9; exact ⟨A9, c9, by rw [e9, withL_len], h9, hC9⟩), hB9⟩
   ·
    have hre : re = me := by rw [HRE.out, if_neg e0, if_neg e1]
    have hSS := HS.out.2 (by rw [hre]; exact e2)
    have b2 : (me != 0) = true := bne_iff_ne.2 e2
    have HRS := qh (And.intro hre hSS)
    clear hre hSS HS HRE HWI HAT e0 e1 e2
    go_wp2_with (go_at_call 106; refine (HM.out _).mono ?_; rintro e w5 ⟨rfl, hd5⟩; have HB5 := qh (HB4.out.trans (hd5.below.mono HB4.out.size)); clear hd5 x0 x1 r0 r1 f0 f1 y3; obtain ⟨⟨x0, x1⟩, ⟨r0, r1⟩, f0, f1⟩ := HX.out _ HB5.out)
    obtain ⟨hre, hSS⟩ := HRS.out
    obtain ⟨hT, hB9, -⟩ := fin3 (.slice A L.length c) (.int .i64 last) HR2.out HB2.out HB5.out HW0.out
    generalize (w5.setCell ⟨b + 1, 0, none⟩ (.slice A L.length c)).setCell ⟨b + 1, 1, none⟩ (.int .i64 last) = w9 at hT hB9 ⊢
    obtain ⟨t0, t1⟩ := hT
    refine bodyPost_ret (v := .tuple #[.agg #[.slice A L.length c, .int .i64 last], .int .i64 me]) (by simp [results, Tryz.results111, go_sem, t0, t1, hu30]) rfl ⟨.agg #[.slice A L.length c, .int .i64 last], by rw [hre], by rw [hSS]; exact ⟨A, c, rfl, hle, Kd.C_below HC.out hB9⟩, hB9⟩
theorem cutL_take (L : List RN) (n : Int) {i : Nat} (h : i < L.length) : cutL (L.take (i + 1)) n = if L[i].f0 = n then cutL (L.take i) n else cutL (L.take i) n ++ [L[i]] := by
 unfold cutL
 rw [List.take_succ_eq_append_getElem h, List.filter_append]
 by_cases e : L[i].f0 = n
 · simp [e]
 · simp [e]
def CutOwn (w w' : World) (v : Value) (L : List RN) (last : Int) : Prop := ∃ A9 c9 B9, v = .agg #[.slice A9 L.length c9, .int .i64 last] ∧ w.heap.size < B9 ∧ Kd.R k106 106 w' B9 (fun _ => True) (.slice A9 L.length c9) L
theorem rcut_calls (L : List RN) (last : Int) (v : Value) (d : Int) (s : ByteArray) (w : World) (h : RAt w v L last) (hG : GoodL L last) :
  Calls Tryz.prog 108 #[v, .int .i64 d, .string s] w fun e w' => ∃ v', e = .returned (.tuple #[v', .int .i64 (cutRE L d s)]) ∧ RAt w' v' (cutS L d s) last ∧ Below w.heap.size w w' ∧ (cutRE L d s = 0 → CutOwn w w' v' (cutL L (inR L d s)) last) := by
 obtain ⟨A, c, rfl, hle, hC⟩ := h
 have hl := hG.len
 have hu30 := Tryz.underlying30
 have hu106 := Tryz.underlying106
 obtain ⟨kd, hkd⟩ := (r07_dir L d last (by omega)).rounds
 obtain ⟨ki, hki⟩ := (r07_in L d last s (by omega)).rounds
 obtain ⟨kl, hkl⟩ := (list7_ev hG (inR L d s)).rounds
 have HD := qh (fun W h => linhayref07_dir.calls kd A c L last d _ W h hle hkd)
 have HI := qh (fun W h => linhayref07_In.calls ki A c L last d s _ W h hle hki)
 have HLI := qh (fun W h => linhayref07_List.calls kl A c L last (inR L d s) _ W h hle hkl)
 obtain ⟨k1, k2, k3⟩ := two_blocks w (.cells #[.slice A L.length c, .int .i64 last] 30) (.cells #[.slice none 0 0, .int .i64 0] 30)
 have HK := qh (And.intro k1 (And.intro k2 k3))
 have HC := qh hC
 have HS : Hid ((cutRE L d s = 0 → cutS L d s = cutL L (inR L d s)) ∧ (cutRE L d s ≠ 0 → cutS L d s = L)) := qh ⟨fun e => if_pos e, fun e => if_neg e⟩
 have HRE : Hid (cutRE L d s = if dirE (atR L d).f3 ≠ 0 then dirE (atR L d).f3 else if inR L d s = 0 then 5 else if 0 < (entsOf L (inR L d s)).length then 9 else 0) := qh rfl
 generalize cutS L d s = SS at *
 generalize cutRE L d s = re at *
 generalize dirE (atR L d).f3 = de at *
 generalize inR L d s = n at *
 generalize hes : entsOf L n = es at *
 clear hes hC k1 k2 k3 hkd hki hkl
 have HLL := qh hl
 clear hl
 go_enter Tryz.func108, Tryz.ntmps108
 go_upto_region 1 with (fail)
 generalize (w.alloc (.cells #[.slice A L.length c, .int .i64 last] 30)).alloc (.cells #[.slice none 0 0, .int .i64 0] 30) = w2 at HK ⊢
 have HR1 := qh HK.out.1
 have HR2 := qh HK.out.2.1
 have HB2 := qh HK.out.2.2
 clear HK
 generalize hb0 : w.heap.size = b at HR1 HR2 ⊢
 have HW0 := qh hb0
 clear hb0
 have HX := qh (two_boxes HR1.out HR2.out)
 have HCT := qh (c_later HC.out HB2.out)
 obtain ⟨⟨x0, x1⟩, -, -⟩ := HX.out _ (Below.refl _ _)
 go_upto_region 2 with (go_at_call 103; refine (HD.out _ (HCT.out _ (Below.refl _ _))).mono ?_; rintro e w3 ⟨rfl, hb3⟩; have HB3 := qh hb3; clear hb3 x0 x1)
 obtain ⟨⟨x0, x1⟩, ⟨r0, r1⟩, f0, f1⟩ := HX.out _ HB3.out
 by_cases e0 : de = 0
 ·
  subst e0
  go_upto_region 5 with (go_at_call 105; refine (HI.out _ (HCT.out _ HB3.out)).mono ?_; rintro e w4 ⟨rfl, hb4⟩; have HB4 := qh (HB3.out.trans (hb4.mono HB3.out.size)); clear hb4 x0 x1 r0 r1 f0 f1)
  obtain ⟨⟨x0, x1⟩, ⟨r0, r1⟩, f0, f1⟩ := HX.out _ HB4.out
  by_cases e1 : n = 0
  ·
   subst e1
   have hre : re = 5 := by rw [HRE.out, if_neg (by simp), if_pos rfl]
   have HNZ : Hid (re ≠ 0) := qh (by rw [hre]; decide)
   have hSS := HS.out.2 (by rw [hre]; decide)
   have HRS := qh (And.intro hre hSS)
   clear hre hSS HS HRE HD HI HLI
   go_wp2
   obtain ⟨hre, hSS⟩ := HRS.out
   obtain ⟨hT, hB9, -⟩ := fin3 (.slice A L.length c) (.int .i64 last) HR2.out HB2.out HB4.out HW0.out
   generalize (w4.setCell ⟨b + 1, 0, none⟩ (.slice A L.length c)).setCell ⟨b + 1, 1, none⟩ (.int .i64 last) = w9 at hT hB9 ⊢
   obtain ⟨t0, t1⟩ := hT
   refine bodyPost_ret (v := .tuple #[.agg #[.slice A L.length c, .int .i64 last], .int .i64 5]) (by simp [results, Tryz.results108, go_sem, t0, t1, hu30]) rfl ⟨.agg #[.slice A L.length c, .int .i64 last], by rw [hre], by rw [hSS]; exact ⟨A, c, rfl, hle, Kd.C_below HC.out hB9⟩, hB9, fun hz => absurd hz HNZ.out⟩
  ·
   have b1 : (n == 0) = false := beq_eq_false_iff_ne.2 e1
   by_cases e2 : 0 < es.length
   ·
    have hre : re = 9 := by rw [HRE.out, if_neg (by simp), if_neg e1, if_pos e2]
    have HNZ : Hid (re ≠ 0) := qh (by rw [hre]; decide)
    have hSS := HS.out.2 (by rw [hre]; decide)
    have HRS := qh (And.intro hre hSS)
    have d5 : (0 : Int) < (es.length : Int) := by omega
    clear hre hSS HS HRE HD HI e1 e2
    go_wp2_with (go_at_call 72; refine (HLI.out _ (HCT.out _ HB4.out)).mono ?_; rintro e w5 ⟨v5, rfl, ho5, hb5⟩; obtain ⟨A5, c5, rfl, -, -⟩ := Kd.R_reads ho5; have HB5 := qh (HB4.out.trans (hb5.mono HB4.out.size)); clear hb5 ho5 x0 x1 r0 r1 f0 f1; obtain ⟨⟨x0, x1⟩, ⟨r0, r1⟩, f0, f1⟩ := HX.out _ HB5.out)
    obtain ⟨hre, hSS⟩ := HRS.out
    obtain ⟨hT, hB9, -⟩ := fin3 (.slice A L.length c) (.int .i64 last) HR2.out HB2.out HB5.out HW0.out
    generalize (w5.setCell ⟨b + 1, 0, none⟩ (.slice A L.length c)).setCell ⟨b + 1, 1, none⟩ (.int .i64 last) = w9 at hT hB9 ⊢
    obtain ⟨t0, t1⟩ := hT
    refine bodyPost_ret (v := .tuple #[.agg #[.slice A L.length c, .int .i64 last], .int .i64 9]) (by simp [results, Tryz.results108, go_sem, t0, t1, hu30]) rfl ⟨.agg #[.slice A L.length c, .int .i64 last], by rw [hre], by rw [hSS]; exact ⟨A, c, rfl, hle, Kd.C_below HC.out hB9⟩, hB9, fun hz => absurd hz HNZ.out⟩
   ·
    have hre : re = 0 := by rw [HRE.out, if_neg (by simp), if_neg e1, if_neg e2]
    have hSS := HS.out.1 hre
    have HRS := qh (And.intro hre hSS)
    have e3 : es = [] := List.eq_nil_of_length_eq_zero (by omega)
    subst e3
    clear hre hSS HS HRE HD HI e1 e2
    go_upto_region 10 with (go_at_call 72; refine (HLI.out _ (HCT.out _ HB4.out)).mono ?_; rintro e w5 ⟨v5, rfl, ho5, hb5⟩; obtain ⟨A5, c5, rfl, -, -⟩ := Kd.R_reads ho5; have HB5 := qh (HB4.out.trans (hb5.mono HB4.out.size)); clear hb5 ho5 x0 x1 r0 r1 f0 f1; obtain ⟨⟨x0, x1⟩, ⟨r0, r1⟩, f0, f1⟩ := HX.out _ HB5.out)
    go_wp2
    go_loopw [10, 11] (fun v10 v11 wr => ∃ i : Nat, v11 = .int .i64 (i : Int) ∧ i ≤ L.length ∧ Kd.R k106 106 wr w5.heap.size (fun _ => True) v10 (cutL (L.take i) n) ∧ Below w5.heap.size w5 wr) (fun _ v _ => L.length - (intOf v).toNat)
    case atStart => exact ⟨0, rfl, Nat.zero_le _, Kd.R_nil _ _ _ _ _, Below.refl _ _⟩
    case round =>
     obtain ⟨i, rfl, hi, hO, hB⟩ := hrel
     have HO := qh hO
     have HB := qh (HB5.out.trans (hB.mono HB5.out.size))
     have HBW := qh hB
     clear hO hB x0 x1 r0 r1 f0 f1
     obtain ⟨⟨x0, x1⟩, ⟨r0, r1⟩, f0, f1⟩ := HX.out _ HB.out
     by_cases h : i < L.length
     ·
      obtain ⟨ad, eA, c0, c1, c2, c3, c4⟩ := at_T106 (HCT.out _ HB.out) (i : Int) (by omega) (by omega)
      rw [rdN_get h, Int.toNat_natCast] at c0 c1 c2 c3 c4
      subst eA
      have hlt : (i : Int) < (L.length : Int) := by omega
      have hct := cutL_take L n h
      by_cases he : L[i].f0 = n
      ·
       rw [if_pos he] at hct
       have HCU := qh hct
       have b3 : (L[i].f0 != n) = false := bne_eq_false_iff_eq.2 he
       clear hct he
       go_wp2
       go_roundw
       case rel => exact ⟨i + 1, by have := HLL.out; rw [w1 (by omega)], h, by rw [HCU.out]; exact HO.out, HBW.out⟩
       case measure => exact meas_big h (by have := HLL.out; omega)
      ·
       rw [if_neg he] at hct
       have HCU := qh hct
       have b3 : (L[i].f0 != n) = true := bne_iff_ne.2 he
       have HLN := qh (show (cutL (L.take i) n).length ≤ 4096 from Nat.le_trans (List.length_filter_le _ _) (by rw [List.length_take]; have := HLL.out; omega))
       clear hct he
       generalize L[i] = q at *
       go_wp2_with ((with_reducible refine gate_builtin (b := .append) (xs := #[.tmp 47, .tmp 53]) rfl ?_); at_builtin; refine Kd.R_append k106 (w0 := w5) w5.heap.size rfl (.tmp 47) (.tmp 53) 28 106 (.agg #[(.int .i64 0), (.int .i64 0), (.string ⟨#[]⟩), (.int .i64 0), (.string ⟨#[]⟩)]) 56 rfl Tryz.underlying28 info106 rfl (by decide) (by omega) _ (cutL (L.take i) n) q _ (fun _ => True) (fun _ => False) rfl rfl (k106_mkM _ _ _ _) (fun _ hk => hk.elim) (fun _ _ => trivial) HO.out HBW.out HBW.out.size (by have := HLN.out; omega) ?_; intro v6 w6 ho6 hb6 hg6 hat6; have HO6 := qh ho6; have HB6 := qh hb6; clear ho6 hb6 hg6 hat6)
       go_roundw
       case rel =>
        exact ⟨i + 1, by have := HLL.out; rw [w1 (by omega)], h, by rw [HCU.out]; exact HO6.out, HB6.out⟩
       case measure => exact meas_big h (by have := HLL.out; omega)
     ·
      obtain rfl : i = L.length := by omega
      have h' : ¬ ((L.length : Int) < (L.length : Int)) := by omega
      rw [List.take_length] at HO
      obtain ⟨A6, c6, rfl, hl6, -⟩ := Kd.R_reads HO.out
      have hlt2 := blk_lt HR2.out
      have hOO := rfar2 (b := b + 1) (u := .slice A6 (cutL L n).length c6) (u' := .int .i64 last) HO.out (show b + 1 < w5.heap.size by have := HB5.out.size; omega)
      have HW5 : Hid (w.heap.size < w5.heap.size) := qh (by have := HB5.out.size; have := HW0.out; omega)
      have HOO := qh hOO
      clear hOO h hlt2
      go_wp2
      have hOO := HOO.out
      obtain ⟨hre, hSS⟩ := HRS.out
      obtain ⟨hT, hB9, -⟩ := fin3 (.slice A6 (cutL L n).length c6) (.int .i64 last) HR2.out HB2.out HB.out HW0.out
      generalize (wr.setCell ⟨b + 1, 0, none⟩ (.slice A6 (cutL L n).length c6)).setCell ⟨b + 1, 1, none⟩ (.int .i64 last) = w9 at hT hB9 hOO ⊢
      obtain ⟨t0, t1⟩ := hT
      refine bodyPost_ret (v := .tuple #[.agg #[.slice A6 (cutL L n).length c6, .int .i64 last], .int .i64 0]) (by simp [results, Tryz.results108, go_sem, t0, t1, hu30]) rfl ⟨.agg #[.slice A6 (cutL L n).length c6, .int .i64 last], by rw [hre], by rw [hSS]; exact (by obtain ⟨A9, c9, e9, h9, hC9⟩ := Kd.R_reads hOO; exact ⟨A9, c9, by rw [e9], h9, hC9⟩), hB9, fun _ => ⟨A6, c6, w5.heap.size, rfl, HW5.out, hOO⟩⟩
 ·
  have hre : re = de := by rw [HRE.out, if_pos e0]
  have HNZ : Hid (re ≠ 0) := qh (by rw [hre]; exact e0)
  have hSS := HS.out.2 (by rw [hre]; exact e0)
  have b0 : (de != 0) = true := bne_iff_ne.2 e0
  have HRS := qh (And.intro hre hSS)
  clear hre hSS HS HRE HD HI HLI e0
  go_wp2
  obtain ⟨hre, hSS⟩ := HRS.out
  obtain ⟨hT, hB9, -⟩ := fin3 (.slice A L.length c) (.int .i64 last) HR2.out HB2.out HB3.out HW0.out
  generalize (w3.setCell ⟨b + 1, 0, none⟩ (.slice A L.length c)).setCell ⟨b + 1, 1, none⟩ (.int .i64 last) = w9 at hT hB9 ⊢
  obtain ⟨t0, t1⟩ := hT
  refine bodyPost_ret (v := .tuple #[.agg #[.slice A L.length c, .int .i64 last], .int .i64 de]) (by simp [results, Tryz.results108, go_sem, t0, t1, hu30]) rfl ⟨.agg #[.slice A L.length c, .int .i64 last], by rw [hre], by rw [hSS]; exact ⟨A, c, rfl, hle, Kd.C_below HC.out hB9⟩, hB9, fun hz => absurd hz HNZ.out⟩
def preE (L : List RN) (fr : Int) (s : ByteArray) (td : Int) (z : ByteArray) : Int :=
 if dirE (atR L fr).f3 ≠ 0 then dirE (atR L fr).f3 else if dirE (atR L td).f3 ≠ 0 then dirE (atR L td).f3 else if inR L fr s = 0 then 5 else Sp.check z.data.toList
theorem movP_pre {L : List RN} {last fr td : Int} {s z : ByteArray} (h : preE L fr s td z ≠ 0) : movP L last fr s td z = preE L fr s td z ∧ movM L last fr s td z = L := by
 have h1 : movP L last fr s td z = preE L fr s td z := by
  unfold movP movRE
  unfold preE at h ⊢
  split
  · rfl
  ·
   split
   · rfl
   ·
    split
    · rfl
    ·
     split
     · rfl
     ·
      rename_i g1 g2 g3 g4
      rw [if_neg g1, if_neg g2, if_neg g3] at h
      exact absurd h g4
 refine ⟨h1, ?_⟩
 unfold movM
 rw [if_neg (fun q => by rw [h1] at q; exact h q.1)]
theorem movP_post {L : List RN} {last fr td : Int} {s z : ByteArray} (h : preE L fr s td z = 0) : dirE (atR L fr).f3 = 0 ∧ dirE (atR L td).f3 = 0 ∧ inR L fr s ≠ 0 ∧ Sp.check z.data.toList = 0 ∧
  movP L last fr s td z = (if (atR L (inR L fr s)).f3 = 1 ∧ insV L last td (inR L fr s) = true then 14 else if (roomRE L (inR L fr s) td z).1 = true then 0 else (roomRE L (inR L fr s) td z).2) := by
 unfold preE at h
 split at h
 · rename_i g; exact absurd h g
 ·
  rename_i g1
  split at h
  · rename_i g; exact absurd h g
  ·
   rename_i g2
   split at h
   · cases h
   ·
    rename_i g3
    refine ⟨Decidable.byContradiction g1, Decidable.byContradiction g2, g3, h, ?_⟩
    unfold movP movRE
    rw [if_neg g1, if_neg g2, if_neg g3, if_neg (fun q => q h)]
theorem node_set {W : World} {r : Nat} {a0 a1 a2 a3 a4 : Value} {t : TypeId} (v1 v2 : Value) (h : W.heap[r]? = some (.cells #[a0, a1, a2, a3, a4] t (0, 0))) :
  (W.setCell ⟨r, 1, none⟩ v1).heap[r]? = some (.cells #[a0, v1, a2, a3, a4] t (0, 0)) ∧ ((W.setCell ⟨r, 1, none⟩ v1).setCell ⟨r, 2, none⟩ v2).heap[r]? = some (.cells #[a0, v1, v2, a3, a4] t (0, 0)) := by
 have e1 := setCell_eq_setRow W r 1 _ _ _ v1 h
 have k1 : (W.setCell ⟨r, 1, none⟩ v1).heap[r]? = some (.cells #[a0, v1, a2, a3, a4] t (0, 0)) := by rw [e1, setRow_heap W _ _ _ _ _ h]; rfl
 have e2 := setCell_eq_setRow _ r 2 _ _ _ v2 k1
 exact ⟨k1, by rw [e2, setRow_heap _ _ _ _ _ _ k1]; rfl⟩
theorem rfar12 {w : World} {base b : Nat} {v u u' : Value} {l : List RN} (h : Kd.R k106 106 w base (fun _ => True) v l) (hb : b < base) :
  Kd.R k106 106 ((w.setCell ⟨b, 1, none⟩ u).setCell ⟨b, 2, none⟩ u') base (fun _ => True) v l := by
 have h1 := Kd.R_mono (Kd.R_bound h) (ok' := fun k => k ≠ b) (fun k hk => by have := hk.2.1; omega)
 exact Kd.R_mono (Kd.R_far (p := ⟨b, 2, none⟩) (Kd.R_far (p := ⟨b, 1, none⟩) h1 (fun k hk => hk) u) (fun k hk => hk) u') (fun _ _ => trivial)
theorem box_cells {W : World} {b : Nat} {u0 u1 : Value} (h : W.heap[b]? = some (.cells #[u0, u1] 30 (0, 0))) :
  (W.cell? ⟨b, 0, none⟩ = some u0 ∧ W.cell? ⟨b, 1, none⟩ = some u1) ∧ (W.frozen? ⟨b, 0, none⟩ = false ∧ W.frozen? ⟨b, 1, none⟩ = false) :=
 ⟨⟨by rw [blk_cell h]; rfl, by rw [blk_cell h]; rfl⟩, blk_frozen h 0, blk_frozen h 1⟩
theorem two_other {w : World} {k j : Nat} {u0 u1 : Value} {i0 i1 : Nat} {X : Option Obj} (hne : j ≠ k) (h : w.heap[j]? = X) : ((w.setCell ⟨k, i0, none⟩ u0).setCell ⟨k, i1, none⟩ u1).heap[j]? = X := by
 rw [Below.heap_setCell _ ⟨k, i1, none⟩ u1 j hne, Below.heap_setCell w ⟨k, i0, none⟩ u0 j hne, h]
theorem node_cells {W : World} {g : Nat} {a0 a1 a3 : Int} {a2 a4 : ByteArray} {t : TypeId} (h : W.heap[g]? = some (.cells #[.int .i64 a0, .int .i64 a1, .string a2, .int .i64 a3, .string a4] t (0, 0))) :
  W.cell? ⟨g, 0, none⟩ = some (.int .i64 a0) ∧ W.cell? ⟨g, 1, none⟩ = some (.int .i64 a1) ∧ W.cell? ⟨g, 2, none⟩ = some (.string a2) ∧ W.cell? ⟨g, 3, none⟩ = some (.int .i64 a3) ∧ W.cell? ⟨g, 4, none⟩ = some (.string a4) := by
 refine ⟨?_, ?_, ?_, ?_, ?_⟩ <;> (rw [blk_cell h]; rfl)
theorem rmove_pre (L : List RN) (last : Int) (v : Value) (fr : Int) (s : ByteArray) (td : Int) (z : ByteArray) (w : World) (h : RAt w v L last) (hG : GoodL L last) (hM : GoodM L) (he : preE L fr s td z ≠ 0) :
  Calls Tryz.prog 109 #[v, .int .i64 fr, .string s, .int .i64 td, .string z] w fun e w' => ∃ v', e = .returned (.tuple #[v', .int .i64 (movP L last fr s td z)]) ∧ RAt w' v' (movM L last fr s td z) last ∧ Below w.heap.size w w' := by
 obtain ⟨A, c, rfl, hle, hC⟩ := h
 have hl := hG.len
 have hu30 := Tryz.underlying30
 have hu106 := Tryz.underlying106
 obtain ⟨k1, hk1⟩ := (r07_dir L fr last (by omega)).rounds
 obtain ⟨k2, hk2⟩ := (r07_dir L td last (by omega)).rounds
 obtain ⟨k3, hk3⟩ := (r07_in L fr last s (by omega)).rounds
 obtain ⟨k4, hk4⟩ := (r03_check z).rounds
 have HD1 := qh (fun W h => linhayref07_dir.calls k1 A c L last fr _ W h hle hk1)
 have HD2 := qh (fun W h => linhayref07_dir.calls k2 A c L last td _ W h hle hk2)
 have HI := qh (fun W h => linhayref07_In.calls k3 A c L last fr s _ W h hle hk3)
 have HCK := qh (fun W => linhayref03_Check.calls k4 z _ W hk4)
 obtain ⟨q1, q2, q3⟩ := two_blocks w (.cells #[.slice A L.length c, .int .i64 last] 30) (.cells #[.slice none 0 0, .int .i64 0] 30)
 have HK := qh (And.intro q1 (And.intro q2 q3))
 have HC := qh hC
 obtain ⟨hre0, hSS0⟩ := movP_pre (last := last) he
 have HRS := qh (And.intro hre0 hSS0)
 have HPE : Hid (preE L fr s td z = if dirE (atR L fr).f3 ≠ 0 then dirE (atR L fr).f3 else if dirE (atR L td).f3 ≠ 0 then dirE (atR L td).f3 else if inR L fr s = 0 then 5 else Sp.check z.data.toList) := qh rfl
 generalize movM L last fr s td z = SS at *
 generalize movP L last fr s td z = re at *
 generalize preE L fr s td z = pe at *
 generalize dirE (atR L fr).f3 = de1 at *
 generalize dirE (atR L td).f3 = de2 at *
 generalize inR L fr s = n at *
 generalize Sp.check z.data.toList = ck at *
 have HNE := qh he
 clear hC q1 q2 q3 hk1 hk2 hk3 hk4 hre0 hSS0 he hG hM
 go_enter Tryz.func109, Tryz.ntmps109
 go_upto_region 1 with (fail)
 generalize (w.alloc (.cells #[.slice A L.length c, .int .i64 last] 30)).alloc (.cells #[.slice none 0 0, .int .i64 0] 30) = w2 at HK ⊢
 have HR1 := qh HK.out.1
 have HR2 := qh HK.out.2.1
 have HB2 := qh HK.out.2.2
 clear HK
 generalize hb0 : w.heap.size = b at HR1 HR2 ⊢
 have HW0 := qh hb0
 clear hb0
 have HX := qh (two_boxes HR1.out HR2.out)
 have HCT := qh (c_later HC.out HB2.out)
 have HBi := qh (Below.refl w2.heap.size w2)
 obtain ⟨⟨x0, x1⟩, ⟨r0, r1⟩, f0, f1⟩ := HX.out _ HBi.out
 go_upto_region 2 with (go_at_call 103; refine (HD1.out _ (HCT.out _ HBi.out)).mono ?_; rintro e w3 ⟨rfl, hb⟩; have HB3 := qh (HBi.out.trans (hb.mono HBi.out.size)); clear hb; clear x0 x1 r0 r1 f0 f1; obtain ⟨⟨x0, x1⟩, ⟨r0, r1⟩, f0, f1⟩ := HX.out _ HB3.out)
 by_cases e0 : de1 = 0
 ·
  subst e0
  go_upto_region 4 with (go_at_call 103; refine (HD2.out _ (HCT.out _ HB3.out)).mono ?_; rintro e w4 ⟨rfl, hb⟩; have HB4 := qh (HB3.out.trans (hb.mono HB3.out.size)); clear hb; clear x0 x1 r0 r1 f0 f1; obtain ⟨⟨x0, x1⟩, ⟨r0, r1⟩, f0, f1⟩ := HX.out _ HB4.out)
  by_cases e1 : de2 = 0
  ·
   subst e1
   go_upto_region 5 with (go_at_call 105; refine (HI.out _ (HCT.out _ HB4.out)).mono ?_; rintro e w5 ⟨rfl, hb⟩; have HB5 := qh (HB4.out.trans (hb.mono HB4.out.size)); clear hb; clear x0 x1 r0 r1 f0 f1; obtain ⟨⟨x0, x1⟩, ⟨r0, r1⟩, f0, f1⟩ := HX.out _ HB5.out)
   by_cases e2 : n = 0
   ·
    subst e2
    obtain rfl : pe = 5 := by rw [HPE.out, if_neg (by simp), if_neg (by simp), if_pos rfl]
    clear HPE HNE HD1 HD2 HI HCK
    go_wp2
    obtain ⟨hre, hSS⟩ := HRS.out
    obtain ⟨hT, hB9, -⟩ := fin3 (.slice A L.length c) (.int .i64 last) HR2.out HB2.out HB5.out HW0.out
    generalize (w5.setCell ⟨b + 1, 0, none⟩ (.slice A L.length c)).setCell ⟨b + 1, 1, none⟩ (.int .i64 last) = w9 at hT hB9 ⊢
    obtain ⟨t0, t1⟩ := hT
    refine bodyPost_ret (v := .tuple #[.agg #[.slice A L.length c, .int .i64 last], .int .i64 5]) (by simp [results, Tryz.results109, go_sem, t0, t1, hu30]) rfl ⟨.agg #[.slice A L.length c, .int .i64 last], by rw [hre], by rw [hSS]; exact ⟨A, c, rfl, hle, Kd.C_below HC.out hB9⟩, hB9⟩
   ·
    obtain rfl : pe = ck := by rw [HPE.out, if_neg (by simp), if_neg (by simp), if_neg e2]
    have b2 : (n == 0) = false := beq_eq_false_iff_ne.2 e2
    have b3 : (pe != 0) = true := bne_iff_ne.2 HNE.out
    clear HPE HNE HD1 HD2 HI e2
    go_wp2_with (go_at_call 104; refine (HCK.out _).mono ?_; rintro e w6 ⟨rfl, hd⟩; have HB6 := qh (HB5.out.trans (hd.below.mono HB5.out.size)); clear hd; clear x0 x1 r0 r1 f0 f1; obtain ⟨⟨x0, x1⟩, ⟨r0, r1⟩, f0, f1⟩ := HX.out _ HB6.out)
    obtain ⟨hre, hSS⟩ := HRS.out
    obtain ⟨hT, hB9, -⟩ := fin3 (.slice A L.length c) (.int .i64 last) HR2.out HB2.out HB6.out HW0.out
    generalize (w6.setCell ⟨b + 1, 0, none⟩ (.slice A L.length c)).setCell ⟨b + 1, 1, none⟩ (.int .i64 last) = w9 at hT hB9 ⊢
    obtain ⟨t0, t1⟩ := hT
    refine bodyPost_ret (v := .tuple #[.agg #[.slice A L.length c, .int .i64 last], .int .i64 pe]) (by simp [results, Tryz.results109, go_sem, t0, t1, hu30]) rfl ⟨.agg #[.slice A L.length c, .int .i64 last], by rw [hre], by rw [hSS]; exact ⟨A, c, rfl, hle, Kd.C_below HC.out hB9⟩, hB9⟩
  ·
   obtain rfl : pe = de2 := by rw [HPE.out, if_neg (by simp), if_pos e1]
   have b2 : (pe == 0) = false := beq_eq_false_iff_ne.2 e1
   have b3 : (pe != 0) = true := bne_iff_ne.2 e1
   clear HPE HNE HD1 HD2 HCK e1
   go_wp2_with (go_at_call 105; refine (HI.out _ (HCT.out _ HB4.out)).mono ?_; rintro e w5 ⟨rfl, hb⟩; have HB5 := qh (HB4.out.trans (hb.mono HB4.out.size)); clear hb; clear x0 x1 r0 r1 f0 f1; obtain ⟨⟨x0, x1⟩, ⟨r0, r1⟩, f0, f1⟩ := HX.out _ HB5.out)
   obtain ⟨hre, hSS⟩ := HRS.out
   obtain ⟨hT, hB9, -⟩ := fin3 (.slice A L.length c) (.int .i64 last) HR2.out HB2.out HB5.out HW0.out
   generalize (w5.setCell ⟨b + 1, 0, none⟩ (.slice A L.length c)).setCell ⟨b + 1, 1, none⟩ (.int .i64 last) = w9 at hT hB9 ⊢
   obtain ⟨t0, t1⟩ := hT
   refine bodyPost_ret (v := .tuple #[.agg #[.slice A L.length c, .int .i64 last], .int .i64 pe]) (by simp [results, Tryz.results109, go_sem, t0, t1, hu30]) rfl ⟨.agg #[.slice A L.length c, .int .i64 last], by rw [hre], by rw [hSS]; exact ⟨A, c, rfl, hle, Kd.C_below HC.out hB9⟩, hB9⟩
 ·
  obtain rfl : pe = de1 := by rw [HPE.out, if_pos e0]
  have b2 : (pe == 0) = false := beq_eq_false_iff_ne.2 e0
  have b3 : (pe != 0) = true := bne_iff_ne.2 e0
  clear HPE HNE HD1 HD2 HCK e0
  go_wp2_with (go_at_call 105; refine (HI.out _ (HCT.out _ HB3.out)).mono ?_; rintro e w5 ⟨rfl, hb⟩; have HB5 := qh (HB3.out.trans (hb.mono HB3.out.size)); clear hb; clear x0 x1 r0 r1 f0 f1; obtain ⟨⟨x0, x1⟩, ⟨r0, r1⟩, f0, f1⟩ := HX.out _ HB5.out)
  obtain ⟨hre, hSS⟩ := HRS.out
  obtain ⟨hT, hB9, -⟩ := fin3 (.slice A L.length c) (.int .i64 last) HR2.out HB2.out HB5.out HW0.out
  generalize (w5.setCell ⟨b + 1, 0, none⟩ (.slice A L.length c)).setCell ⟨b + 1, 1, none⟩ (.int .i64 last) = w9 at hT hB9 ⊢
  obtain ⟨t0, t1⟩ := hT
  refine bodyPost_ret (v := .tuple #[.agg #[.slice A L.length c, .int .i64 last], .int .i64 pe]) (by simp [results, Tryz.results109, go_sem, t0, t1, hu30]) rfl ⟨.agg #[.slice A L.length c, .int .i64 last], by rw [hre], by rw [hSS]; exact ⟨A, c, rfl, hle, Kd.C_below HC.out hB9⟩, hB9⟩
abbrev fnV (k : Nat) : Value := .func (.func k) #[] #[]
def ByV (W : World) (v : Value) (k : Nat) : Prop := ∃ g : Nat, v = .func (.func 151) #[] #[.pointer (some ⟨g, 0, none⟩)] ∧ W.heap[g]? = some (.cells #[fnV k] 104 (0, 0))
theorem ByV.below {w W : World} {v : Value} {k : Nat} (h : ByV w v k) (hb : Below w.heap.size w W) : ByV W v k := by
 obtain ⟨g, rfl, h1⟩ := h
 exact ⟨g, rfl, (hb.block _ (blk_lt h1)).trans h1⟩
theorem one_set {w : World} {k : Nat} {v0 u0 : Value} {t : TypeId} (h : w.heap[k]? = some (.cells #[v0] t (0, 0))) : (w.setCell ⟨k, 0, none⟩ u0).heap[k]? = some (.cells #[u0] t (0, 0)) := by
 rw [setCell_eq_setRow w _ 0 _ _ _ _ h, setRow_heap w _ _ _ _ _ h]; rfl
theorem by_calls (k : Nat) (w : World) : Calls Tryz.prog 121 #[fnV k] w fun r w' => ∃ v, r = .returned (.agg #[v]) ∧ ByV w' v k ∧ Below w.heap.size w w' := by
 have hu := Tryz.underlying122
 obtain ⟨k1, k2, k3⟩ := two_blocks w (.cells #[fnV k] 104) (.cells #[.nilFunc] 122)
 have HK := qh (And.intro k1 (And.intro k2 k3))
 clear k1 k2 k3
 go_enter Tryz.func121, Tryz.ntmps121
 go_upto_region 1 with (fail)
 generalize (w.alloc (.cells #[fnV k] 104)).alloc (.cells #[.nilFunc] 122) = w2 at HK ⊢
 generalize hb0 : w.heap.size = b at HK ⊢
 have HW0 := qh hb0
 clear hb0
 obtain ⟨h1, h2, h3⟩ := HK.out
 have r0 : w2.cell? ⟨b + 1, 0, none⟩ = some .nilFunc := by rw [blk_cell h2]; rfl
 have f0 := blk_frozen h2 0
 clear HK
 go_wp2
 have e2 := one_set (u0 := .func (.func 151) #[] #[.pointer (some ⟨b, 0, none⟩)]) h2
 have t0 : (w2.setCell ⟨b + 1, 0, none⟩ (.func (.func 151) #[] #[.pointer (some ⟨b, 0, none⟩)])).cell? ⟨b + 1, 0, none⟩ = some (.func (.func 151) #[] #[.pointer (some ⟨b, 0, none⟩)]) := by rw [blk_cell e2]; rfl
 refine bodyPost_ret (v := .agg #[.func (.func 151) #[] #[.pointer (some ⟨b, 0, none⟩)]]) (by simp [results, Tryz.results121, go_sem, t0, hu]) rfl ⟨_, rfl, ⟨b, rfl, ?_⟩, ?_⟩
 · exact (Below.heap_setCell w2 ⟨b + 1, 0, none⟩ _ b (by simp)).trans h1
 · rw [HW0.out]; exact h3.setCell (p := ⟨b + 1, 0, none⟩) (Nat.le_succ b) _
theorem seven_set {w : World} {r : Nat} {a0 a1 a2 a3 a4 a5 a6 v0 v1 v2 v3 v4 v5 v6 : Value} {t : TypeId} (h : w.heap[r]? = some (.cells #[a0, a1, a2, a3, a4, a5, a6] t (0, 0))) :
  (((((((w.setCell ⟨r, 0, none⟩ v0).setCell ⟨r, 1, none⟩ v1).setCell ⟨r, 2, none⟩ v2).setCell ⟨r, 3, none⟩ v3).setCell ⟨r, 4, none⟩ v4).setCell ⟨r, 5, none⟩ v5).setCell ⟨r, 6, none⟩ v6).heap[r]? = some (.cells #[v0, v1, v2, v3, v4, v5, v6] t (0, 0)) := by
 have k0 : (w.setCell ⟨r, 0, none⟩ v0).heap[r]? = some (.cells #[v0, a1, a2, a3, a4, a5, a6] t (0, 0)) := by rw [setCell_eq_setRow w _ 0 _ _ _ _ h, setRow_heap w _ _ _ _ _ h]; rfl
 have k1 : ((w.setCell ⟨r, 0, none⟩ v0).setCell ⟨r, 1, none⟩ v1).heap[r]? = some (.cells #[v0, v1, a2, a3, a4, a5, a6] t (0, 0)) := by rw [setCell_eq_setRow _ _ 1 _ _ _ _ k0, setRow_heap _ _ _ _ _ _ k0]; rfl
 have k2 : (((w.setCell ⟨r, 0, none⟩ v0).setCell ⟨r, 1, none⟩ v1).setCell ⟨r, 2, none⟩ v2).heap[r]? = some (.cells #[v0, v1, v2, a3, a4, a5, a6] t (0, 0)) := by rw [setCell_eq_setRow _ _ 2 _ _ _ _ k1, setRow_heap _ _ _ _ _ _ k1]; rfl
 have k3 : ((((w.setCell ⟨r, 0, none⟩ v0).setCell ⟨r, 1, none⟩ v1).setCell ⟨r, 2, none⟩ v2).setCell ⟨r, 3, none⟩ v3).heap[r]? = some (.cells #[v0, v1, v2, v3, a4, a5, a6] t (0, 0)) := by rw [setCell_eq_setRow _ _ 3 _ _ _ _ k2, setRow_heap _ _ _ _ _ _ k2]; rfl
 have k4 : (((((w.setCell ⟨r, 0, none⟩ v0).setCell ⟨r, 1, none⟩ v1).setCell ⟨r, 2, none⟩ v2).setCell ⟨r, 3, none⟩ v3).setCell ⟨r, 4, none⟩ v4).heap[r]? = some (.cells #[v0, v1, v2, v3, v4, a5, a6] t (0, 0)) := by rw [setCell_eq_setRow _ _ 4 _ _ _ _ k3, setRow_heap _ _ _ _ _ _ k3]; rfl
 have k5 : ((((((w.setCell ⟨r, 0, none⟩ v0).setCell ⟨r, 1, none⟩ v1).setCell ⟨r, 2, none⟩ v2).setCell ⟨r, 3, none⟩ v3).setCell ⟨r, 4, none⟩ v4).setCell ⟨r, 5, none⟩ v5).heap[r]? = some (.cells #[v0, v1, v2, v3, v4, v5, a6] t (0, 0)) := by rw [setCell_eq_setRow _ _ 5 _ _ _ _ k4, setRow_heap _ _ _ _ _ _ k4]; rfl
 rw [setCell_eq_setRow _ _ 6 _ _ _ _ k5, setRow_heap _ _ _ _ _ _ k5]; rfl
theorem seven_other {w : World} {r j : Nat} {v0 v1 v2 v3 v4 v5 v6 : Value} {X : Option Obj} (hne : j ≠ r) (h : w.heap[j]? = X) :
  (((((((w.setCell ⟨r, 0, none⟩ v0).setCell ⟨r, 1, none⟩ v1).setCell ⟨r, 2, none⟩ v2).setCell ⟨r, 3, none⟩ v3).setCell ⟨r, 4, none⟩ v4).setCell ⟨r, 5, none⟩ v5).setCell ⟨r, 6, none⟩ v6).heap[j]? = X := by
 rw [Below.heap_setCell _ ⟨r, 6, none⟩ _ j hne, Below.heap_setCell _ ⟨r, 5, none⟩ _ j hne, Below.heap_setCell _ ⟨r, 4, none⟩ _ j hne, Below.heap_setCell _ ⟨r, 3, none⟩ _ j hne, Below.heap_setCell _ ⟨r, 2, none⟩ _ j hne, Below.heap_setCell _ ⟨r, 1, none⟩ _ j hne, Below.heap_setCell _ ⟨r, 0, none⟩ _ j hne, h]
theorem by_other {w W : World} {b k : Nat} {v : Value} {cs : Array Value} (h : ByV w v k) (hb : w.heap[b]? = some (.cells cs 123 (0, 0))) (HO : ∀ (g : Nat) (o : Obj), w.heap[g]? = some o → g ≠ b → W.heap[g]? = some o) : ByV W v k := by
 obtain ⟨g, rfl, h1⟩ := h
 refine ⟨g, rfl, HO g _ h1 ?_⟩
 rintro rfl
 rw [hb] at h1
 injection h1 with h1
 injection h1 with _ h1
 exact absurd h1 (by decide)
theorem deeds_calls (w : World) : Calls Tryz.prog 78 #[] w fun r w' => ∃ v1 v2 v4, r = .returned (.agg #[.nilFunc, v1, v2, fnV 122, v4, fnV 123, fnV 124]) ∧
  (ByV w' v1 62 ∧ ByV w' v2 63 ∧ ByV w' v4 65) ∧ Below w.heap.size w w' := by
 have hu := Tryz.underlying122
 have hu3 := Tryz.underlying123
 have HY := qh (fun k W => by_calls k W)
 have HB1 := qh ((Below.refl w.heap.size w).alloc (Nat.le_refl _) (.cells #[.nilFunc, .nilFunc, .nilFunc, .nilFunc, .nilFunc, .nilFunc, .nilFunc] 123))
 have H1 := qh (heap_alloc_new w (.cells #[.nilFunc, .nilFunc, .nilFunc, .nilFunc, .nilFunc, .nilFunc, .nilFunc] 123))
 go_enter Tryz.func78, Tryz.ntmps78
 go_upto_region 1 with (fail)
 generalize w.alloc (.cells #[.nilFunc, .nilFunc, .nilFunc, .nilFunc, .nilFunc, .nilFunc, .nilFunc] 123) = w1 at HB1 H1 ⊢
 generalize hb0 : w.heap.size = b at HB1 H1 ⊢
 have HW0 := qh hb0
 clear hb0
 have HX := qh (fun (W : World) (hb : Below w1.heap.size w1 W) => show (W.cell? ⟨b, 0, none⟩ = some .nilFunc ∧ W.cell? ⟨b, 1, none⟩ = some .nilFunc ∧ W.cell? ⟨b, 2, none⟩ = some .nilFunc ∧ W.cell? ⟨b, 3, none⟩ = some .nilFunc ∧ W.cell? ⟨b, 4, none⟩ = some .nilFunc ∧ W.cell? ⟨b, 5, none⟩ = some .nilFunc ∧ W.cell? ⟨b, 6, none⟩ = some .nilFunc) ∧ (W.frozen? ⟨b, 0, none⟩ = false ∧ W.frozen? ⟨b, 1, none⟩ = false ∧ W.frozen? ⟨b, 2, none⟩ = false ∧ W.frozen? ⟨b, 3, none⟩ = false ∧ W.frozen? ⟨b, 4, none⟩ = false ∧ W.frozen? ⟨b, 5, none⟩ = false ∧ W.frozen? ⟨b, 6, none⟩ = false) by
  have e1 := (hb.block _ (blk_lt H1.out)).trans H1.out
  refine ⟨⟨?_, ?_, ?_, ?_, ?_, ?_, ?_⟩, blk_frozen e1 0, blk_frozen e1 1, blk_frozen e1 2, blk_frozen e1 3, blk_frozen e1 4, blk_frozen e1 5, blk_frozen e1 6⟩ <;> (rw [blk_cell e1]; rfl))
 have HE1 := qh (Below.refl w1.heap.size w1)
 go_wp2_with (first
  | (go_at_call 121; refine (HY.out _ _).mono ?_; rintro e w4 ⟨v4, rfl, hv4, hb⟩; have HE4 := qh (HE3.out.trans (hb.mono HE3.out.size)); have HV4 := qh hv4; obtain ⟨g4, rfl, -⟩ := hv4; have HV1 := qh (HV1.out.below hb); have HV2 := qh (HV2.out.below hb); clear hb; obtain ⟨⟨x0, x1, x2, x3, x4, x5, x6⟩, y0, y1, y2, y3, y4, y5, y6⟩ := HX.out _ HE4.out)
  | (go_at_call 121; refine (HY.out _ _).mono ?_; rintro e w3 ⟨v2, rfl, hv2, hb⟩; have HE3 := qh (HE2.out.trans (hb.mono HE2.out.size)); have HV2 := qh hv2; obtain ⟨g2, rfl, -⟩ := hv2; have HV1 := qh (HV1.out.below hb); clear hb)
  | (go_at_call 121; refine (HY.out _ _).mono ?_; rintro e w2 ⟨v1, rfl, hv1, hb⟩; have HE2 := qh (HE1.out.trans (hb.mono HE1.out.size)); have HV1 := qh hv1; obtain ⟨g1, rfl, -⟩ := hv1; clear hb))
 have e4 := (HE4.out.block _ (blk_lt H1.out)).trans H1.out
 have e5 := seven_set (v0 := .nilFunc) (v1 := .func (.func 151) #[] #[.pointer (some ⟨g1, 0, none⟩)]) (v2 := .func (.func 151) #[] #[.pointer (some ⟨g2, 0, none⟩)]) (v3 := fnV 122) (v4 := .func (.func 151) #[] #[.pointer (some ⟨g4, 0, none⟩)]) (v5 := fnV 123) (v6 := fnV 124) e4
 have HB9 : Hid (Below b w ((((((((w4).setCell ⟨b, 0, none⟩ (.nilFunc)).setCell ⟨b, 1, none⟩ (.func (.func 151) #[] #[.pointer (some ⟨g1, 0, none⟩)])).setCell ⟨b, 2, none⟩ (.func (.func 151) #[] #[.pointer (some ⟨g2, 0, none⟩)])).setCell ⟨b, 3, none⟩ (fnV 122)).setCell ⟨b, 4, none⟩ (.func (.func 151) #[] #[.pointer (some ⟨g4, 0, none⟩)])).setCell ⟨b, 5, none⟩ (fnV 123)).setCell ⟨b, 6, none⟩ (fnV 124))) := qh ((((((((HB1.out.trans (HE4.out.mono (Nat.le_of_lt (blk_lt H1.out)))).setCell (p := ⟨b, 0, none⟩) (Nat.le_refl b) (.nilFunc)).setCell (p := ⟨b, 1, none⟩) (Nat.le_refl b) (.func (.func 151) #[] #[.pointer (some ⟨g1, 0, none⟩)])).setCell (p := ⟨b, 2, none⟩) (Nat.le_refl b) (.func (.func 151) #[] #[.pointer (some ⟨g2, 0, none⟩)])).setCell (p := ⟨b, 3, none⟩) (Nat.le_refl b) (fnV 122)).setCell (p := ⟨b, 4, none⟩) (Nat.le_refl b) (.func (.func 151) #[] #[.pointer (some ⟨g4, 0, none⟩)])).setCell (p := ⟨b, 5, none⟩) (Nat.le_refl b) (fnV 123)).setCell (p := ⟨b, 6, none⟩) (Nat.le_refl b) (fnV 124))
 have HO := fun (g : Nat) (o : Obj) (hg : w4.heap[g]? = some o) (hne : g ≠ b) => seven_other (v0 := .nilFunc) (v1 := .func (.func 151) #[] #[.pointer (some ⟨g1, 0, none⟩)]) (v2 := .func (.func 151) #[] #[.pointer (some ⟨g2, 0, none⟩)]) (v3 := fnV 122) (v4 := .func (.func 151) #[] #[.pointer (some ⟨g4, 0, none⟩)]) (v5 := fnV 123) (v6 := fnV 124) hne hg
 have HV : Hid (ByV ((((((((w4).setCell ⟨b, 0, none⟩ (.nilFunc)).setCell ⟨b, 1, none⟩ (.func (.func 151) #[] #[.pointer (some ⟨g1, 0, none⟩)])).setCell ⟨b, 2, none⟩ (.func (.func 151) #[] #[.pointer (some ⟨g2, 0, none⟩)])).setCell ⟨b, 3, none⟩ (fnV 122)).setCell ⟨b, 4, none⟩ (.func (.func 151) #[] #[.pointer (some ⟨g4, 0, none⟩)])).setCell ⟨b, 5, none⟩ (fnV 123)).setCell ⟨b, 6, none⟩ (fnV 124)) (.func (.func 151) #[] #[.pointer (some ⟨g1, 0, none⟩)]) 62 ∧ ByV ((((((((w4).setCell ⟨b, 0, none⟩ (.nilFunc)).setCell ⟨b, 1, none⟩ (.func (.func 151) #[] #[.pointer (some ⟨g1, 0, none⟩)])).setCell ⟨b, 2, none⟩ (.func (.func 151) #[] #[.pointer (some ⟨g2, 0, none⟩)])).setCell ⟨b, 3, none⟩ (fnV 122)).setCell ⟨b, 4, none⟩ (.func (.func 151) #[] #[.pointer (some ⟨g4, 0, none⟩)])).setCell ⟨b, 5, none⟩ (fnV 123)).setCell ⟨b, 6, none⟩ (fnV 124)) (.func (.func 151) #[] #[.pointer (some ⟨g2, 0, none⟩)]) 63 ∧ ByV ((((((((w4).setCell ⟨b, 0, none⟩ (.nilFunc)).setCell ⟨b, 1, none⟩ (.func (.func 151) #[] #[.pointer (some ⟨g1, 0, none⟩)])).setCell ⟨b, 2, none⟩ (.func (.func 151) #[] #[.pointer (some ⟨g2, 0, none⟩)])).setCell ⟨b, 3, none⟩ (fnV 122)).setCell ⟨b, 4, none⟩ (.func (.func 151) #[] #[.pointer (some ⟨g4, 0, none⟩)])).setCell ⟨b, 5, none⟩ (fnV 123)).setCell ⟨b, 6, none⟩ (fnV 124)) (.func (.func 151) #[] #[.pointer (some ⟨g4, 0, none⟩)]) 65) := qh ⟨by_other HV1.out e4 HO, by_other HV2.out e4 HO, by_other HV4.out e4 HO⟩
 clear HV1 HV2 HV4 HO
 generalize (((((((w4).setCell ⟨b, 0, none⟩ (.nilFunc)).setCell ⟨b, 1, none⟩ (.func (.func 151) #[] #[.pointer (some ⟨g1, 0, none⟩)])).setCell ⟨b, 2, none⟩ (.func (.func 151) #[] #[.pointer (some ⟨g2, 0, none⟩)])).setCell ⟨b, 3, none⟩ (fnV 122)).setCell ⟨b, 4, none⟩ (.func (.func 151) #[] #[.pointer (some ⟨g4, 0, none⟩)])).setCell ⟨b, 5, none⟩ (fnV 123)).setCell ⟨b, 6, none⟩ (fnV 124) = w9 at HB9 HV e5 ⊢
 have t0 : w9.cell? ⟨b, 0, none⟩ = some .nilFunc := by rw [blk_cell e5]; rfl
 have t1 : w9.cell? ⟨b, 1, none⟩ = some (.func (.func 151) #[] #[.pointer (some ⟨g1, 0, none⟩)]) := by rw [blk_cell e5]; rfl
 have t2 : w9.cell? ⟨b, 2, none⟩ = some (.func (.func 151) #[] #[.pointer (some ⟨g2, 0, none⟩)]) := by rw [blk_cell e5]; rfl
 have t3 : w9.cell? ⟨b, 3, none⟩ = some (fnV 122) := by rw [blk_cell e5]; rfl
 have t4 : w9.cell? ⟨b, 4, none⟩ = some (.func (.func 151) #[] #[.pointer (some ⟨g4, 0, none⟩)]) := by rw [blk_cell e5]; rfl
 have t5 : w9.cell? ⟨b, 5, none⟩ = some (fnV 123) := by rw [blk_cell e5]; rfl
 have t6 : w9.cell? ⟨b, 6, none⟩ = some (fnV 124) := by rw [blk_cell e5]; rfl
 refine bodyPost_ret (v := .agg #[.nilFunc, .func (.func 151) #[] #[.pointer (some ⟨g1, 0, none⟩)], .func (.func 151) #[] #[.pointer (some ⟨g2, 0, none⟩)], fnV 122, .func (.func 151) #[] #[.pointer (some ⟨g4, 0, none⟩)], fnV 123, fnV 124]) (by simp [results, Tryz.results78, go_sem, t0, t1, t2, t3, t4, t5, t6, hu, hu3]) rfl ⟨_, _, _, rfl, HV.out, ?_⟩
 rw [HW0.out]
 exact HB9.out
@[go_sem] theorem ix_deed1 (v0 v1 v2 v3 v4 v5 v6 : Value) (w : World) : (Instr.index 123 (.agg #[v0, v1, v2, v3, v4, v5, v6]) (.int .i64 1)).run Tryz.prog w = .ok (.agg #[v1]) w := by kernel_rfl
@[go_sem] theorem ix_deed2 (v0 v1 v2 v3 v4 v5 v6 : Value) (w : World) : (Instr.index 123 (.agg #[v0, v1, v2, v3, v4, v5, v6]) (.int .i64 2)).run Tryz.prog w = .ok (.agg #[v2]) w := by kernel_rfl
@[go_sem] theorem ix_deed3 (v0 v1 v2 v3 v4 v5 v6 : Value) (w : World) : (Instr.index 123 (.agg #[v0, v1, v2, v3, v4, v5, v6]) (.int .i64 3)).run Tryz.prog w = .ok (.agg #[v3]) w := by kernel_rfl
@[go_sem] theorem ix_deed4 (v0 v1 v2 v3 v4 v5 v6 : Value) (w : World) : (Instr.index 123 (.agg #[v0, v1, v2, v3, v4, v5, v6]) (.int .i64 4)).run Tryz.prog w = .ok (.agg #[v4]) w := by kernel_rfl
@[go_sem] theorem ix_deed5 (v0 v1 v2 v3 v4 v5 v6 : Value) (w : World) : (Instr.index 123 (.agg #[v0, v1, v2, v3, v4, v5, v6]) (.int .i64 5)).run Tryz.prog w = .ok (.agg #[v5]) w := by kernel_rfl
@[go_sem] theorem ix_deed6 (v0 v1 v2 v3 v4 v5 v6 : Value) (w : World) : (Instr.index 123 (.agg #[v0, v1, v2, v3, v4, v5, v6]) (.int .i64 6)).run Tryz.prog w = .ok (.agg #[v6]) w := by kernel_rfl
@[go_sem] theorem fl_deed (v0 : Value) (w : World) : (Instr.field 122 (.agg #[v0]) 0).run Tryz.prog w = .ok v0 w := by kernel_rfl
theorem known_yes (k : Int) (w : World) (h : 1 ≤ k ∧ k ≤ 6) : Calls Tryz.prog 76 #[.int .i64 k] w fun e w' => e = .returned (.bool true) ∧ w' = w := by
 obtain ⟨h1, h2⟩ := h
 go_enter Tryz.func76, Tryz.ntmps76
 go_wp2
 go_ret
 exact ⟨rfl, rfl⟩
theorem known_no (k : Int) (w : World) (h : ¬ (1 ≤ k ∧ k ≤ 6)) : Calls Tryz.prog 76 #[.int .i64 k] w fun e w' => e = .returned (.bool false) ∧ w' = w := by
 by_cases h1 : 1 ≤ k
 ·
  have h2 : ¬ k ≤ 6 := fun e => h ⟨h1, e⟩
  clear h
  go_enter Tryz.func76, Tryz.ntmps76
  go_wp2
  go_ret
  exact ⟨rfl, rfl⟩
 ·
  clear h
  go_enter Tryz.func76, Tryz.ntmps76
  go_wp2
  go_ret
  exact ⟨rfl, rfl⟩
theorem by1_Mkdir (p B : Nat) (L : List RN) (last k : Int) (a t : ByteArray) (g : Nat) (w : World) (h : TreeB w p B (trOf L last)) (hG : GoodL L last) (hM : GoodM L) (hla : last < 1000000) (hg : w.heap[g]? = some (.cells #[fnV 62] 104 (0, 0))) :
  Calls Tryz.prog 151 #[pT p, .agg #[.int .i64 k, .string a, .string t], .pointer (some ⟨g, 0, none⟩)] w (Left p B w (mkP L last a 1 ⟨#[]⟩)) := by
 have hB0 := (Below.refl w.heap.size w).alloc (Nat.le_refl _) (.cells #[.int .i64 k, .string a, .string t] 36)
 have HB0 := qh hB0
 have x0 : (w.alloc (.cells #[.int .i64 k, .string a, .string t] 36)).cell? ⟨g, 0, none⟩ = some (fnV 62) := by rw [blk_cell ((hB0.block _ (blk_lt hg)).trans hg)]; rfl
 have HS := qh (mkdir9_calls p B L last a _ (h.below hB0) hG hM hla)
 generalize mkP L last a 1 ⟨#[]⟩ = o at *
 clear h hG hM hla hB0 hg
 go_enter Tryz.func151, Tryz.ntmps151
 go_wp2_with (go_at_call 62; refine HS.out.mono ?_; rintro e w3 ⟨rfl, hT3, hF3⟩)
 go_ret
 exact ⟨rfl, hT3, (Frm.ofBelow HB0.out).trans hF3⟩
theorem by1_Rmdir (p B : Nat) (L : List RN) (last k : Int) (a t : ByteArray) (g : Nat) (w : World) (h : TreeB w p B (trOf L last)) (hG : GoodL L last) (hM : GoodM L) (hla : last < 1000000) (hg : w.heap[g]? = some (.cells #[fnV 63] 104 (0, 0))) :
  Calls Tryz.prog 151 #[pT p, .agg #[.int .i64 k, .string a, .string t], .pointer (some ⟨g, 0, none⟩)] w (Left p B w (cutP L last a true)) := by
 have hB0 := (Below.refl w.heap.size w).alloc (Nat.le_refl _) (.cells #[.int .i64 k, .string a, .string t] 36)
 have HB0 := qh hB0
 have x0 : (w.alloc (.cells #[.int .i64 k, .string a, .string t] 36)).cell? ⟨g, 0, none⟩ = some (fnV 63) := by rw [blk_cell ((hB0.block _ (blk_lt hg)).trans hg)]; rfl
 have HS := qh (rmdir9_calls p B L last a _ (h.below hB0) hG hM hla)
 generalize cutP L last a true = o at *
 clear h hG hM hla hB0 hg
 go_enter Tryz.func151, Tryz.ntmps151
 go_wp2_with (go_at_call 63; refine HS.out.mono ?_; rintro e w3 ⟨rfl, hT3, hF3⟩)
 go_ret
 exact ⟨rfl, hT3, (Frm.ofBelow HB0.out).trans hF3⟩
theorem by1_Unlink (p B : Nat) (L : List RN) (last k : Int) (a t : ByteArray) (g : Nat) (w : World) (h : TreeB w p B (trOf L last)) (hG : GoodL L last) (hM : GoodM L) (hla : last < 1000000) (hg : w.heap[g]? = some (.cells #[fnV 65] 104 (0, 0))) :
  Calls Tryz.prog 151 #[pT p, .agg #[.int .i64 k, .string a, .string t], .pointer (some ⟨g, 0, none⟩)] w (Left p B w (cutP L last a false)) := by
 have hB0 := (Below.refl w.heap.size w).alloc (Nat.le_refl _) (.cells #[.int .i64 k, .string a, .string t] 36)
 have HB0 := qh hB0
 have x0 : (w.alloc (.cells #[.int .i64 k, .string a, .string t] 36)).cell? ⟨g, 0, none⟩ = some (fnV 65) := by rw [blk_cell ((hB0.block _ (blk_lt hg)).trans hg)]; rfl
 have HS := qh (unlink9_calls p B L last a _ (h.below hB0) hG hM hla)
 generalize cutP L last a false = o at *
 clear h hG hM hla hB0 hg
 go_enter Tryz.func151, Tryz.ntmps151
 go_wp2_with (go_at_call 65; refine HS.out.mono ?_; rintro e w3 ⟨rfl, hT3, hF3⟩)
 go_ret
 exact ⟨rfl, hT3, (Frm.ofBelow HB0.out).trans hF3⟩
theorem deeds1_calls (p B : Nat) (L : List RN) (last k : Int) (a t : ByteArray) (w : World) (h : TreeB w p B (trOf L last)) (hG : GoodL L last) (hM : GoodM L) (hla : last < 1000000) :
  Calls Tryz.prog 122 #[pT p, .agg #[.int .i64 k, .string a, .string t]] w (Left p B w (mkP L last a 3 t)) := by
 have hB0 := (Below.refl w.heap.size w).alloc (Nat.le_refl _) (.cells #[.int .i64 k, .string a, .string t] 36)
 have HB0 := qh hB0
 have HS := qh (symlink9_calls p B L last t a _ (h.below hB0) hG hM hla)
 generalize mkP L last a 3 t = o at *
 clear h hG hM hla hB0
 go_enter Tryz.func122, Tryz.ntmps122
 go_wp2_with (go_at_call 64; refine HS.out.mono ?_; rintro e w3 ⟨rfl, hT3, hF3⟩)
 go_ret
 exact ⟨rfl, hT3, (Frm.ofBelow HB0.out).trans hF3⟩
theorem deeds2_calls (p B : Nat) (L : List RN) (last k : Int) (a t : ByteArray) (w : World) (h : TreeB w p B (trOf L last)) (hG : GoodL L last) (hM : GoodM L) (hla : last < 1000000) :
  Calls Tryz.prog 123 #[pT p, .agg #[.int .i64 k, .string a, .string t]] w (Left p B w (renP L last a t)) := by
 have hB0 := (Below.refl w.heap.size w).alloc (Nat.le_refl _) (.cells #[.int .i64 k, .string a, .string t] 36)
 have HB0 := qh hB0
 have HS := qh (rename9_calls p B L last a t _ (h.below hB0) hG hM hla)
 generalize renP L last a t = o at *
 clear h hG hM hla hB0
 go_enter Tryz.func123, Tryz.ntmps123
 go_wp2_with (go_at_call 66; refine HS.out.mono ?_; rintro e w3 ⟨rfl, hT3, hF3⟩)
 go_ret
 exact ⟨rfl, hT3, (Frm.ofBelow HB0.out).trans hF3⟩
theorem deeds3_calls (p B : Nat) (L : List RN) (last k : Int) (a t : ByteArray) (w : World) (h : TreeB w p B (trOf L last)) (hG : GoodL L last) (hM : GoodM L) (hla : last < 1000000) :
  Calls Tryz.prog 124 #[pT p, .agg #[.int .i64 k, .string a, .string t]] w (Left p B w (wrP L last a t)) := by
 have hB0 := (Below.refl w.heap.size w).alloc (Nat.le_refl _) (.cells #[.int .i64 k, .string a, .string t] 36)
 have HB0 := qh hB0
 have HS := qh (write9_calls p B L last a t _ (h.below hB0) hG hM hla)
 generalize wrP L last a t = o at *
 clear h hG hM hla hB0
 go_enter Tryz.func124, Tryz.ntmps124
 go_wp2_with (go_at_call 52; refine HS.out.mono ?_; rintro e w3 ⟨rfl, hT3, hF3⟩)
 go_ret
 exact ⟨rfl, hT3, (Frm.ofBelow HB0.out).trans hF3⟩
theorem box3 {W : World} {g : Nat} {k : Int} {a t : ByteArray} {ty : TypeId} (h : W.heap[g]? = some (.cells #[.int .i64 k, .string a, .string t] ty (0, 0))) : W.cell? ⟨g, 0, none⟩ = some (.int .i64 k) ∧ W.cell? ⟨g, 1, none⟩ = some (.string a) ∧ W.cell? ⟨g, 2, none⟩ = some (.string t) :=
 ⟨by rw [blk_cell h]; rfl, by rw [blk_cell h]; rfl, by rw [blk_cell h]; rfl⟩
theorem tk_frm {w w' : World} {p B : Nat} {Tt : Tr} {A : Option Addr} {l : List S36} (hC : Kd.C k36 w A l.length l) (hT : TreeB w p B Tt) (hf : Frm w w' p B) : Kd.C k36 w' A l.length l := by
 obtain ⟨hp, es, clock, hB⟩ := hT.two
 refine ⟨hC.1, hC.2.1, fun hn => ?_⟩
 obtain ⟨ad, eA, hc⟩ := hC.2.2 hn
 refine ⟨ad, eA, fun j q hj => ?_⟩
 obtain ⟨cs, hl, hK, hq⟩ := hc j q hj
 obtain rfl := k36_open hK
 have h0 := hq 1 _ rfl
 have hne : ad.block < w.heap.size ∧ ad.block ≠ p ∧ ad.block ≠ B := by
  have hbl := add_block ad (j * k36.sz + 1)
  generalize ad.add (j * k36.sz + 1) = a0 at h0 hbl
  refine ⟨?_, ?_, ?_⟩
  · rw [← hbl]; exact block_lt_of_cell h0
  ·
   intro e
   rw [e] at hbl
   obtain ⟨b, o, sp⟩ := a0
   subst hbl
   simp [World.cell?, hp] at h0
   cases sp with
   | none =>
    simp at h0
    match o, h0 with
    | 0, h0 => simp at h0
    | 1, h0 => simp at h0
    | n + 2, h0 => simp at h0
   | some q => simp at h0
  ·
   intro e
   rw [e] at hbl
   obtain ⟨b, o, sp⟩ := a0
   subst hbl
   simp [World.cell?, hB] at h0
 refine ⟨_, hl, k36_mk _ _, fun i u hu => ?_⟩
 have := hq i u hu
 rw [← this]
 have hbl := add_block ad (j * k36.sz + i)
 generalize ad.add (j * k36.sz + i) = a at hbl
 unfold World.cell?
 rw [hbl, hf.block _ hne.1 hne.2.1 hne.2.2]
noncomputable def appP : List RN → Int → List S36 → Op3 × Nat
 | L, la, [] => ((L, la, 0), 0)
 | L, la, x :: ts => if (doP L la x.f0 x.f1 x.f2).2.2 ≠ 0 then (doP L la x.f0 x.f1 x.f2, 0) else ((appP (doP L la x.f0 x.f1 x.f2).1 (doP L la x.f0 x.f1 x.f2).2.1 ts).1, (appP (doP L la x.f0 x.f1 x.f2).1 (doP L la x.f0 x.f1 x.f2).2.1 ts).2 + 1)
theorem appP_cons (L : List RN) (la : Int) (x : S36) (ts : List S36) : appP L la (x :: ts) = if (doP L la x.f0 x.f1 x.f2).2.2 ≠ 0 then (doP L la x.f0 x.f1 x.f2, 0) else ((appP (doP L la x.f0 x.f1 x.f2).1 (doP L la x.f0 x.f1 x.f2).2.1 ts).1, (appP (doP L la x.f0 x.f1 x.f2).1 (doP L la x.f0 x.f1 x.f2).2.1 ts).2 + 1) := by rw [appP]
theorem fine_app : ∀ (ts : List S36) (L : List RN) (la : Int), GoodL L la → GoodM L → GoodL (appP L la ts).1.1 (appP L la ts).1.2.1 ∧ GoodM (appP L la ts).1.1 ∧ (appP L la ts).1.2.1 ≤ la + ts.length
 | [], L, la, hG, hM => ⟨hG, hM, by show la ≤ la + _; simp⟩
 | x :: ts, L, la, hG, hM => by
  have hF := fine_do hG hM x.f0 x.f1 x.f2
  unfold appP
  split
  · exact ⟨hF.good, hF.goodm, by have := hF.lst; simp only [List.length_cons]; omega⟩
  ·
   have := fine_app ts _ _ hF.good hF.goodm
   refine ⟨this.1, this.2.1, ?_⟩
   have h1 := this.2.2
   have h2 := hF.lst
   simp only [List.length_cons]
   show (appP _ _ ts).1.2.1 ≤ _
   omega
theorem apply_calls (p B : Nat) (L : List RN) (last : Int) (A : Option Addr) (c : Nat) (ts : List S36) (w : World) (h : TreeB w p B (trOf L last)) (hG : GoodL L last) (hM : GoodM L) (hC : Kd.C k36 w A ts.length ts) (hc : ts.length ≤ c) (hl : ts.length ≤ 100000) (hla : last ≤ 100000) :
  Calls Tryz.prog 28 #[pT p, .slice A ts.length c] w fun e w' => e = .returned (.tuple #[.int .i64 ((appP L last ts).2 : Int), .int .i64 (appP L last ts).1.2.2]) ∧ TreeB w' p B (trOf (appP L last ts).1.1 (appP L last ts).1.2.1) ∧ Frm w w' p B := by
 have hu36 := Tryz.underlying36
 have HT := qh h
 have HC := qh hC
 have HL := qh hl
 have HG := qh (And.intro hG (And.intro hM hla))
 have HD := qh (fun W => deeds_calls W)
 obtain ⟨RR, hRR⟩ : ∃ RR, appP L last ts = RR := ⟨_, rfl⟩
 have HRR := qh hRR
 rw [hRR]
 clear h hC hl hG hM hla hRR
 go_enter Tryz.func28, Tryz.ntmps28
 go_wp2
 go_loopw [13] (fun v13 wr => ∃ i : Nat, v13 = .int .i64 (i : Int) ∧ i ≤ ts.length ∧ ∃ (Li : List RN) (li : Int), TreeB wr p B (trOf Li li) ∧ Frm w wr p B ∧ GoodL Li li ∧ GoodM Li ∧ li ≤ last + i ∧ RR = ((appP Li li (ts.drop i)).1, i + (appP Li li (ts.drop i)).2)) (fun v _ => ts.length - (intOf v).toNat)
 case atStart => exact ⟨0, rfl, Nat.zero_le _, L, last, HT.out, Frm.refl _ _ _, HG.out.1, HG.out.2.1, by omega, by rw [List.drop_zero, HRR.out, Nat.zero_add]⟩
 case round =>
  obtain ⟨i, rfl, hi, Li, li, hT, hF, hG, hM, hli, hA⟩ := hrel
  have HTr := qh hT
  have HFr := qh hF
  by_cases hlt : i < ts.length
  ·
   have hlt' : (i : Int) < (ts.length : Int) := by omega
   have hCr := tk_frm HC.out HT.out hF
   obtain ⟨ad, eA, a0, a1, a2⟩ := at_T36 hCr (i : Int) (by omega) hlt'
   have hrd : rd_T36 ts (i : Int) = ts[i] := by simp [rd_T36, hlt]
   rw [hrd] at a0 a1 a2
   rw [Int.toNat_natCast] at a0 a1 a2
   subst eA
   rw [List.drop_eq_getElem_cons hlt] at hA
   have hA2 : RR = if (doP Li li ts[i].f0 ts[i].f1 ts[i].f2).2.2 ≠ 0 then (doP Li li ts[i].f0 ts[i].f1 ts[i].f2, i) else ((appP (doP Li li ts[i].f0 ts[i].f1 ts[i].f2).1 (doP Li li ts[i].f0 ts[i].f1 ts[i].f2).2.1 (ts.drop (i + 1))).1, (i + 1) + (appP (doP Li li ts[i].f0 ts[i].f1 ts[i].f2).1 (doP Li li ts[i].f0 ts[i].f1 ts[i].f2).2.1 (ts.drop (i + 1))).2) := by
    rw [hA, appP_cons]
    split
    · rfl
    · exact Prod.ext rfl (by show i + (_ + 1) = i + 1 + _; omega)
   generalize ts[i] = x at *
   obtain ⟨k, a, t⟩ := x
   simp only [] at a0 a1 a2 hA2
   have HA := qh hA2
   have hfd := fine_do hG hM k a t
   have hli2 : li < 1000000 := by have := HG.out.2.2; have := HL.out; omega
   have HFD := qh (And.intro hfd.good (And.intro hfd.goodm (show (doP Li li k a t).2.1 ≤ last + (i + 1) by have := hfd.lst; omega)))
   have HI := qh (And.intro hlt hi)
   have hb := below_alloc (Below.refl wr.heap.size wr) (.cells #[.int .i64 k, .string a, .string t] 36)
   have hT2 := hT.below hb
   have HT2 := qh hT2
   have HF2 := qh (hF.trans (Frm.ofBelow hb))
   have h2 := heap_alloc_new wr (.cells #[.int .i64 k, .string a, .string t] 36)
   have H2 := qh h2
   clear hA hA2 hrd hCr hT hF hi HRR hfd
   by_cases k1 : k = 1
   ·
    subst k1
    have e0 : doP Li li 1 a t = mkP Li li a 1 ⟨#[]⟩ := by unfold doP; simp
    rw [e0] at HFD HA
    have HCK := qh (fun g W h hg => by1_Mkdir p B Li li 1 a t g W h hG hM hli2 hg)
    generalize mkP Li li a 1 ⟨#[]⟩ = o at *
    obtain ⟨Lo, no, eo⟩ := o
    simp only [] at HFD HA
    clear hG hM hli hli2 e0 HG
    have HKN := qh (fun W => known_yes 1 W (by decide))
    go_upto_region 8 with (go_at_call 76; refine (HKN.out _).mono ?_; rintro e w' ⟨rfl, rfl⟩)
    clear a0 a1 a2
    generalize wr.alloc (.cells #[.int .i64 1, .string a, .string t] 36) = w2 at HT2 HF2 H2 hT2 hb h2 ⊢
    generalize wr.heap.size = gb at H2 h2 ⊢
    have HY := qh (fun (W : World) (q : Below w2.heap.size w2 W) => show W.cell? ⟨gb, 0, none⟩ = some (.int .i64 1) ∧ W.cell? ⟨gb, 1, none⟩ = some (.string a) ∧ W.cell? ⟨gb, 2, none⟩ = some (.string t) by
     have e1 := (q.block _ (blk_lt H2.out)).trans H2.out
     exact ⟨by rw [blk_cell e1]; rfl, by rw [blk_cell e1]; rfl, by rw [blk_cell e1]; rfl⟩)
    obtain ⟨y0, y1, y2⟩ := HY.out _ (Below.refl _ _)
    clear hb hT2 h2
    go_region_held3 (fun w' => w'.cell? ⟨gb, 0, none⟩ = some (.int .i64 1) ∧ w'.cell? ⟨gb, 1, none⟩ = some (.string a) ∧ w'.cell? ⟨gb, 2, none⟩ = some (.string t)) (first | (go_keep; done) | exact HY4.out | exact HY.out _ HE3.out) (first | (go_at_call 78; refine (HD.out _).mono ?_; rintro e w3 ⟨v1, v2, v4, rfl, hv, hb3⟩; have HE3 : Hid (Below w2.heap.size w2 w3) := qh (by first | exact hb3 | exact (below_drew (Below.refl _ _)).trans hb3); clear hb3; obtain ⟨g, rfl, hg⟩ := hv.1; clear hv) | (go_at_call 151; refine (HCK.out _ _ (HT2.out.below HE3.out) hg).mono ?_; rintro e w4 ⟨rfl, hT4, hF4⟩; have HT4 := qh hT4; have HF4 := qh (HF2.out.trans ((Frm.ofBelow HE3.out).trans hF4)); have HY4 := qh (box3 (cells_frm ((HE3.out.block _ (blk_lt H2.out)).trans H2.out) (by decide) (HT2.out.below HE3.out) hF4)); clear hT4 hF4))
    all_goals
     clear y0 y1 y2 HY HD
     by_cases he : eo = 0
     ·
      subst he
      have hA := HA.out
      rw [if_neg (by simp)] at hA
      have HA2 := qh hA
      clear HA hA
      go_wp2
      go_roundw
      case rel => exact ⟨i + 1, by have := HL.out; rw [w1 (by omega)], HI.out.1, Lo, no, HT4.out, HF4.out, HFD.out.1, HFD.out.2.1, HFD.out.2.2, HA2.out⟩
      case measure => exact meas_big HI.out.1 (by have := HL.out; omega)
     ·
      have hA := HA.out
      rw [if_pos he] at hA
      subst hA
      have b9 : (eo != 0) = true := bne_iff_ne.2 he
      clear HA he
      go_wp2
      refine bodyPost_ret (v := .tuple #[.int .i64 (i : Int), .int .i64 eo]) (by simp [results, Tryz.results28, go_sem]) rfl ⟨rfl, HT4.out, HF4.out⟩
   ·
    by_cases k2 : k = 2
    ·
     subst k2
     have e0 : doP Li li 2 a t = cutP Li li a true := by unfold doP; simp
     rw [e0] at HFD HA
     have HCK := qh (fun g W h hg => by1_Rmdir p B Li li 2 a t g W h hG hM hli2 hg)
     generalize cutP Li li a true = o at *
     obtain ⟨Lo, no, eo⟩ := o
     simp only [] at HFD HA
     clear hG hM hli hli2 e0 HG
     have HKN := qh (fun W => known_yes 2 W (by decide))
     go_upto_region 8 with (go_at_call 76; refine (HKN.out _).mono ?_; rintro e w' ⟨rfl, rfl⟩)
     clear a0 a1 a2
     generalize wr.alloc (.cells #[.int .i64 2, .string a, .string t] 36) = w2 at HT2 HF2 H2 hT2 hb h2 ⊢
     generalize wr.heap.size = gb at H2 h2 ⊢
     have HY := qh (fun (W : World) (q : Below w2.heap.size w2 W) => show W.cell? ⟨gb, 0, none⟩ = some (.int .i64 2) ∧ W.cell? ⟨gb, 1, none⟩ = some (.string a) ∧ W.cell? ⟨gb, 2, none⟩ = some (.string t) by
      have e1 := (q.block _ (blk_lt H2.out)).trans H2.out
      exact ⟨by rw [blk_cell e1]; rfl, by rw [blk_cell e1]; rfl, by rw [blk_cell e1]; rfl⟩)
     obtain ⟨y0, y1, y2⟩ := HY.out _ (Below.refl _ _)
     clear hb hT2 h2
     go_region_held3 (fun w' => w'.cell? ⟨gb, 0, none⟩ = some (.int .i64 2) ∧ w'.cell? ⟨gb, 1, none⟩ = some (.string a) ∧ w'.cell? ⟨gb, 2, none⟩ = some (.string t)) (first | (go_keep; done) | exact HY4.out | exact HY.out _ HE3.out) (first | (go_at_call 78; refine (HD.out _).mono ?_; rintro e w3 ⟨v1, v2, v4, rfl, hv, hb3⟩; have HE3 : Hid (Below w2.heap.size w2 w3) := qh (by first | exact hb3 | exact (below_drew (Below.refl _ _)).trans hb3); clear hb3; obtain ⟨g, rfl, hg⟩ := hv.2.1; clear hv) | (go_at_call 151; refine (HCK.out _ _ (HT2.out.below HE3.out) hg).mono ?_; rintro e w4 ⟨rfl, hT4, hF4⟩; have HT4 := qh hT4; have HF4 := qh (HF2.out.trans ((Frm.ofBelow HE3.out).trans hF4)); have HY4 := qh (box3 (cells_frm ((HE3.out.block _ (blk_lt H2.out)).trans H2.out) (by decide) (HT2.out.below HE3.out) hF4)); clear hT4 hF4))
     all_goals
      clear y0 y1 y2 HY HD
      by_cases he : eo = 0
      ·
       subst he
       have hA := HA.out
       rw [if_neg (by simp)] at hA
       have HA2 := qh hA
       clear HA hA
       go_wp2
       go_roundw
       case rel => exact ⟨i + 1, by have := HL.out; rw [w1 (by omega)], HI.out.1, Lo, no, HT4.out, HF4.out, HFD.out.1, HFD.out.2.1, HFD.out.2.2, HA2.out⟩
       case measure => exact meas_big HI.out.1 (by have := HL.out; omega)
      ·
       have hA := HA.out
       rw [if_pos he] at hA
       subst hA
       have b9 : (eo != 0) = true := bne_iff_ne.2 he
       clear HA he
       go_wp2
       refine bodyPost_ret (v := .tuple #[.int .i64 (i : Int), .int .i64 eo]) (by simp [results, Tryz.results28, go_sem]) rfl ⟨rfl, HT4.out, HF4.out⟩
    ·
     by_cases k3 : k = 3
     ·
      subst k3
      have e0 : doP Li li 3 a t = mkP Li li a 3 t := by unfold doP; simp
      rw [e0] at HFD HA
      have HCK := qh (fun W h => deeds1_calls p B Li li 3 a t W h hG hM hli2)
      generalize mkP Li li a 3 t = o at *
      obtain ⟨Lo, no, eo⟩ := o
      simp only [] at HFD HA
      clear hG hM hli hli2 e0 HG
      have HKN := qh (fun W => known_yes 3 W (by decide))
      go_upto_region 8 with (go_at_call 76; refine (HKN.out _).mono ?_; rintro e w' ⟨rfl, rfl⟩)
      clear a0 a1 a2
      generalize wr.alloc (.cells #[.int .i64 3, .string a, .string t] 36) = w2 at HT2 HF2 H2 hT2 hb h2 ⊢
      generalize wr.heap.size = gb at H2 h2 ⊢
      have HY := qh (fun (W : World) (q : Below w2.heap.size w2 W) => show W.cell? ⟨gb, 0, none⟩ = some (.int .i64 3) ∧ W.cell? ⟨gb, 1, none⟩ = some (.string a) ∧ W.cell? ⟨gb, 2, none⟩ = some (.string t) by
       have e1 := (q.block _ (blk_lt H2.out)).trans H2.out
       exact ⟨by rw [blk_cell e1]; rfl, by rw [blk_cell e1]; rfl, by rw [blk_cell e1]; rfl⟩)
      obtain ⟨y0, y1, y2⟩ := HY.out _ (Below.refl _ _)
      clear hb hT2 h2
      go_region_held3 (fun w' => w'.cell? ⟨gb, 0, none⟩ = some (.int .i64 3) ∧ w'.cell? ⟨gb, 1, none⟩ = some (.string a) ∧ w'.cell? ⟨gb, 2, none⟩ = some (.string t)) (first | (go_keep; done) | exact HY4.out | exact HY.out _ HE3.out) (first | (go_at_call 78; refine (HD.out _).mono ?_; rintro e w3 ⟨v1, v2, v4, rfl, hv, hb3⟩; have HE3 : Hid (Below w2.heap.size w2 w3) := qh (by first | exact hb3 | exact (below_drew (Below.refl _ _)).trans hb3); clear hb3; clear hv) | (go_at_call 122; refine (HCK.out _ (HT2.out.below HE3.out)).mono ?_; rintro e w4 ⟨rfl, hT4, hF4⟩; have HT4 := qh hT4; have HF4 := qh (HF2.out.trans ((Frm.ofBelow HE3.out).trans hF4)); have HY4 := qh (box3 (cells_frm ((HE3.out.block _ (blk_lt H2.out)).trans H2.out) (by decide) (HT2.out.below HE3.out) hF4)); clear hT4 hF4))
      all_goals
       clear y0 y1 y2 HY HD
       by_cases he : eo = 0
       ·
        subst he
        have hA := HA.out
        rw [if_neg (by simp)] at hA
        have HA2 := qh hA
        clear HA hA
        go_wp2
        go_roundw
        case rel => exact ⟨i + 1, by have := HL.out; rw [w1 (by omega)], HI.out.1, Lo, no, HT4.out, HF4.out, HFD.out.1, HFD.out.2.1, HFD.out.2.2, HA2.out⟩
        case measure => exact meas_big HI.out.1 (by have := HL.out; omega)
       ·
        have hA := HA.out
        rw [if_pos he] at hA
        subst hA
        have b9 : (eo != 0) = true := bne_iff_ne.2 he
        clear HA he
        go_wp2
        refine bodyPost_ret (v := .tuple #[.int .i64 (i : Int), .int .i64 eo]) (by simp [results, Tryz.results28, go_sem]) rfl ⟨rfl, HT4.out, HF4.out⟩
     ·
      by_cases k4 : k = 4
      ·
       subst k4
       have e0 : doP Li li 4 a t = cutP Li li a false := by unfold doP; simp
       rw [e0] at HFD HA
       have HCK := qh (fun g W h hg => by1_Unlink p B Li li 4 a t g W h hG hM hli2 hg)
       generalize cutP Li li a false = o at *
       obtain ⟨Lo, no, eo⟩ := o
       simp only [] at HFD HA
       clear hG hM hli hli2 e0 HG
       have HKN := qh (fun W => known_yes 4 W (by decide))
       go_upto_region 8 with (go_at_call 76; refine (HKN.out _).mono ?_; rintro e w' ⟨rfl, rfl⟩)
       clear a0 a1 a2
       generalize wr.alloc (.cells #[.int .i64 4, .string a, .string t] 36) = w2 at HT2 HF2 H2 hT2 hb h2 ⊢
       generalize wr.heap.size = gb at H2 h2 ⊢
       have HY := qh (fun (W : World) (q : Below w2.heap.size w2 W) => show W.cell? ⟨gb, 0, none⟩ = some (.int .i64 4) ∧ W.cell? ⟨gb, 1, none⟩ = some (.string a) ∧ W.cell? ⟨gb, 2, none⟩ = some (.string t) by
        have e1 := (q.block _ (blk_lt H2.out)).trans H2.out
        exact ⟨by rw [blk_cell e1]; rfl, by rw [blk_cell e1]; rfl, by rw [blk_cell e1]; rfl⟩)
       obtain ⟨y0, y1, y2⟩ := HY.out _ (Below.refl _ _)
       clear hb hT2 h2
       go_region_held3 (fun w' => w'.cell? ⟨gb, 0, none⟩ = some (.int .i64 4) ∧ w'.cell? ⟨gb, 1, none⟩ = some (.string a) ∧ w'.cell? ⟨gb, 2, none⟩ = some (.string t)) (first | (go_keep; done) | exact HY4.out | exact HY.out _ HE3.out) (first | (go_at_call 78; refine (HD.out _).mono ?_; rintro e w3 ⟨v1, v2, v4, rfl, hv, hb3⟩; have HE3 : Hid (Below w2.heap.size w2 w3) := qh (by first | exact hb3 | exact (below_drew (Below.refl _ _)).trans hb3); clear hb3; obtain ⟨g, rfl, hg⟩ := hv.2.2; clear hv) | (go_at_call 151; refine (HCK.out _ _ (HT2.out.below HE3.out) hg).mono ?_; rintro e w4 ⟨rfl, hT4, hF4⟩; have HT4 := qh hT4; have HF4 := qh (HF2.out.trans ((Frm.ofBelow HE3.out).trans hF4)); have HY4 := qh (box3 (cells_frm ((HE3.out.block _ (blk_lt H2.out)).trans H2.out) (by decide) (HT2.out.below HE3.out) hF4)); clear hT4 hF4))
       all_goals
        clear y0 y1 y2 HY HD
        by_cases he : eo = 0
        ·
         subst he
         have hA := HA.out
         rw [if_neg (by simp)] at hA
         have HA2 := qh hA
         clear HA hA
         go_wp2
         go_roundw
         case rel => exact ⟨i + 1, by have := HL.out; rw [w1 (by omega)], HI.out.1, Lo, no, HT4.out, HF4.out, HFD.out.1, HFD.out.2.1, HFD.out.2.2, HA2.out⟩
         case measure => exact meas_big HI.out.1 (by have := HL.out; omega)
        ·
         have hA := HA.out
         rw [if_pos he] at hA
         subst hA
         have b9 : (eo != 0) = true := bne_iff_ne.2 he
         clear HA he
         go_wp2
         refine bodyPost_ret (v := .tuple #[.int .i64 (i : Int), .int .i64 eo]) (by simp [results, Tryz.results28, go_sem]) rfl ⟨rfl, HT4.out, HF4.out⟩
      ·
       by_cases k5 : k = 5
       ·
        subst k5
        have e0 : doP Li li 5 a t = renP Li li a t := by unfold doP; simp
        rw [e0] at HFD HA
        have HCK := qh (fun W h => deeds2_calls p B Li li 5 a t W h hG hM hli2)
        generalize renP Li li a t = o at *
        obtain ⟨Lo, no, eo⟩ := o
        simp only [] at HFD HA
        clear hG hM hli hli2 e0 HG
        have HKN := qh (fun W => known_yes 5 W (by decide))
        go_upto_region 8 with (go_at_call 76; refine (HKN.out _).mono ?_; rintro e w' ⟨rfl, rfl⟩)
        clear a0 a1 a2
        generalize wr.alloc (.cells #[.int .i64 5, .string a, .string t] 36) = w2 at HT2 HF2 H2 hT2 hb h2 ⊢
        generalize wr.heap.size = gb at H2 h2 ⊢
        have HY := qh (fun (W : World) (q : Below w2.heap.size w2 W) => show W.cell? ⟨gb, 0, none⟩ = some (.int .i64 5) ∧ W.cell? ⟨gb, 1, none⟩ = some (.string a) ∧ W.cell? ⟨gb, 2, none⟩ = some (.string t) by
         have e1 := (q.block _ (blk_lt H2.out)).trans H2.out
         exact ⟨by rw [blk_cell e1]; rfl, by rw [blk_cell e1]; rfl, by rw [blk_cell e1]; rfl⟩)
        obtain ⟨y0, y1, y2⟩ := HY.out _ (Below.refl _ _)
        clear hb hT2 h2
        go_region_held3 (fun w' => w'.cell? ⟨gb, 0, none⟩ = some (.int .i64 5) ∧ w'.cell? ⟨gb, 1, none⟩ = some (.string a) ∧ w'.cell? ⟨gb, 2, none⟩ = some (.string t)) (first | (go_keep; done) | exact HY4.out | exact HY.out _ HE3.out) (first | (go_at_call 78; refine (HD.out _).mono ?_; rintro e w3 ⟨v1, v2, v4, rfl, hv, hb3⟩; have HE3 : Hid (Below w2.heap.size w2 w3) := qh (by first | exact hb3 | exact (below_drew (Below.refl _ _)).trans hb3); clear hb3; clear hv) | (go_at_call 123; refine (HCK.out _ (HT2.out.below HE3.out)).mono ?_; rintro e w4 ⟨rfl, hT4, hF4⟩; have HT4 := qh hT4; have HF4 := qh (HF2.out.trans ((Frm.ofBelow HE3.out).trans hF4)); have HY4 := qh (box3 (cells_frm ((HE3.out.block _ (blk_lt H2.out)).trans H2.out) (by decide) (HT2.out.below HE3.out) hF4)); clear hT4 hF4))
        all_goals
         clear y0 y1 y2 HY HD
         by_cases he : eo = 0
         ·
          subst he
          have hA := HA.out
          rw [if_neg (by simp)] at hA
          have HA2 := qh hA
          clear HA hA
          go_wp2
          go_roundw
          case rel => exact ⟨i + 1, by have := HL.out; rw [w1 (by omega)], HI.out.1, Lo, no, HT4.out, HF4.out, HFD.out.1, HFD.out.2.1, HFD.out.2.2, HA2.out⟩
          case measure => exact meas_big HI.out.1 (by have := HL.out; omega)
         ·
          have hA := HA.out
          rw [if_pos he] at hA
          subst hA
          have b9 : (eo != 0) = true := bne_iff_ne.2 he
          clear HA he
          go_wp2
          refine bodyPost_ret (v := .tuple #[.int .i64 (i : Int), .int .i64 eo]) (by simp [results, Tryz.results28, go_sem]) rfl ⟨rfl, HT4.out, HF4.out⟩
       ·
        by_cases k6 : k = 6
        ·
         subst k6
         have e0 : doP Li li 6 a t = wrP Li li a t := by unfold doP; simp
         rw [e0] at HFD HA
         have HCK := qh (fun W h => deeds3_calls p B Li li 6 a t W h hG hM hli2)
         generalize wrP Li li a t = o at *
         obtain ⟨Lo, no, eo⟩ := o
         simp only [] at HFD HA
         clear hG hM hli hli2 e0 HG
         have HKN := qh (fun W => known_yes 6 W (by decide))
         go_upto_region 8 with (go_at_call 76; refine (HKN.out _).mono ?_; rintro e w' ⟨rfl, rfl⟩)
         clear a0 a1 a2
         generalize wr.alloc (.cells #[.int .i64 6, .string a, .string t] 36) = w2 at HT2 HF2 H2 hT2 hb h2 ⊢
         generalize wr.heap.size = gb at H2 h2 ⊢
         have HY := qh (fun (W : World) (q : Below w2.heap.size w2 W) => show W.cell? ⟨gb, 0, none⟩ = some (.int .i64 6) ∧ W.cell? ⟨gb, 1, none⟩ = some (.string a) ∧ W.cell? ⟨gb, 2, none⟩ = some (.string t) by
          have e1 := (q.block _ (blk_lt H2.out)).trans H2.out
          exact ⟨by rw [blk_cell e1]; rfl, by rw [blk_cell e1]; rfl, by rw [blk_cell e1]; rfl⟩)
         obtain ⟨y0, y1, y2⟩ := HY.out _ (Below.refl _ _)
         clear hb hT2 h2
         go_region_held3 (fun w' => w'.cell? ⟨gb, 0, none⟩ = some (.int .i64 6) ∧ w'.cell? ⟨gb, 1, none⟩ = some (.string a) ∧ w'.cell? ⟨gb, 2, none⟩ = some (.string t)) (first | (go_keep; done) | exact HY4.out | exact HY.out _ HE3.out) (first | (go_at_call 78; refine (HD.out _).mono ?_; rintro e w3 ⟨v1, v2, v4, rfl, hv, hb3⟩; have HE3 : Hid (Below w2.heap.size w2 w3) := qh (by first | exact hb3 | exact (below_drew (Below.refl _ _)).trans hb3); clear hb3; clear hv) | (go_at_call 124; refine (HCK.out _ (HT2.out.below HE3.out)).mono ?_; rintro e w4 ⟨rfl, hT4, hF4⟩; have HT4 := qh hT4; have HF4 := qh (HF2.out.trans ((Frm.ofBelow HE3.out).trans hF4)); have HY4 := qh (box3 (cells_frm ((HE3.out.block _ (blk_lt H2.out)).trans H2.out) (by decide) (HT2.out.below HE3.out) hF4)); clear hT4 hF4))
         all_goals
          clear y0 y1 y2 HY HD
          by_cases he : eo = 0
          ·
           subst he
           have hA := HA.out
           rw [if_neg (by simp)] at hA
           have HA2 := qh hA
           clear HA hA
           go_wp2
           go_roundw
           case rel => exact ⟨i + 1, by have := HL.out; rw [w1 (by omega)], HI.out.1, Lo, no, HT4.out, HF4.out, HFD.out.1, HFD.out.2.1, HFD.out.2.2, HA2.out⟩
           case measure => exact meas_big HI.out.1 (by have := HL.out; omega)
          ·
           have hA := HA.out
           rw [if_pos he] at hA
           subst hA
           have b9 : (eo != 0) = true := bne_iff_ne.2 he
           clear HA he
           go_wp2
           refine bodyPost_ret (v := .tuple #[.int .i64 (i : Int), .int .i64 eo]) (by simp [results, Tryz.results28, go_sem]) rfl ⟨rfl, HT4.out, HF4.out⟩
        ·
         have e0 : doP Li li k a t = (Li, li, 2) := by unfold doP; simp [k1, k2, k3, k4, k5, k6]
         have hA := HA.out
         rw [e0, if_pos (by simp)] at hA
         subst hA
         have HKN := qh (fun W => known_no k W (by omega))
         clear k1 k2 k3 k4 k5 k6 hG hM hli hli2 HG HA HFD e0 HD
         go_wp2_with (go_at_call 76; refine (HKN.out _).mono ?_; rintro e w' ⟨rfl, rfl⟩)
         refine bodyPost_ret (v := .tuple #[.int .i64 (i : Int), .int .i64 2]) (by simp [results, Tryz.results28, go_sem]) rfl ⟨rfl, HT2.out, HF2.out⟩
  ·
   obtain rfl : i = ts.length := by omega
   rw [List.drop_length] at hA
   have hlt' : ¬ (ts.length : Int) < (ts.length : Int) := by omega
   have hA2 : RR = ((Li, li, 0), ts.length) := by rw [hA]; rfl
   subst hA2
   clear hA hT hF hG hM hli HRR
   go_wp2
   refine bodyPost_ret (v := .tuple #[.int .i64 (ts.length : Int), .int .i64 0]) (by simp [results, Tryz.results28, go_sem]) rfl ⟨rfl, HTr.out, HFr.out⟩
theorem rmove_dir (L : List RN) (last : Int) (v : Value) (fr : Int) (s : ByteArray) (td : Int) (z : ByteArray) (w : World) (h : RAt w v L last) (hG : GoodL L last) (hM : GoodM L) (he : preE L fr s td z = 0) (hf : (atR L (inR L fr s)).f3 = 1) :
  Calls Tryz.prog 109 #[v, .int .i64 fr, .string s, .int .i64 td, .string z] w fun e w' => ∃ v', e = .returned (.tuple #[v', .int .i64 (movP L last fr s td z)]) ∧ RAt w' v' (movM L last fr s td z) last ∧ Below w.heap.size w w' := by
 obtain ⟨A, c, rfl, hle, hC⟩ := h
 have hl := hG.len
 have hu30 := Tryz.underlying30
 have hu106 := Tryz.underlying106
 obtain ⟨k1, hk1⟩ := (r07_dir L fr last (by omega)).rounds
 obtain ⟨k2, hk2⟩ := (r07_dir L td last (by omega)).rounds
 obtain ⟨k3, hk3⟩ := (r07_in L fr last s (by omega)).rounds
 obtain ⟨k4, hk4⟩ := (r03_check z).rounds
 have HD1 := qh (fun W h => linhayref07_dir.calls k1 A c L last fr _ W h hle hk1)
 have HD2 := qh (fun W h => linhayref07_dir.calls k2 A c L last td _ W h hle hk2)
 have HI := qh (fun W h => linhayref07_In.calls k3 A c L last fr s _ W h hle hk3)
 have HCK := qh (fun W => linhayref03_Check.calls k4 z _ W hk4)
 obtain ⟨q1, q2, q3⟩ := two_blocks w (.cells #[.slice A L.length c, .int .i64 last] 30) (.cells #[.slice none 0 0, .int .i64 0] 30)
 have HK := qh (And.intro q1 (And.intro q2 q3))
 have HC := qh hC
 obtain ⟨z1, z2, z3, z4, z5⟩ := movP_post (last := last) he
 obtain ⟨ka, hka⟩ := (r07_at L (inR L fr s) last (by omega)).rounds
 obtain ⟨ko, hko⟩ := (r07_at L (inR L td z) last (by omega)).rounds
 obtain ⟨k5, hk5⟩ := (r07_in L td last z (by omega)).rounds
 obtain ⟨ki, bi, hki⟩ := ins_ex hG hM (inR L fr s) td (by rw [dirE_zero z2]; decide)
 have HIV : Hid (insV L last td (inR L fr s) = bi) := qh (by
  cases bi with
  | true => exact insV_true ⟨ki, hki⟩
  | false =>
   refine insV_false ?_
   rintro ⟨k', hk'⟩
   have := insF_det hki hk'
   cases this)
 have HAT := qh (fun W h => linhayref07_At.calls ka A c L last (inR L fr s) _ _ _ _ _ W h hle hka)
 have HAO := qh (fun W h => linhayref07_At.calls ko A c L last (inR L td z) _ _ _ _ _ W h hle hko)
 have HI2 := qh (fun W h => linhayref07_In.calls k5 A c L last td z _ W h hle hk5)
 have HCUT := qh (fun W h => rcut_calls L last (.agg #[.slice A L.length c, .int .i64 last]) td z W h hG)
 have HWI := qh (fun L' v W h hl => rwith_own L' last v (movX L (inR L fr s) td z) W h hl)
 unfold movX at HWI
 simp only [] at HWI
 have HRM : Hid (roomRE L (inR L fr s) td z = if inR L td z = 0 then (false, 0) else if inR L td z = inR L fr s then (true, 0) else if (atR L (inR L td z)).f3 = 1 ∧ (atR L (inR L fr s)).f3 ≠ 1 then (false, 8) else if (atR L (inR L fr s)).f3 = 1 ∧ (atR L (inR L td z)).f3 ≠ 1 then (false, 7) else (false, cutRE L td z)) := qh rfl
 have HS : Hid (movM L last fr s td z = if movP L last fr s td z = 0 ∧ (roomRE L (inR L fr s) td z).1 = false then withL (if inR L td z = 0 then L else cutL L (inR L td z)) (movX L (inR L fr s) td z) else L) := qh rfl
 have HCS : Hid (cutS L td z = if cutRE L td z = 0 then cutL L (inR L td z) else L) := qh rfl
 have HON := qh (inR_le hG td z).1
 have HUP := qh (fun m => (node_of hG m))
 have HLEN := qh hl
 have HRE := qh z5
 have HATK := qh (fun m => (r07_at L m last (by omega)).rounds)
 unfold movX at HS
 rw [z1] at hk1
 rw [z2] at hk2
 rw [z4] at hk4
 have HD1 := qh (fun W h => linhayref07_dir.calls k1 A c L last fr _ W h hle hk1)
 have HD2 := qh (fun W h => linhayref07_dir.calls k2 A c L last td _ W h hle hk2)
 have HCK := qh (fun W => linhayref03_Check.calls k4 z _ W hk4)
 have HN0 := qh z3
 have HKI := qh hki
 generalize insV L last td (inR L fr s) = iv at *
 generalize movM L last fr s td z = SS at *
 generalize movP L last fr s td z = re at *
 generalize roomRE L (inR L fr s) td z = rm at *
 generalize cutS L td z = cs at *
 generalize cutRE L td z = ce at *
 generalize atR L (inR L td z) = y at *
 generalize atR L (inR L fr s) = q at *
 generalize inR L td z = o at *
 generalize inR L fr s = n at *
 obtain ⟨p0, p1, p2, p3, p4⟩ := q
 obtain ⟨y0, y1, y2, y3, y4⟩ := y
 simp only [] at HAT HAO HWI HS HRM HRE
 have HKN : Hid (p3 = 1) := qh hf
 have HLE := qh hle
 clear hf hC q1 q2 q3 hk1 hk2 hk3 hk4 hk5 hka hko hki z1 z2 z3 z4 z5 he hG hM hl
 go_enter Tryz.func109, Tryz.ntmps109
 go_upto_region 1 with (fail)
 generalize (w.alloc (.cells #[.slice A L.length c, .int .i64 last] 30)).alloc (.cells #[.slice none 0 0, .int .i64 0] 30) = w2 at HK ⊢
 have HR1 := qh HK.out.1
 have HR2 := qh HK.out.2.1
 have HB2 := qh HK.out.2.2
 clear HK
 generalize hb0 : w.heap.size = b at HR1 HR2 ⊢
 have HW0 := qh hb0
 clear hb0
 have HX := qh (two_boxes HR1.out HR2.out)
 have HCT := qh (c_later HC.out HB2.out)
 have HBi := qh (Below.refl w2.heap.size w2)
 obtain ⟨⟨x0, x1⟩, ⟨r0, r1⟩, f0, f1⟩ := HX.out _ HBi.out
 go_upto_region 3 with (go_at_call 103; refine (HD1.out _ (HCT.out _ HBi.out)).mono ?_; rintro e w3 ⟨rfl, hb⟩; have HB3 := qh (HBi.out.trans (hb.mono HBi.out.size)); clear hb; clear x0 x1 r0 r1 f0 f1; obtain ⟨⟨x0, x1⟩, ⟨r0, r1⟩, f0, f1⟩ := HX.out _ HB3.out)
 go_upto_region 4 with (go_at_call 103; refine (HD2.out _ (HCT.out _ HB3.out)).mono ?_; rintro e w4 ⟨rfl, hb⟩; have HB4 := qh (HB3.out.trans (hb.mono HB3.out.size)); clear hb; clear x0 x1 r0 r1 f0 f1; obtain ⟨⟨x0, x1⟩, ⟨r0, r1⟩, f0, f1⟩ := HX.out _ HB4.out)
 have b0 : (n == 0) = false := beq_eq_false_iff_ne.2 HN0.out
 go_upto_region 7 with (go_at_call 105; refine (HI.out _ (HCT.out _ HB4.out)).mono ?_; rintro e w5 ⟨rfl, hb⟩; have HB5 := qh (HB4.out.trans (hb.mono HB4.out.size)); clear hb; clear x0 x1 r0 r1 f0 f1; obtain ⟨⟨x0, x1⟩, ⟨r0, r1⟩, f0, f1⟩ := HX.out _ HB5.out)
 go_upto_region 9 with (go_at_call 104; refine (HCK.out _).mono ?_; rintro e w6 ⟨rfl, hd⟩; have HB6 := qh (HB5.out.trans (hd.below.mono HB5.out.size)); clear hd; clear x0 x1 r0 r1 f0 f1; obtain ⟨⟨x0, x1⟩, ⟨r0, r1⟩, f0, f1⟩ := HX.out _ HB6.out)
 go_upto_region 12 with (go_at_call 68; refine (HAT.out _ (HCT.out _ HB6.out)).mono ?_; rintro e w7 ⟨rfl, hb⟩; have HB7 := qh (HB6.out.trans (hb.mono HB6.out.size)); clear hb x0 x1 r0 r1 f0 f1)
 have HB8 := qh (HB7.out.alloc HB7.out.size (.cells #[.int .i64 p0, .int .i64 p1, .string p2, .int .i64 p3, .string p4] 106))
 have H8 := qh (heap_alloc_new w7 (.cells #[.int .i64 p0, .int .i64 p1, .string p2, .int .i64 p3, .string p4] 106))
 generalize w7.alloc (.cells #[.int .i64 p0, .int .i64 p1, .string p2, .int .i64 p3, .string p4] 106) = w8 at HB8 H8 ⊢
 have HG8 := qh HB7.out.size
 generalize w7.heap.size = g at H8 HG8 ⊢
 have HY := qh (fun (W : World) (hb : Below w8.heap.size w8 W) => (hb.block _ (blk_lt H8.out)).trans H8.out)
 obtain ⟨⟨x0, x1⟩, ⟨r0, r1⟩, f0, f1⟩ := HX.out _ HB8.out
 obtain ⟨-, -, -, t3, -⟩ := node_cells H8.out
 clear HD1 HD2 HI HCK HAT
 have b3 : (p3 == 1) = true := beq_iff_eq.2 HKN.out
 have b3' : (p3 != 1) = false := bne_eq_false_iff_eq.2 HKN.out
 go_wp2
 go_loopg [15] ki (fun kq v15 wr => ∃ m : Int, v15 = .int .i64 m ∧ Aside0 (insF (trOf L last) kq m n = some bi) ∧ Aside0 (Below w8.heap.size w8 wr))
 case atStart => exact ⟨td, rfl, qa HKI.out, qa (Below.refl _ _)⟩
 case round =>
  obtain ⟨m, rfl, HQ, HE⟩ := hrel
  clear HKI
  have HEr := qh HE.out
  have HBr := qh (HB8.out.trans (HE.out.mono HB8.out.size))
  clear HE x0 x1 r0 r1 f0 f1 t3
  obtain ⟨⟨x0, x1⟩, ⟨r0, r1⟩, f0, f1⟩ := HX.out _ HBr.out
  obtain ⟨-, -, -, t3, -⟩ := node_cells (HY.out _ HEr.out)
  cases gk with
  | zero => exact absurd HQ.out (by simp [insF])
  | succ k1 =>
  have hq := HQ.out
  clear HQ
  unfold insF at hq
  by_cases h1 : m = n
  ·
   subst h1
   rw [if_pos rfl] at hq
   have hq := Option.some.inj hq
   subst hq
   have hre : re = 14 := by rw [HRE.out, if_pos ⟨HKN.out, HIV.out⟩]
   have hSS : SS = L := by rw [HS.out, if_neg (fun e => by rw [hre] at e; cases e.1)]
   have HRS := qh (And.intro hre hSS)
   clear hre hSS HS HRE HRM HWI HCUT HAO HI2 HATK HUP HIV
   go_wp2
   obtain ⟨hre, hSS⟩ := HRS.out
   obtain ⟨hT, hB9, -⟩ := fin3 (.slice A L.length c) (.int .i64 last) HR2.out HB2.out HBr.out HW0.out
   generalize (wr.setCell ⟨b + 1, 0, none⟩ (.slice A L.length c)).setCell ⟨b + 1, 1, none⟩ (.int .i64 last) = w9 at hT hB9 ⊢
   obtain ⟨t0, t1⟩ := hT
   refine bodyPost_ret (v := .tuple #[.agg #[.slice A L.length c, .int .i64 last], .int .i64 14]) (by simp [results, Tryz.results109, go_sem, t0, t1, hu30]) rfl ⟨.agg #[.slice A L.length c, .int .i64 last], by rw [hre], by rw [hSS]; exact ⟨A, c, rfl, hle, Kd.C_below HC.out hB9⟩, hB9⟩
  ·
   rw [if_neg h1] at hq
   have b1 : (m == n) = false := beq_eq_false_iff_ne.2 h1
   by_cases h2 : m = 1
   ·
    subst h2
    rw [if_pos rfl] at hq
    have hq := Option.some.inj hq
    subst hq
    have HRE1 : Hid (re = if rm.1 = true then 0 else rm.2) := qh (by rw [HRE.out, if_neg (fun e => by rw [HIV.out] at e; cases e.2)])
    clear HRE HIV HATK HUP h1
    go_upto_region 19 with (go_at_call 105; refine (HI2.out _ (HCT.out _ HBr.out)).mono ?_; rintro e w9 ⟨rfl, hb⟩; have HB9 := qh (HBr.out.trans (hb.mono HBr.out.size)); have HE9 := qh (HEr.out.trans (hb.mono HEr.out.size)); clear hb x0 x1 r0 r1 f0 f1; obtain ⟨⟨x0, x1⟩, ⟨r0, r1⟩, f0, f1⟩ := HX.out _ HB9.out)
    by_cases c1 : o = n
    ·
     have hrm : rm = (true, 0) := by rw [HRM.out, if_neg (by rw [c1]; exact HN0.out), if_pos c1]
     have hre : re = 0 := by rw [HRE1.out, hrm]; rfl
     have hSS : SS = L := by rw [HS.out, if_neg (fun e => by rw [hrm] at e; cases e.2)]
     have HRS := qh (And.intro hre hSS)
     clear hre hSS hrm HS HRE1 HRM HWI HCUT HAO
     have b1 : (o == n) = true := beq_iff_eq.2 c1
     clear c1
     go_wp2
     obtain ⟨hre, hSS⟩ := HRS.out
     obtain ⟨hT, hB9, -⟩ := fin3 (.slice A L.length c) (.int .i64 last) HR2.out HB2.out HB9.out HW0.out
     generalize (w9.setCell ⟨b + 1, 0, none⟩ (.slice A L.length c)).setCell ⟨b + 1, 1, none⟩ (.int .i64 last) = w9 at hT hB9 ⊢
     obtain ⟨t0, t1⟩ := hT
     refine bodyPost_ret (v := .tuple #[.agg #[.slice A L.length c, .int .i64 last], .int .i64 0]) (by simp [results, Tryz.results109, go_sem, t0, t1, hu30]) rfl ⟨.agg #[.slice A L.length c, .int .i64 last], by rw [hre], by rw [hSS]; exact ⟨A, c, rfl, hle, Kd.C_below HC.out hB9⟩, hB9⟩
    ·
     have b1 : (o == n) = false := beq_eq_false_iff_ne.2 c1
     by_cases c2 : o = 0
     ·
      have hrm : rm = (false, 0) := by rw [HRM.out, if_pos c2]
      have hre : re = 0 := by rw [HRE1.out, hrm]; rfl
      have hSS : SS = withL L ⟨p0, td, z, p3, p4⟩ := by rw [HS.out, if_pos ⟨hre, by rw [hrm]⟩, if_pos c2]
      have HRS := qh (And.intro hre hSS)
      have d1 : ¬ (0 : Int) < o := by omega
      clear hre hSS hrm HS HRE1 HRM HCUT HAO c1 c2
      go_upto_region 31 with (fail)
      have g1 := blk_lt (HY.out _ HE9.out)
      obtain ⟨t0, t1, t2, t3, t4⟩ := node_cells (HY.out _ HE9.out)
      have v1 := blk_frozen (HY.out _ HE9.out) 1
      go_upto_region 32 with (fail)
      obtain ⟨hn1, hn2⟩ := node_set (.int .i64 td) (.string z) (HY.out _ HE9.out)
      have HN1 := qh hn1
      have HN2 := qh hn2
      have HB10 := qh (HB9.out.setCell (p := ⟨g, 1, none⟩) HG8.out (.int .i64 td))
      have HB11 := qh (HB10.out.setCell (p := ⟨g, 2, none⟩) HG8.out (.string z))
      clear hn1 hn2 g1 t0 t1 t2 t3 t4 v1 x0 x1 r0 r1 f0 f1
      have v2 := blk_frozen HN1.out 2
      obtain ⟨t0, t1, t2, t3, t4⟩ := node_cells HN1.out
      go_upto_region 33 with (fail)
      clear t0 t1 t2 t3 t4 v2
      generalize (w9.setCell ⟨g, 1, none⟩ (.int .i64 td)).setCell ⟨g, 2, none⟩ (.string z) = w11 at HB11 HN2 ⊢
      clear HB10 HN1
      obtain ⟨⟨x0, x1⟩, ⟨r0, r1⟩, f0, f1⟩ := HX.out _ HB11.out
      obtain ⟨t0, t1, t2, t3, t4⟩ := node_cells HN2.out
      go_wp2_with (go_at_call 145; refine (HWI.out L _ _ ⟨A, c, rfl, hle, HCT.out _ HB11.out⟩ (by have := HLEN.out; omega)).mono ?_; rintro e w12 ⟨A7, c7, rfl, hb7, B7, hB7, hR7⟩; have HB12 := qh (HB11.out.trans (hb7.mono HB11.out.size)); have HR7 := qh hR7; have HBB := qh (Nat.lt_of_le_of_lt HB11.out.size hB7); clear hR7 hB7 hb7 x0 x1 r0 r1 f0 f1; obtain ⟨⟨x0, x1⟩, ⟨r0, r1⟩, f0, f1⟩ := HX.out _ HB12.out)
      have hlt2 := blk_lt HR2.out
      have hRR := Kd.R_reads (rfar2 (u := .slice A7 L.length c7) (u' := .int .i64 last) HR7.out (show b + 1 < B7 by have := HBB.out; omega))
      obtain ⟨hre, hSS⟩ := HRS.out
      obtain ⟨hT, hB9, -⟩ := fin3 (.slice A7 L.length c7) (.int .i64 last) HR2.out HB2.out HB12.out HW0.out
      generalize (w12.setCell ⟨b + 1, 0, none⟩ (.slice A7 L.length c7)).setCell ⟨b + 1, 1, none⟩ (.int .i64 last) = w9 at hT hB9 hRR ⊢
      obtain ⟨t0, t1⟩ := hT
      refine bodyPost_ret (v := .tuple #[.agg #[.slice A7 L.length c7, .int .i64 last], .int .i64 0]) (by simp [results, Tryz.results109, go_sem, t0, t1, hu30]) rfl ⟨.agg #[.slice A7 L.length c7, .int .i64 last], by rw [hre], by rw [hSS]; exact (by obtain ⟨A9, c9, e9, h9, hC9⟩ := hRR; rw [withL_len] at e9; exact ⟨A9, c9, by rw [e9, withL_len], h9, hC9⟩), hB9⟩
     ·
      have d1 : (0 : Int) < o := by have := HON.out; omega
      have hrm : rm = if y3 = 1 ∧ p3 ≠ 1 then (false, 8) else if p3 = 1 ∧ y3 ≠ 1 then (false, 7) else (false, ce) := by rw [HRM.out, if_neg c2, if_neg c1]
      have HRM1 := qh hrm
      clear hrm HRM
      go_upto_region 23 with (go_at_call 68; refine (HAO.out _ (HCT.out _ HB9.out)).mono ?_; rintro e w10 ⟨rfl, hb⟩; have HB10 := qh (HB9.out.trans (hb.mono HB9.out.size)); have HE10 := qh (HE9.out.trans (hb.mono HE9.out.size)); clear hb x0 x1 r0 r1 f0 f1)
      have HBa := qh (HB10.out.alloc HB10.out.size (.cells #[.int .i64 y0, .int .i64 y1, .string y2, .int .i64 y3, .string y4] 106))
      have HEa := qh (HE10.out.alloc HE10.out.size (.cells #[.int .i64 y0, .int .i64 y1, .string y2, .int .i64 y3, .string y4] 106))
      have Ha := qh (heap_alloc_new w10 (.cells #[.int .i64 y0, .int .i64 y1, .string y2, .int .i64 y3, .string y4] 106))
      generalize w10.alloc (.cells #[.int .i64 y0, .int .i64 y1, .string y2, .int .i64 y3, .string y4] 106) = wa at HBa HEa Ha ⊢
      generalize w10.heap.size = ga at Ha ⊢
      clear HB10 HE10
      obtain ⟨⟨x0, x1⟩, ⟨r0, r1⟩, f0, f1⟩ := HX.out _ HBa.out
      obtain ⟨-, -, -, t3, -⟩ := node_cells (HY.out _ HEa.out)
      obtain ⟨-, -, -, s3, -⟩ := node_cells Ha.out
      by_cases c3 : y3 ≠ 1
      ·
       have hrm : rm = (false, 7) := by rw [HRM1.out, if_neg (fun e => c3 e.1), if_pos ⟨HKN.out, c3⟩]
       have hre : re = 7 := by rw [HRE1.out, hrm]; rfl
       have hSS : SS = L := by rw [HS.out, if_neg (fun e => by rw [hre] at e; cases e.1)]
       have HRS := qh (And.intro hre hSS)
       clear hre hSS hrm HS HRE1 HRM1 HWI HCUT
       have b4 : (y3 == 1) = false := beq_eq_false_iff_ne.2 c3
       have b5 : (y3 != 1) = true := bne_iff_ne.2 c3
       clear c3
       go_wp2
       obtain ⟨hre, hSS⟩ := HRS.out
       obtain ⟨hT, hB9, -⟩ := fin3 (.slice A L.length c) (.int .i64 last) HR2.out HB2.out HBa.out HW0.out
       generalize (wa.setCell ⟨b + 1, 0, none⟩ (.slice A L.length c)).setCell ⟨b + 1, 1, none⟩ (.int .i64 last) = w9 at hT hB9 ⊢
       obtain ⟨t0, t1⟩ := hT
       refine bodyPost_ret (v := .tuple #[.agg #[.slice A L.length c, .int .i64 last], .int .i64 7]) (by simp [results, Tryz.results109, go_sem, t0, t1, hu30]) rfl ⟨.agg #[.slice A L.length c, .int .i64 last], by rw [hre], by rw [hSS]; exact ⟨A, c, rfl, hle, Kd.C_below HC.out hB9⟩, hB9⟩
      ·
       have c3 : y3 = 1 := Decidable.byContradiction c3
       have hrm : rm = (false, ce) := by rw [HRM1.out, if_neg (fun e => e.2 HKN.out), if_neg (fun e => e.2 c3)]
       have HRM2 := qh hrm
       clear hrm HRM1
       subst c3
       go_upto_region 28 with (go_at_call 108; refine (HCUT.out _ ⟨A, c, rfl, hle, HCT.out _ HBa.out⟩).mono ?_; rintro e wb ⟨vb, rfl, hRb, hb, hOwn⟩; obtain ⟨Ab, cb, rfl, hlb, hCb⟩ := hRb; have HBb := qh (HBa.out.trans (hb.mono HBa.out.size)); have HEb := qh (HEa.out.trans (hb.mono HEa.out.size)); have HOW := qh hOwn; have HSZ := qh hb.size; clear hb hlb hCb hOwn x0 x1 r0 r1 f0 f1 t3 s3)
       have HBc := qh (HBb.out.alloc HBb.out.size (.cells #[.slice Ab cs.length cb, .int .i64 last] 30))
       have HEc := qh (HEb.out.alloc HEb.out.size (.cells #[.slice Ab cs.length cb, .int .i64 last] 30))
       have Hc := qh (heap_alloc_new wb (.cells #[.slice Ab cs.length cb, .int .i64 last] 30))
       by_cases c4 : ce = 0
       ·
        have hre : re = 0 := by rw [HRE1.out, HRM2.out, c4]; rfl
        have hSS : SS = withL (cutL L o) ⟨p0, td, z, p3, p4⟩ := by rw [HS.out, if_pos ⟨hre, by rw [HRM2.out]⟩, if_neg (fun e => by omega)]
        have HRS := qh (And.intro hre hSS)
        subst c4
        obtain ⟨A9, c9, B9, e9, hB9, hR9⟩ := HOW.out rfl
        have hcs : cs = cutL L o := by rw [HCS.out, if_pos rfl]
        have hML : (cutL L o).length ≤ 1000000 := Nat.le_trans (List.length_filter_le _ _) (by have := HLEN.out; omega)
        subst hcs
        cases e9
        have HR9 := qh (Kd.R_alloc hR9 (.cells #[.slice Ab (cutL L o).length cb, .int .i64 last] 30))
        have HM9 := qh hML
        have hgb : b + 1 < w2.heap.size := blk_lt HR2.out
        have hgg := HG8.out
        have HBB9 := qh (show b < B9 ∧ g < B9 ∧ g ≠ b ∧ b ≠ g ∧ b + 1 ≠ b ∧ b + 1 ≠ g by
         have := HBa.out.size
         have := blk_lt (HY.out _ HEa.out)
         refine ⟨by omega, by omega, by omega, by omega, by omega, by omega⟩)
        clear hre hSS HS HRE1 HRM2 HOW HCS HCUT hR9 hB9 hML hgb hgg
        generalize wb.alloc (.cells #[.slice Ab (cutL L o).length cb, .int .i64 last] 30) = wc at HBc HEc Hc HR9 ⊢
        generalize wb.heap.size = gc at Hc ⊢
        generalize cutL L o = M at *
        obtain ⟨⟨m0, m1⟩, -, -⟩ := box_cells Hc.out
        have eb := (HBc.out.block _ (blk_lt HR1.out)).trans HR1.out
        have er := (HBc.out.block _ (blk_lt HR2.out)).trans HR2.out
        have eg := HY.out _ HEc.out
        obtain ⟨⟨x0, x1⟩, f0, f1⟩ := box_cells eb
        have HEB := qh (two_set (u0 := .slice Ab M.length cb) (u1 := .int .i64 last) eb)
        have HER := qh (two_other (u0 := .slice Ab M.length cb) (u1 := .int .i64 last) (i0 := 0) (i1 := 1) HBB9.out.2.2.2.2.1 er)
        have HEG := qh (two_other (u0 := .slice Ab M.length cb) (u1 := .int .i64 last) (i0 := 0) (i1 := 1) HBB9.out.2.2.1 eg)
        have HRd := qh (rfar2 (b := b) (u := .slice Ab M.length cb) (u' := .int .i64 last) HR9.out HBB9.out.1)
        have HBd := qh (((HB2.out.trans (HBc.out.mono HB2.out.size)).setCell (p := ⟨b, 0, none⟩) (by rw [HW0.out]; exact Nat.le_refl b) (.slice Ab M.length cb)).setCell (p := ⟨b, 1, none⟩) (by rw [HW0.out]; exact Nat.le_refl b) (.int .i64 last))
        clear eb er eg HBa HBb HEa HEb
        go_upto_region 31 with (fail)
        clear f0 f1 m0 m1 x0 x1
        generalize (wc.setCell ⟨b, 0, none⟩ (.slice Ab M.length cb)).setCell ⟨b, 1, none⟩ (.int .i64 last) = wd at HEB HER HEG HRd HBd ⊢
        obtain ⟨hn1, hn2⟩ := node_set (.int .i64 td) (.string z) HEG.out
        have HN1 := qh hn1
        have HN2 := qh hn2
        have HEB2 := qh (two_other (u0 := .int .i64 td) (u1 := .string z) (i0 := 1) (i1 := 2) HBB9.out.2.2.2.1 HEB.out)
        have HER2 := qh (two_other (u0 := .int .i64 td) (u1 := .string z) (i0 := 1) (i1 := 2) HBB9.out.2.2.2.2.2 HER.out)
        have HRe := qh (rfar12 (b := g) (u := .int .i64 td) (u' := .string z) HRd.out HBB9.out.2.1)
        have hgw : w.heap.size ≤ g := Nat.le_trans HB2.out.size HG8.out
        have HBe := qh ((HBd.out.setCell (p := ⟨g, 1, none⟩) hgw (.int .i64 td)).setCell (p := ⟨g, 2, none⟩) hgw (.string z))
        clear hn1 hn2 hgw
        have v1 := blk_frozen HEG.out 1
        obtain ⟨t0, t1, t2, t3, t4⟩ := node_cells HEG.out
        go_upto_region 32 with (fail)
        clear v1 t0 t1 t2 t3 t4
        have v2 := blk_frozen HN1.out 2
        obtain ⟨t0, t1, t2, t3, t4⟩ := node_cells HN1.out
        go_upto_region 33 with (fail)
        clear t0 t1 t2 t3 t4 v2 HN1 HEB HER HEG HRd HBd
        generalize (wd.setCell ⟨g, 1, none⟩ (.int .i64 td)).setCell ⟨g, 2, none⟩ (.string z) = we at HN2 HEB2 HER2 HRe HBe ⊢
        obtain ⟨⟨x0, x1⟩, -, -⟩ := box_cells HEB2.out
        obtain ⟨t0, t1, t2, t3, t4⟩ := node_cells HN2.out
        obtain ⟨Ae, ce', ee, hle', hCe⟩ := Kd.R_reads HRe.out
        cases ee
        have HRT : Hid (RAt we (.agg #[.slice Ab M.length cb, .int .i64 last]) M last) := qh ⟨Ab, cb, rfl, hle', hCe⟩
        clear hle' hCe
        go_wp2_with (go_at_call 145; refine (HWI.out M _ _ HRT.out HM9.out).mono ?_; rintro e w12 ⟨A7, c7, rfl, hb7, B7, hB7, hR7⟩; have HB12 := qh hb7; have HR7 := qh hR7; have HBB := qh hB7; clear hR7 hB7 hb7 x0 x1; have er := (HB12.out.block _ (blk_lt HER2.out)).trans HER2.out; obtain ⟨⟨r0, r1⟩, f0, f1⟩ := box_cells er; have HER3 := qh er; clear er)
        have hlt2 := blk_lt HER2.out
        have hRR := Kd.R_reads (rfar2 (b := b + 1) (u := .slice A7 M.length c7) (u' := .int .i64 last) HR7.out (show b + 1 < B7 by have := HBB.out; omega))
        obtain ⟨hre, hSS⟩ := HRS.out
        have hT := res_cells (.slice A7 M.length c7) (.int .i64 last) HER3.out
        have hB9 : Below w.heap.size w ((w12.setCell ⟨b + 1, 0, none⟩ (.slice A7 M.length c7)).setCell ⟨b + 1, 1, none⟩ (.int .i64 last)) := ((HBe.out.trans (HB12.out.mono HBe.out.size)).setCell (p := ⟨b + 1, 0, none⟩) (by rw [HW0.out]; exact Nat.le_succ b) (.slice A7 M.length c7)).setCell (p := ⟨b + 1, 1, none⟩) (by rw [HW0.out]; exact Nat.le_succ b) (.int .i64 last)
        generalize (w12.setCell ⟨b + 1, 0, none⟩ (.slice A7 M.length c7)).setCell ⟨b + 1, 1, none⟩ (.int .i64 last) = w9' at hT hB9 hRR ⊢
        obtain ⟨t0, t1⟩ := hT
        refine bodyPost_ret (v := .tuple #[.agg #[.slice A7 M.length c7, .int .i64 last], .int .i64 0]) (by simp [results, Tryz.results109, go_sem, t0, t1, hu30]) rfl ⟨.agg #[.slice A7 M.length c7, .int .i64 last], by rw [hre], by rw [hSS]; exact (by obtain ⟨A9, c9, e9, h9, hC9⟩ := hRR; rw [withL_len] at e9; exact ⟨A9, c9, by rw [e9, withL_len], h9, hC9⟩), hB9⟩
       ·
        have hre : re = ce := by rw [HRE1.out, HRM2.out]; rfl
        have hSS : SS = L := by rw [HS.out, if_neg (fun e => c4 (hre.symm.trans e.1))]
        have HRS := qh (And.intro hre hSS)
        have b6 : (ce != 0) = true := bne_iff_ne.2 c4
        clear hre hSS HS HRE1 HRM2 HOW HCS HCUT HWI c4
        generalize wb.alloc (.cells #[.slice Ab cs.length cb, .int .i64 last] 30) = wc at HBc HEc Hc ⊢
        generalize wb.heap.size = gc at Hc ⊢
        clear HBa HBb HEa HEb
        obtain ⟨⟨x0, x1⟩, ⟨r0, r1⟩, f0, f1⟩ := HX.out _ HBc.out
        go_wp2
        obtain ⟨hre, hSS⟩ := HRS.out
        obtain ⟨hT, hB9, -⟩ := fin3 (.slice A L.length c) (.int .i64 last) HR2.out HB2.out HBc.out HW0.out
        generalize (wc.setCell ⟨b + 1, 0, none⟩ (.slice A L.length c)).setCell ⟨b + 1, 1, none⟩ (.int .i64 last) = w9 at hT hB9 ⊢
        obtain ⟨t0, t1⟩ := hT
        refine bodyPost_ret (v := .tuple #[.agg #[.slice A L.length c, .int .i64 last], .int .i64 ce]) (by simp [results, Tryz.results109, go_sem, t0, t1, hu30]) rfl ⟨.agg #[.slice A L.length c, .int .i64 last], by rw [hre], by rw [hSS]; exact ⟨A, c, rfl, hle, Kd.C_below HC.out hB9⟩, hB9⟩
   ·
    rw [if_neg h2, HUP.out m] at hq
    simp only [] at hq
    have b2 : (m == 1) = false := beq_eq_false_iff_ne.2 h2
    obtain ⟨km, hkm⟩ := HATK.out m
    have HAM := qh (fun W h => linhayref07_At.calls km A c L last m _ _ _ _ _ W h HLE.out hkm)
    have HQ2 := qa hq
    clear hq hkm h1 h2 HATK HUP HWI HCUT HAO HI2 HRM HS HRE HIV
    generalize atR L m = am at *
    obtain ⟨a0, a1, a2, a3, a4⟩ := am
    simp only [] at HAM HQ2
    go_wp2_with (go_at_call 68; refine (HAM.out _ (HCT.out _ HBr.out)).mono ?_; rintro e w9 ⟨rfl, hb⟩; have HE9 := qa (HEr.out.trans (hb.mono HEr.out.size)); clear hb x0 x1 r0 r1 f0 f1 t3)
    go_roundg k1
    case rel => exact ⟨a1, rfl, HQ2, HE9⟩
    case measure => exact Nat.lt_succ_self _
theorem rmove_file (L : List RN) (last : Int) (v : Value) (fr : Int) (s : ByteArray) (td : Int) (z : ByteArray) (w : World) (h : RAt w v L last) (hG : GoodL L last) (hM : GoodM L) (he : preE L fr s td z = 0) (hf : (atR L (inR L fr s)).f3 ≠ 1) :
  Calls Tryz.prog 109 #[v, .int .i64 fr, .string s, .int .i64 td, .string z] w fun e w' => ∃ v', e = .returned (.tuple #[v', .int .i64 (movP L last fr s td z)]) ∧ RAt w' v' (movM L last fr s td z) last ∧ Below w.heap.size w w' := by
 obtain ⟨A, c, rfl, hle, hC⟩ := h
 have hl := hG.len
 have hu30 := Tryz.underlying30
 have hu106 := Tryz.underlying106
 obtain ⟨k1, hk1⟩ := (r07_dir L fr last (by omega)).rounds
 obtain ⟨k2, hk2⟩ := (r07_dir L td last (by omega)).rounds
 obtain ⟨k3, hk3⟩ := (r07_in L fr last s (by omega)).rounds
 obtain ⟨k4, hk4⟩ := (r03_check z).rounds
 have HD1 := qh (fun W h => linhayref07_dir.calls k1 A c L last fr _ W h hle hk1)
 have HD2 := qh (fun W h => linhayref07_dir.calls k2 A c L last td _ W h hle hk2)
 have HI := qh (fun W h => linhayref07_In.calls k3 A c L last fr s _ W h hle hk3)
 have HCK := qh (fun W => linhayref03_Check.calls k4 z _ W hk4)
 obtain ⟨q1, q2, q3⟩ := two_blocks w (.cells #[.slice A L.length c, .int .i64 last] 30) (.cells #[.slice none 0 0, .int .i64 0] 30)
 have HK := qh (And.intro q1 (And.intro q2 q3))
 have HC := qh hC
 obtain ⟨z1, z2, z3, z4, z5⟩ := movP_post (last := last) he
 obtain ⟨ka, hka⟩ := (r07_at L (inR L fr s) last (by omega)).rounds
 obtain ⟨ko, hko⟩ := (r07_at L (inR L td z) last (by omega)).rounds
 obtain ⟨k5, hk5⟩ := (r07_in L td last z (by omega)).rounds
 obtain ⟨ki, bi, hki⟩ := ins_ex hG hM (inR L fr s) td (by rw [dirE_zero z2]; decide)
 have HIV : Hid (insV L last td (inR L fr s) = bi) := qh (by
  cases bi with
  | true => exact insV_true ⟨ki, hki⟩
  | false =>
   refine insV_false ?_
   rintro ⟨k', hk'⟩
   have := insF_det hki hk'
   cases this)
 have HAT := qh (fun W h => linhayref07_At.calls ka A c L last (inR L fr s) _ _ _ _ _ W h hle hka)
 have HAO := qh (fun W h => linhayref07_At.calls ko A c L last (inR L td z) _ _ _ _ _ W h hle hko)
 have HI2 := qh (fun W h => linhayref07_In.calls k5 A c L last td z _ W h hle hk5)
 have HCUT := qh (fun W h => rcut_calls L last (.agg #[.slice A L.length c, .int .i64 last]) td z W h hG)
 have HWI := qh (fun L' v W h hl => rwith_own L' last v (movX L (inR L fr s) td z) W h hl)
 unfold movX at HWI
 simp only [] at HWI
 have HRM : Hid (roomRE L (inR L fr s) td z = if inR L td z = 0 then (false, 0) else if inR L td z = inR L fr s then (true, 0) else if (atR L (inR L td z)).f3 = 1 ∧ (atR L (inR L fr s)).f3 ≠ 1 then (false, 8) else if (atR L (inR L fr s)).f3 = 1 ∧ (atR L (inR L td z)).f3 ≠ 1 then (false, 7) else (false, cutRE L td z)) := qh rfl
 have HS : Hid (movM L last fr s td z = if movP L last fr s td z = 0 ∧ (roomRE L (inR L fr s) td z).1 = false then withL (if inR L td z = 0 then L else cutL L (inR L td z)) (movX L (inR L fr s) td z) else L) := qh rfl
 have HCS : Hid (cutS L td z = if cutRE L td z = 0 then cutL L (inR L td z) else L) := qh rfl
 have HON := qh (inR_le hG td z).1
 have HUP := qh (fun m => (node_of hG m))
 have HLEN := qh hl
 have HRE := qh z5
 have HATK := qh (fun m => (r07_at L m last (by omega)).rounds)
 unfold movX at HS
 rw [z1] at hk1
 rw [z2] at hk2
 rw [z4] at hk4
 have HD1 := qh (fun W h => linhayref07_dir.calls k1 A c L last fr _ W h hle hk1)
 have HD2 := qh (fun W h => linhayref07_dir.calls k2 A c L last td _ W h hle hk2)
 have HCK := qh (fun W => linhayref03_Check.calls k4 z _ W hk4)
 have HN0 := qh z3
 have HKI := qh hki
 generalize insV L last td (inR L fr s) = iv at *
 generalize movM L last fr s td z = SS at *
 generalize movP L last fr s td z = re at *
 generalize roomRE L (inR L fr s) td z = rm at *
 generalize cutS L td z = cs at *
 generalize cutRE L td z = ce at *
 generalize atR L (inR L td z) = y at *
 generalize atR L (inR L fr s) = q at *
 generalize inR L td z = o at *
 generalize inR L fr s = n at *
 obtain ⟨p0, p1, p2, p3, p4⟩ := q
 obtain ⟨y0, y1, y2, y3, y4⟩ := y
 simp only [] at HAT HAO HWI HS HRM HRE
 have HKN : Hid (p3 ≠ 1) := qh hf
 clear hf hC q1 q2 q3 hk1 hk2 hk3 hk4 hk5 hka hko hki z1 z2 z3 z4 z5 he hG hM hl
 go_enter Tryz.func109, Tryz.ntmps109
 go_upto_region 1 with (fail)
 generalize (w.alloc (.cells #[.slice A L.length c, .int .i64 last] 30)).alloc (.cells #[.slice none 0 0, .int .i64 0] 30) = w2 at HK ⊢
 have HR1 := qh HK.out.1
 have HR2 := qh HK.out.2.1
 have HB2 := qh HK.out.2.2
 clear HK
 generalize hb0 : w.heap.size = b at HR1 HR2 ⊢
 have HW0 := qh hb0
 clear hb0
 have HX := qh (two_boxes HR1.out HR2.out)
 have HCT := qh (c_later HC.out HB2.out)
 have HBi := qh (Below.refl w2.heap.size w2)
 obtain ⟨⟨x0, x1⟩, ⟨r0, r1⟩, f0, f1⟩ := HX.out _ HBi.out
 go_upto_region 3 with (go_at_call 103; refine (HD1.out _ (HCT.out _ HBi.out)).mono ?_; rintro e w3 ⟨rfl, hb⟩; have HB3 := qh (HBi.out.trans (hb.mono HBi.out.size)); clear hb; clear x0 x1 r0 r1 f0 f1; obtain ⟨⟨x0, x1⟩, ⟨r0, r1⟩, f0, f1⟩ := HX.out _ HB3.out)
 go_upto_region 4 with (go_at_call 103; refine (HD2.out _ (HCT.out _ HB3.out)).mono ?_; rintro e w4 ⟨rfl, hb⟩; have HB4 := qh (HB3.out.trans (hb.mono HB3.out.size)); clear hb; clear x0 x1 r0 r1 f0 f1; obtain ⟨⟨x0, x1⟩, ⟨r0, r1⟩, f0, f1⟩ := HX.out _ HB4.out)
 have b0 : (n == 0) = false := beq_eq_false_iff_ne.2 HN0.out
 go_upto_region 7 with (go_at_call 105; refine (HI.out _ (HCT.out _ HB4.out)).mono ?_; rintro e w5 ⟨rfl, hb⟩; have HB5 := qh (HB4.out.trans (hb.mono HB4.out.size)); clear hb; clear x0 x1 r0 r1 f0 f1; obtain ⟨⟨x0, x1⟩, ⟨r0, r1⟩, f0, f1⟩ := HX.out _ HB5.out)
 go_upto_region 9 with (go_at_call 104; refine (HCK.out _).mono ?_; rintro e w6 ⟨rfl, hd⟩; have HB6 := qh (HB5.out.trans (hd.below.mono HB5.out.size)); clear hd; clear x0 x1 r0 r1 f0 f1; obtain ⟨⟨x0, x1⟩, ⟨r0, r1⟩, f0, f1⟩ := HX.out _ HB6.out)
 go_upto_region 12 with (go_at_call 68; refine (HAT.out _ (HCT.out _ HB6.out)).mono ?_; rintro e w7 ⟨rfl, hb⟩; have HB7 := qh (HB6.out.trans (hb.mono HB6.out.size)); clear hb x0 x1 r0 r1 f0 f1)
 have HB8 := qh (HB7.out.alloc HB7.out.size (.cells #[.int .i64 p0, .int .i64 p1, .string p2, .int .i64 p3, .string p4] 106))
 have H8 := qh (heap_alloc_new w7 (.cells #[.int .i64 p0, .int .i64 p1, .string p2, .int .i64 p3, .string p4] 106))
 generalize w7.alloc (.cells #[.int .i64 p0, .int .i64 p1, .string p2, .int .i64 p3, .string p4] 106) = w8 at HB8 H8 ⊢
 have HG8 := qh HB7.out.size
 generalize w7.heap.size = g at H8 HG8 ⊢
 have HY := qh (fun (W : World) (hb : Below w8.heap.size w8 W) => (hb.block _ (blk_lt H8.out)).trans H8.out)
 obtain ⟨⟨x0, x1⟩, ⟨r0, r1⟩, f0, f1⟩ := HX.out _ HB8.out
 obtain ⟨-, -, -, t3, -⟩ := node_cells H8.out
 clear HD1 HD2 HI HCK HAT
 have b3 : (p3 == 1) = false := beq_eq_false_iff_ne.2 HKN.out
 have b3' : (p3 != 1) = true := bne_iff_ne.2 HKN.out
 have HRE1 : Hid (re = if rm.1 = true then 0 else rm.2) := qh (by rw [HRE.out, if_neg (fun e => HKN.out e.1)])
 clear HRE HIV HKI HATK HUP
 go_wp2
 go_loopg [15] 0 (fun kq v15 wr => (∃ m : Int, v15 = .int .i64 m) ∧ wr = w8)
 case atStart => exact ⟨⟨_, rfl⟩, rfl⟩
 case round =>
  obtain ⟨⟨m, rfl⟩, rfl⟩ := hrel
  have HBr := qh HB8.out
  have HEr := qh (Below.refl wr.heap.size wr)
  go_upto_region 19 with (go_at_call 105; refine (HI2.out _ (HCT.out _ HBr.out)).mono ?_; rintro e w9 ⟨rfl, hb⟩; have HB9 := qh (HBr.out.trans (hb.mono HBr.out.size)); have HE9 := qh (HEr.out.trans (hb.mono HEr.out.size)); clear hb x0 x1 r0 r1 f0 f1; obtain ⟨⟨x0, x1⟩, ⟨r0, r1⟩, f0, f1⟩ := HX.out _ HB9.out)
  by_cases c1 : o = n
  ·
   have hrm : rm = (true, 0) := by rw [HRM.out, if_neg (by rw [c1]; exact HN0.out), if_pos c1]
   have hre : re = 0 := by rw [HRE1.out, hrm]; rfl
   have hSS : SS = L := by rw [HS.out, if_neg (fun e => by rw [hrm] at e; cases e.2)]
   have HRS := qh (And.intro hre hSS)
   clear hre hSS hrm HS HRE1 HRM HWI HCUT HAO
   have b1 : (o == n) = true := beq_iff_eq.2 c1
   clear c1
   go_wp2
   obtain ⟨hre, hSS⟩ := HRS.out
   obtain ⟨hT, hB9, -⟩ := fin3 (.slice A L.length c) (.int .i64 last) HR2.out HB2.out HB9.out HW0.out
   generalize (w9.setCell ⟨b + 1, 0, none⟩ (.slice A L.length c)).setCell ⟨b + 1, 1, none⟩ (.int .i64 last) = w9 at hT hB9 ⊢
   obtain ⟨t0, t1⟩ := hT
   refine bodyPost_ret (v := .tuple #[.agg #[.slice A L.length c, .int .i64 last], .int .i64 0]) (by simp [results, Tryz.results109, go_sem, t0, t1, hu30]) rfl ⟨.agg #[.slice A L.length c, .int .i64 last], by rw [hre], by rw [hSS]; exact ⟨A, c, rfl, hle, Kd.C_below HC.out hB9⟩, hB9⟩
  ·
   have b1 : (o == n) = false := beq_eq_false_iff_ne.2 c1
   by_cases c2 : o = 0
   ·
    have hrm : rm = (false, 0) := by rw [HRM.out, if_pos c2]
    have hre : re = 0 := by rw [HRE1.out, hrm]; rfl
    have hSS : SS = withL L ⟨p0, td, z, p3, p4⟩ := by rw [HS.out, if_pos ⟨hre, by rw [hrm]⟩, if_pos c2]
    have HRS := qh (And.intro hre hSS)
    have d1 : ¬ (0 : Int) < o := by omega
    clear hre hSS hrm HS HRE1 HRM HCUT HAO c1 c2
    go_upto_region 31 with (fail)
    have g1 := blk_lt (HY.out _ HE9.out)
    obtain ⟨t0, t1, t2, t3, t4⟩ := node_cells (HY.out _ HE9.out)
    have v1 := blk_frozen (HY.out _ HE9.out) 1
    go_upto_region 32 with (fail)
    obtain ⟨hn1, hn2⟩ := node_set (.int .i64 td) (.string z) (HY.out _ HE9.out)
    have HN1 := qh hn1
    have HN2 := qh hn2
    have HB10 := qh (HB9.out.setCell (p := ⟨g, 1, none⟩) HG8.out (.int .i64 td))
    have HB11 := qh (HB10.out.setCell (p := ⟨g, 2, none⟩) HG8.out (.string z))
    clear hn1 hn2 g1 t0 t1 t2 t3 t4 v1 x0 x1 r0 r1 f0 f1
    have v2 := blk_frozen HN1.out 2
    obtain ⟨t0, t1, t2, t3, t4⟩ := node_cells HN1.out
    go_upto_region 33 with (fail)
    clear t0 t1 t2 t3 t4 v2
    generalize (w9.setCell ⟨g, 1, none⟩ (.int .i64 td)).setCell ⟨g, 2, none⟩ (.string z) = w11 at HB11 HN2 ⊢
    clear HB10 HN1
    obtain ⟨⟨x0, x1⟩, ⟨r0, r1⟩, f0, f1⟩ := HX.out _ HB11.out
    obtain ⟨t0, t1, t2, t3, t4⟩ := node_cells HN2.out
    go_wp2_with (go_at_call 145; refine (HWI.out L _ _ ⟨A, c, rfl, hle, HCT.out _ HB11.out⟩ (by have := HLEN.out; omega)).mono ?_; rintro e w12 ⟨A7, c7, rfl, hb7, B7, hB7, hR7⟩; have HB12 := qh (HB11.out.trans (hb7.mono HB11.out.size)); have HR7 := qh hR7; have HBB := qh (Nat.lt_of_le_of_lt HB11.out.size hB7); clear hR7 hB7 hb7 x0 x1 r0 r1 f0 f1; obtain ⟨⟨x0, x1⟩, ⟨r0, r1⟩, f0, f1⟩ := HX.out _ HB12.out)
    have hlt2 := blk_lt HR2.out
    have hRR := Kd.R_reads (rfar2 (u := .slice A7 L.length c7) (u' := .int .i64 last) HR7.out (show b + 1 < B7 by have := HBB.out; omega))
    obtain ⟨hre, hSS⟩ := HRS.out
    obtain ⟨hT, hB9, -⟩ := fin3 (.slice A7 L.length c7) (.int .i64 last) HR2.out HB2.out HB12.out HW0.out
    generalize (w12.setCell ⟨b + 1, 0, none⟩ (.slice A7 L.length c7)).setCell ⟨b + 1, 1, none⟩ (.int .i64 last) = w9 at hT hB9 hRR ⊢
    obtain ⟨t0, t1⟩ := hT
    refine bodyPost_ret (v := .tuple #[.agg #[.slice A7 L.length c7, .int .i64 last], .int .i64 0]) (by simp [results, Tryz.results109, go_sem, t0, t1, hu30]) rfl ⟨.agg #[.slice A7 L.length c7, .int .i64 last], by rw [hre], by rw [hSS]; exact (by obtain ⟨A9, c9, e9, h9, hC9⟩ := hRR; rw [withL_len] at e9; exact ⟨A9, c9, by rw [e9, withL_len], h9, hC9⟩), hB9⟩
   ·
    have d1 : (0 : Int) < o := by have := HON.out; omega
    have hrm : rm = if y3 = 1 ∧ p3 ≠ 1 then (false, 8) else if p3 = 1 ∧ y3 ≠ 1 then (false, 7) else (false, ce) := by rw [HRM.out, if_neg c2, if_neg c1]
    have HRM1 := qh hrm
    clear hrm HRM
    go_upto_region 23 with (go_at_call 68; refine (HAO.out _ (HCT.out _ HB9.out)).mono ?_; rintro e w10 ⟨rfl, hb⟩; have HB10 := qh (HB9.out.trans (hb.mono HB9.out.size)); have HE10 := qh (HE9.out.trans (hb.mono HE9.out.size)); clear hb x0 x1 r0 r1 f0 f1)
    have HBa := qh (HB10.out.alloc HB10.out.size (.cells #[.int .i64 y0, .int .i64 y1, .string y2, .int .i64 y3, .string y4] 106))
    have HEa := qh (HE10.out.alloc HE10.out.size (.cells #[.int .i64 y0, .int .i64 y1, .string y2, .int .i64 y3, .string y4] 106))
    have Ha := qh (heap_alloc_new w10 (.cells #[.int .i64 y0, .int .i64 y1, .string y2, .int .i64 y3, .string y4] 106))
    generalize w10.alloc (.cells #[.int .i64 y0, .int .i64 y1, .string y2, .int .i64 y3, .string y4] 106) = wa at HBa HEa Ha ⊢
    generalize w10.heap.size = ga at Ha ⊢
    clear HB10 HE10
    obtain ⟨⟨x0, x1⟩, ⟨r0, r1⟩, f0, f1⟩ := HX.out _ HBa.out
    obtain ⟨-, -, -, t3, -⟩ := node_cells (HY.out _ HEa.out)
    obtain ⟨-, -, -, s3, -⟩ := node_cells Ha.out
    by_cases c3 : y3 = 1
    ·
     have hrm : rm = (false, 8) := by rw [HRM1.out, if_pos ⟨c3, HKN.out⟩]
     have hre : re = 8 := by rw [HRE1.out, hrm]; rfl
     have hSS : SS = L := by rw [HS.out, if_neg (fun e => by rw [hre] at e; cases e.1)]
     have HRS := qh (And.intro hre hSS)
     clear hre hSS hrm HS HRE1 HRM1 HWI HCUT
     subst c3
     go_wp2
     obtain ⟨hre, hSS⟩ := HRS.out
     obtain ⟨hT, hB9, -⟩ := fin3 (.slice A L.length c) (.int .i64 last) HR2.out HB2.out HBa.out HW0.out
     generalize (wa.setCell ⟨b + 1, 0, none⟩ (.slice A L.length c)).setCell ⟨b + 1, 1, none⟩ (.int .i64 last) = w9 at hT hB9 ⊢
     obtain ⟨t0, t1⟩ := hT
     refine bodyPost_ret (v := .tuple #[.agg #[.slice A L.length c, .int .i64 last], .int .i64 8]) (by simp [results, Tryz.results109, go_sem, t0, t1, hu30]) rfl ⟨.agg #[.slice A L.length c, .int .i64 last], by rw [hre], by rw [hSS]; exact ⟨A, c, rfl, hle, Kd.C_below HC.out hB9⟩, hB9⟩
    ·
     have b4 : (y3 == 1) = false := beq_eq_false_iff_ne.2 c3
     have b5 : (y3 != 1) = true := bne_iff_ne.2 c3
     have hrm : rm = (false, ce) := by rw [HRM1.out, if_neg (fun e => c3 e.1), if_neg (fun e => HKN.out e.1)]
     have HRM2 := qh hrm
     clear hrm HRM1
     clear c3
     go_upto_region 28 with (go_at_call 108; refine (HCUT.out _ ⟨A, c, rfl, hle, HCT.out _ HBa.out⟩).mono ?_; rintro e wb ⟨vb, rfl, hRb, hb, hOwn⟩; obtain ⟨Ab, cb, rfl, hlb, hCb⟩ := hRb; have HBb := qh (HBa.out.trans (hb.mono HBa.out.size)); have HEb := qh (HEa.out.trans (hb.mono HEa.out.size)); have HOW := qh hOwn; have HSZ := qh hb.size; clear hb hlb hCb hOwn x0 x1 r0 r1 f0 f1 t3 s3)
     have HBc := qh (HBb.out.alloc HBb.out.size (.cells #[.slice Ab cs.length cb, .int .i64 last] 30))
     have HEc := qh (HEb.out.alloc HEb.out.size (.cells #[.slice Ab cs.length cb, .int .i64 last] 30))
     have Hc := qh (heap_alloc_new wb (.cells #[.slice Ab cs.length cb, .int .i64 last] 30))
     by_cases c4 : ce = 0
     ·
      have hre : re = 0 := by rw [HRE1.out, HRM2.out, c4]; rfl
      have hSS : SS = withL (cutL L o) ⟨p0, td, z, p3, p4⟩ := by rw [HS.out, if_pos ⟨hre, by rw [HRM2.out]⟩, if_neg (fun e => by omega)]
      have HRS := qh (And.intro hre hSS)
      subst c4
      obtain ⟨A9, c9, B9, e9, hB9, hR9⟩ := HOW.out rfl
      have hcs : cs = cutL L o := by rw [HCS.out, if_pos rfl]
      have hML : (cutL L o).length ≤ 1000000 := Nat.le_trans (List.length_filter_le _ _) (by have := HLEN.out; omega)
      subst hcs
      cases e9
      have HR9 := qh (Kd.R_alloc hR9 (.cells #[.slice Ab (cutL L o).length cb, .int .i64 last] 30))
      have HM9 := qh hML
      have hgb : b + 1 < w2.heap.size := blk_lt HR2.out
      have hgg := HG8.out
      have HBB9 := qh (show b < B9 ∧ g < B9 ∧ g ≠ b ∧ b ≠ g ∧ b + 1 ≠ b ∧ b + 1 ≠ g by
       have := HBa.out.size
       have := blk_lt (HY.out _ HEa.out)
       refine ⟨by omega, by omega, by omega, by omega, by omega, by omega⟩)
      clear hre hSS HS HRE1 HRM2 HOW HCS HCUT hR9 hB9 hML hgb hgg
      generalize wb.alloc (.cells #[.slice Ab (cutL L o).length cb, .int .i64 last] 30) = wc at HBc HEc Hc HR9 ⊢
      generalize wb.heap.size = gc at Hc ⊢
      generalize cutL L o = M at *
      obtain ⟨⟨m0, m1⟩, -, -⟩ := box_cells Hc.out
      have eb := (HBc.out.block _ (blk_lt HR1.out)).trans HR1.out
      have er := (HBc.out.block _ (blk_lt HR2.out)).trans HR2.out
      have eg := HY.out _ HEc.out
      obtain ⟨⟨x0, x1⟩, f0, f1⟩ := box_cells eb
      have HEB := qh (two_set (u0 := .slice Ab M.length cb) (u1 := .int .i64 last) eb)
      have HER := qh (two_other (u0 := .slice Ab M.length cb) (u1 := .int .i64 last) (i0 := 0) (i1 := 1) HBB9.out.2.2.2.2.1 er)
      have HEG := qh (two_other (u0 := .slice Ab M.length cb) (u1 := .int .i64 last) (i0 := 0) (i1 := 1) HBB9.out.2.2.1 eg)
      have HRd := qh (rfar2 (b := b) (u := .slice Ab M.length cb) (u' := .int .i64 last) HR9.out HBB9.out.1)
      have HBd := qh (((HB2.out.trans (HBc.out.mono HB2.out.size)).setCell (p := ⟨b, 0, none⟩) (by rw [HW0.out]; exact Nat.le_refl b) (.slice Ab M.length cb)).setCell (p := ⟨b, 1, none⟩) (by rw [HW0.out]; exact Nat.le_refl b) (.int .i64 last))
      clear eb er eg HBa HBb HEa HEb
      go_upto_region 31 with (fail)
      clear f0 f1 m0 m1 x0 x1
      generalize (wc.setCell ⟨b, 0, none⟩ (.slice Ab M.length cb)).setCell ⟨b, 1, none⟩ (.int .i64 last) = wd at HEB HER HEG HRd HBd ⊢
      obtain ⟨hn1, hn2⟩ := node_set (.int .i64 td) (.string z) HEG.out
      have HN1 := qh hn1
      have HN2 := qh hn2
      have HEB2 := qh (two_other (u0 := .int .i64 td) (u1 := .string z) (i0 := 1) (i1 := 2) HBB9.out.2.2.2.1 HEB.out)
      have HER2 := qh (two_other (u0 := .int .i64 td) (u1 := .string z) (i0 := 1) (i1 := 2) HBB9.out.2.2.2.2.2 HER.out)
      have HRe := qh (rfar12 (b := g) (u := .int .i64 td) (u' := .string z) HRd.out HBB9.out.2.1)
      have hgw : w.heap.size ≤ g := Nat.le_trans HB2.out.size HG8.out
      have HBe := qh ((HBd.out.setCell (p := ⟨g, 1, none⟩) hgw (.int .i64 td)).setCell (p := ⟨g, 2, none⟩) hgw (.string z))
      clear hn1 hn2 hgw
      have v1 := blk_frozen HEG.out 1
      obtain ⟨t0, t1, t2, t3, t4⟩ := node_cells HEG.out
      go_upto_region 32 with (fail)
      clear v1 t0 t1 t2 t3 t4
      have v2 := blk_frozen HN1.out 2
      obtain ⟨t0, t1, t2, t3, t4⟩ := node_cells HN1.out
      go_upto_region 33 with (fail)
      clear t0 t1 t2 t3 t4 v2 HN1 HEB HER HEG HRd HBd
      generalize (wd.setCell ⟨g, 1, none⟩ (.int .i64 td)).setCell ⟨g, 2, none⟩ (.string z) = we at HN2 HEB2 HER2 HRe HBe ⊢
      obtain ⟨⟨x0, x1⟩, -, -⟩ := box_cells HEB2.out
      obtain ⟨t0, t1, t2, t3, t4⟩ := node_cells HN2.out
      obtain ⟨Ae, ce', ee, hle', hCe⟩ := Kd.R_reads HRe.out
      cases ee
      have HRT : Hid (RAt we (.agg #[.slice Ab M.length cb, .int .i64 last]) M last) := qh ⟨Ab, cb, rfl, hle', hCe⟩
      clear hle' hCe
      go_wp2_with (go_at_call 145; refine (HWI.out M _ _ HRT.out HM9.out).mono ?_; rintro e w12 ⟨A7, c7, rfl, hb7, B7, hB7, hR7⟩; have HB12 := qh hb7; have HR7 := qh hR7; have HBB := qh hB7; clear hR7 hB7 hb7 x0 x1; have er := (HB12.out.block _ (blk_lt HER2.out)).trans HER2.out; obtain ⟨⟨r0, r1⟩, f0, f1⟩ := box_cells er; have HER3 := qh er; clear er)
      have hlt2 := blk_lt HER2.out
      have hRR := Kd.R_reads (rfar2 (b := b + 1) (u := .slice A7 M.length c7) (u' := .int .i64 last) HR7.out (show b + 1 < B7 by have := HBB.out; omega))
      obtain ⟨hre, hSS⟩ := HRS.out
      have hT := res_cells (.slice A7 M.length c7) (.int .i64 last) HER3.out
      have hB9 : Below w.heap.size w ((w12.setCell ⟨b + 1, 0, none⟩ (.slice A7 M.length c7)).setCell ⟨b + 1, 1, none⟩ (.int .i64 last)) := ((HBe.out.trans (HB12.out.mono HBe.out.size)).setCell (p := ⟨b + 1, 0, none⟩) (by rw [HW0.out]; exact Nat.le_succ b) (.slice A7 M.length c7)).setCell (p := ⟨b + 1, 1, none⟩) (by rw [HW0.out]; exact Nat.le_succ b) (.int .i64 last)
      generalize (w12.setCell ⟨b + 1, 0, none⟩ (.slice A7 M.length c7)).setCell ⟨b + 1, 1, none⟩ (.int .i64 last) = w9' at hT hB9 hRR ⊢
      obtain ⟨t0, t1⟩ := hT
      refine bodyPost_ret (v := .tuple #[.agg #[.slice A7 M.length c7, .int .i64 last], .int .i64 0]) (by simp [results, Tryz.results109, go_sem, t0, t1, hu30]) rfl ⟨.agg #[.slice A7 M.length c7, .int .i64 last], by rw [hre], by rw [hSS]; exact (by obtain ⟨A9, c9, e9, h9, hC9⟩ := hRR; rw [withL_len] at e9; exact ⟨A9, c9, by rw [e9, withL_len], h9, hC9⟩), hB9⟩
     ·
      have hre : re = ce := by rw [HRE1.out, HRM2.out]; rfl
      have hSS : SS = L := by rw [HS.out, if_neg (fun e => c4 (hre.symm.trans e.1))]
      have HRS := qh (And.intro hre hSS)
      have b6 : (ce != 0) = true := bne_iff_ne.2 c4
      clear hre hSS HS HRE1 HRM2 HOW HCS HCUT HWI c4
      generalize wb.alloc (.cells #[.slice Ab cs.length cb, .int .i64 last] 30) = wc at HBc HEc Hc ⊢
      generalize wb.heap.size = gc at Hc ⊢
      clear HBa HBb HEa HEb
      obtain ⟨⟨x0, x1⟩, ⟨r0, r1⟩, f0, f1⟩ := HX.out _ HBc.out
      go_wp2
      obtain ⟨hre, hSS⟩ := HRS.out
      obtain ⟨hT, hB9, -⟩ := fin3 (.slice A L.length c) (.int .i64 last) HR2.out HB2.out HBc.out HW0.out
      generalize (wc.setCell ⟨b + 1, 0, none⟩ (.slice A L.length c)).setCell ⟨b + 1, 1, none⟩ (.int .i64 last) = w9 at hT hB9 ⊢
      obtain ⟨t0, t1⟩ := hT
      refine bodyPost_ret (v := .tuple #[.agg #[.slice A L.length c, .int .i64 last], .int .i64 ce]) (by simp [results, Tryz.results109, go_sem, t0, t1, hu30]) rfl ⟨.agg #[.slice A L.length c, .int .i64 last], by rw [hre], by rw [hSS]; exact ⟨A, c, rfl, hle, Kd.C_below HC.out hB9⟩, hB9⟩
theorem rmove_calls (L : List RN) (last : Int) (v : Value) (fr : Int) (s : ByteArray) (td : Int) (z : ByteArray) (w : World) (h : RAt w v L last) (hG : GoodL L last) (hM : GoodM L) :
  Calls Tryz.prog 109 #[v, .int .i64 fr, .string s, .int .i64 td, .string z] w fun e w' => ∃ v', e = .returned (.tuple #[v', .int .i64 (movP L last fr s td z)]) ∧ RAt w' v' (movM L last fr s td z) last ∧ Below w.heap.size w w' := by
 by_cases he : preE L fr s td z = 0
 ·
  by_cases hf : (atR L (inR L fr s)).f3 = 1
  · exact rmove_dir L last v fr s td z w h hG hM he hf
  · exact rmove_file L last v fr s td z w h hG hM he hf
 · exact rmove_pre L last v fr s td z w h hG hM he
theorem walkF_up {T : Tr} {lst : Bool} : ∀ (k : Nat) (a h : Int) (l : List ByteArray) (R : Int × Int), walkF T lst k a h l = some R → walkF T lst (k + 1) a h l = some R
 | 0, _, _, _, _, h => by simp [walkF] at h
 | k + 1, a, h, [], R, e => by simpa [walkF] using e
 | k + 1, a, h, s :: l, R, e => by
  unfold walkF at e ⊢
  split
  · rename_i c; rw [if_pos c] at e; exact e
  ·
   rename_i c1
   rw [if_neg c1] at e
   split
   · rename_i c; rw [if_pos c] at e; exact walkF_up k _ _ _ _ e
   ·
    rename_i c2
    rw [if_neg c2] at e
    split
    · rename_i c; rw [if_pos c] at e; exact e
    ·
     rename_i c3
     rw [if_neg c3] at e
     split
     · rename_i c; rw [if_pos c] at e; exact walkF_up k _ _ _ _ e
     ·
      rename_i c4
      rw [if_neg c4] at e
      split
      · rename_i c; rw [if_pos c] at e; exact e
      ·
       rename_i c5
       rw [if_neg c5] at e
       exact walkF_up k _ _ _ _ e
theorem walkF_le {T : Tr} {lst : Bool} {k k' : Nat} (h : k ≤ k') {a b : Int} {l : List ByteArray} {R : Int × Int} (e : walkF T lst k a b l = some R) : walkF T lst k' a b l = some R := by
 induction h with
 | refl => exact e
 | step _ ih => exact walkF_up _ _ _ _ _ ih
theorem walkF_det {T : Tr} {lst : Bool} {k k' : Nat} {a b : Int} {l : List ByteArray} {R R' : Int × Int} (e : walkF T lst k a b l = some R) (e' : walkF T lst k' a b l = some R') : R = R' := by
 have h1 := walkF_le (Nat.le_max_left k k') e
 have h2 := walkF_le (Nat.le_max_right k k') e'
 rw [h1] at h2
 exact Option.some.inj h2
theorem findF_det {T : Tr} {lst : Bool} {k k' : Nat} {s : ByteArray} {R R' : Int × Int} (e : findF T lst k s = some R) (e' : findF T lst k' s = some R') : R = R' := by
 unfold findF at e e'
 split at e
 ·
  rename_i c
  rw [if_pos c] at e'
  obtain ⟨r, hr, e⟩ := Option.bind_eq_some_iff.1 e
  obtain ⟨r', hr', e'⟩ := Option.bind_eq_some_iff.1 e'
  obtain rfl := walkF_det hr hr'
  rw [e] at e'
  exact Option.some.inj e'
 ·
  rename_i c
  rw [if_neg c] at e'
  rw [e] at e'
  exact Option.some.inj e'
theorem spotF_det {T : Tr} {k k' : Nat} {s : ByteArray} {R R' : R3} (e : spotF T k s = some R) (e' : spotF T k' s = some R') : R = R' := by
 unfold spotF at e e'
 split at e
 ·
  rename_i c
  rw [if_pos c] at e'
  cases hl : (partsB s).getLast? with
  | none => rw [hl] at e e'; simp only [] at e e'; rw [e] at e'; exact Option.some.inj e'
  | some z =>
   rw [hl] at e e'
   simp only [] at e e'
   split at e
   · rename_i q; rw [if_pos q] at e'; rw [e] at e'; exact Option.some.inj e'
   ·
    rename_i q
    rw [if_neg q] at e'
    obtain ⟨r, hr, e⟩ := Option.bind_eq_some_iff.1 e
    obtain ⟨r', hr', e'⟩ := Option.bind_eq_some_iff.1 e'
    obtain rfl := walkF_det hr hr'
    rw [e] at e'
    exact Option.some.inj e'
 ·
  rename_i c
  rw [if_neg c] at e'
  rw [e] at e'
  exact Option.some.inj e'
theorem spot9 {L : List RN} {last : Int} (hG : GoodL L last) (hM : GoodM L) (s : ByteArray) : ∃ k, spotRF L last k s = some (spotV L last s) := by
 obtain ⟨k, k2, R, h1, h2⟩ := spot_both hG hM s
 obtain ⟨k', h'⟩ := spotV_spec hG hM s
 rw [spotF_det h' h1]
 exact ⟨k2, h2⟩
theorem find9 {L : List RN} {last : Int} (hG : GoodL L last) (hM : GoodM L) (lst : Bool) (s : ByteArray) : Ev (fun k => linhayref08_Find.f k L last s lst) (findV L last lst s) := by
 obtain ⟨k, R, h1, h2⟩ := find_both hG hM lst s
 obtain ⟨k', h'⟩ := findV_spec hG hM lst s
 rw [findF_det h' h1]
 exact h2
def Done (w : World) (o : Op3) (e : Ending) (w' : World) : Prop := ∃ v', e = .returned (.tuple #[v', .int .i64 o.2.2]) ∧ RAt w' v' o.1 o.2.1 ∧ Below w.heap.size w w'
theorem rput9_calls (L : List RN) (last : Int) (v : Value) (s : ByteArray) (kind : Int) (data : ByteArray) (w : World) (h : RAt w v L last) (hG : GoodL L last) (hM : GoodM L) (hla : last < 1000000) :
  Calls Tryz.prog 58 #[v, .string s, .int .i64 kind, .string data] w (Done w (mkP L last s kind data)) := by
 obtain ⟨A, c, rfl, hle, hC⟩ := h
 have hl := hG.len
 have hu30 := Tryz.underlying30
 have hu106 := Tryz.underlying106
 obtain ⟨q1, q2, q3⟩ := two_blocks w (.cells #[.slice A L.length c, .int .i64 last] 30) (.cells #[.slice none 0 0, .int .i64 0] 30)
 have HK := qh (And.intro q1 (And.intro q2 q3))
 have HC := qh hC
 have HLE := qh hle
 obtain ⟨k2, hk2⟩ := spot9 hG hM s
 have HSP := qh (fun v W h => rspot_calls L last v s k2 _ W h (by omega) hk2)
 have HPU := qh (fun v W h => rput_calls L last (spotV L last s).1 v (spotV L last s).2.1 kind data W h hG hla)
 have HO : Hid (mkP L last s kind data = if (spotV L last s).2.2 ≠ 0 then (L, last, (spotV L last s).2.2) else (putL L last (spotV L last s).1 (spotV L last s).2.1 kind data, putN L last (spotV L last s).1 (spotV L last s).2.1 kind data, putRE L (spotV L last s).1 (spotV L last s).2.1 kind data)) := qh rfl
 rw [HO.out]
 generalize putA L last (spotV L last s).1 (spotV L last s).2.1 kind data = pa at *
 generalize putRE L (spotV L last s).1 (spotV L last s).2.1 kind data = pe at *
 generalize putL L last (spotV L last s).1 (spotV L last s).2.1 kind data = pl at *
 generalize putN L last (spotV L last s).1 (spotV L last s).2.1 kind data = pn at *
 generalize spotV L last s = R at *
 obtain ⟨d, z, e⟩ := R
 simp only [] at HSP HPU ⊢
 clear HO hk2 hla
 clear hC q1 q2 q3 hG hM hl hle
 by_cases he : e = 0
 ·
  subst he
  rw [if_neg (by simp)]
  go_enter Tryz.func58, Tryz.ntmps58
  go_upto_region 1 with (fail)
  generalize (w.alloc (.cells #[.slice A L.length c, .int .i64 last] 30)).alloc (.cells #[.slice none 0 0, .int .i64 0] 30) = w2 at HK ⊢
  have HR1 := qh HK.out.1
  have HR2 := qh HK.out.2.1
  have HB2 := qh HK.out.2.2
  clear HK
  generalize hb0 : w.heap.size = b at HR1 HR2 ⊢
  have HW0 := qh hb0
  clear hb0
  have HX := qh (two_boxes HR1.out HR2.out)
  have HCT := qh (c_later HC.out HB2.out)
  have HRA := qh (r_later (last := last) HLE.out HCT.out)
  have HBi := qh (Below.refl w2.heap.size w2)
  obtain ⟨⟨x0, x1⟩, ⟨r0, r1⟩, f0, f1⟩ := HX.out _ HBi.out
  go_upto_region 2 with (go_at_call 107; refine (HSP.out _ _ (HRA.out _ HBi.out)).mono ?_; rintro e w3 ⟨rfl, hb⟩; have HB3 := qh (HBi.out.trans (hb.mono HBi.out.size)); clear hb; clear x0 x1 r0 r1 f0 f1; obtain ⟨⟨x0, x1⟩, ⟨r0, r1⟩, f0, f1⟩ := HX.out _ HB3.out)
  go_upto_region 5 with (go_at_call 57; refine (HPU.out _ _ (HRA.out _ HB3.out)).mono ?_; rintro e w4 ⟨v7, rfl, hR7, hb⟩; have HQ := qh hR7; obtain ⟨A7, c7, rfl, h7, C7⟩ := hR7; have HB4 := qh (HB3.out.trans (hb.mono HB3.out.size)); clear hb h7 C7; clear x0 x1 r0 r1 f0 f1; obtain ⟨⟨x0, x1⟩, ⟨r0, r1⟩, f0, f1⟩ := HX.out _ HB4.out)
  have HB5 := qh (HB4.out.alloc HB4.out.size (.cells #[.slice A7 pl.length c7, .int .i64 pn] 30))
  have H5 := qh (heap_alloc_new w4 (.cells #[.slice A7 pl.length c7, .int .i64 pn] 30))
  have HQ5 := qh (HQ.out.below (below_alloc (Below.refl _ _) (.cells #[.slice A7 pl.length c7, .int .i64 pn] 30)))
  generalize w4.alloc (.cells #[.slice A7 pl.length c7, .int .i64 pn] 30) = w5 at HB5 H5 HQ5 ⊢
  generalize w4.heap.size = g5 at H5 ⊢
  clear x0 x1 r0 r1 f0 f1 HQ HB4
  obtain ⟨⟨x0, x1⟩, ⟨r0, r1⟩, f0, f1⟩ := HX.out _ HB5.out
  obtain ⟨⟨m0, m1⟩, -, -⟩ := box_cells H5.out
  go_wp2
  obtain ⟨hT, hB9, hbt⟩ := fin3 (.slice A7 pl.length c7) (.int .i64 pn) HR2.out HB2.out HB5.out HW0.out
  have hR9 := RAt.but HQ5.out hbt
  clear hbt
  generalize (w5.setCell ⟨b + 1, 0, none⟩ (.slice A7 pl.length c7)).setCell ⟨b + 1, 1, none⟩ (.int .i64 pn) = w9' at hT hB9 hR9 ⊢
  obtain ⟨t0, t1⟩ := hT
  refine bodyPost_ret (v := .tuple #[.agg #[.slice A7 pl.length c7, .int .i64 pn], .int .i64 pe]) (by simp [results, Tryz.results58, go_sem, t0, t1, hu30]) rfl ⟨.agg #[.slice A7 pl.length c7, .int .i64 pn], rfl, hR9, hB9⟩
 ·
  rw [if_pos he]
  have b1 : (e != 0) = true := bne_iff_ne.2 he
  clear he HPU
  go_enter Tryz.func58, Tryz.ntmps58
  go_upto_region 1 with (fail)
  generalize (w.alloc (.cells #[.slice A L.length c, .int .i64 last] 30)).alloc (.cells #[.slice none 0 0, .int .i64 0] 30) = w2 at HK ⊢
  have HR1 := qh HK.out.1
  have HR2 := qh HK.out.2.1
  have HB2 := qh HK.out.2.2
  clear HK
  generalize hb0 : w.heap.size = b at HR1 HR2 ⊢
  have HW0 := qh hb0
  clear hb0
  have HX := qh (two_boxes HR1.out HR2.out)
  have HCT := qh (c_later HC.out HB2.out)
  have HRA := qh (r_later (last := last) HLE.out HCT.out)
  have HBi := qh (Below.refl w2.heap.size w2)
  obtain ⟨⟨x0, x1⟩, ⟨r0, r1⟩, f0, f1⟩ := HX.out _ HBi.out
  go_wp2_with (go_at_call 107; refine (HSP.out _ _ (HRA.out _ HBi.out)).mono ?_; rintro e w3 ⟨rfl, hb⟩; have HB3 := qh (HBi.out.trans (hb.mono HBi.out.size)); clear hb; clear x0 x1 r0 r1 f0 f1; obtain ⟨⟨x0, x1⟩, ⟨r0, r1⟩, f0, f1⟩ := HX.out _ HB3.out)
  obtain ⟨hT, hB9, hbt⟩ := fin3 (.slice A L.length c) (.int .i64 last) HR2.out HB2.out HB3.out HW0.out
  have hR9 := RAt.but (HRA.out _ HB3.out) hbt
  clear hbt
  generalize (w3.setCell ⟨b + 1, 0, none⟩ (.slice A L.length c)).setCell ⟨b + 1, 1, none⟩ (.int .i64 last) = w9' at hT hB9 hR9 ⊢
  obtain ⟨t0, t1⟩ := hT
  refine bodyPost_ret (v := .tuple #[.agg #[.slice A L.length c, .int .i64 last], .int .i64 e]) (by simp [results, Tryz.results58, go_sem, t0, t1, hu30]) rfl ⟨.agg #[.slice A L.length c, .int .i64 last], rfl, hR9, hB9⟩
theorem rren9_calls (L : List RN) (last : Int) (v : Value) (a z : ByteArray) (w : World) (h : RAt w v L last) (hG : GoodL L last) (hM : GoodM L) :
  Calls Tryz.prog 60 #[v, .string a, .string z] w (Done w (renP L last a z)) := by
 obtain ⟨A, c, rfl, hle, hC⟩ := h
 have hl := hG.len
 have hu30 := Tryz.underlying30
 have hu106 := Tryz.underlying106
 obtain ⟨q1, q2, q3⟩ := two_blocks w (.cells #[.slice A L.length c, .int .i64 last] 30) (.cells #[.slice none 0 0, .int .i64 0] 30)
 have HK := qh (And.intro q1 (And.intro q2 q3))
 have HC := qh hC
 have HLE := qh hle
 obtain ⟨k2, hk2⟩ := spot9 hG hM a
 obtain ⟨k3, hk3⟩ := spot9 hG hM z
 have HSP := qh (fun v W h => rspot_calls L last v a k2 _ W h (by omega) hk2)
 have HSQ := qh (fun v W h => rspot_calls L last v z k3 _ W h (by omega) hk3)
 have HMO := qh (fun v W h => rmove_calls L last v (spotV L last a).1 (spotV L last a).2.1 (spotV L last z).1 (spotV L last z).2.1 W h hG hM)
 have HO : Hid (renP L last a z = if (spotV L last a).2.2 ≠ 0 then (L, last, (spotV L last a).2.2) else if (spotV L last z).2.2 ≠ 0 then (L, last, (spotV L last z).2.2) else (movM L last (spotV L last a).1 (spotV L last a).2.1 (spotV L last z).1 (spotV L last z).2.1, last, movP L last (spotV L last a).1 (spotV L last a).2.1 (spotV L last z).1 (spotV L last z).2.1)) := qh rfl
 rw [HO.out]
 generalize movP L last (spotV L last a).1 (spotV L last a).2.1 (spotV L last z).1 (spotV L last z).2.1 = pe at *
 generalize movM L last (spotV L last a).1 (spotV L last a).2.1 (spotV L last z).1 (spotV L last z).2.1 = pl at *
 generalize spotV L last a = R at *
 generalize spotV L last z = R2 at *
 obtain ⟨d, y, e⟩ := R
 obtain ⟨d2, y2, e2⟩ := R2
 simp only [] at HSP HSQ HMO ⊢
 clear HO hk2 hk3
 clear hC q1 q2 q3 hG hM hl hle
 by_cases he : e = 0
 ·
  subst he
  rw [if_neg (by simp)]
  by_cases he2 : e2 = 0
  ·
   subst he2
   rw [if_neg (by simp)]
   go_enter Tryz.func60, Tryz.ntmps60
   go_upto_region 1 with (fail)
   generalize (w.alloc (.cells #[.slice A L.length c, .int .i64 last] 30)).alloc (.cells #[.slice none 0 0, .int .i64 0] 30) = w2 at HK ⊢
   have HR1 := qh HK.out.1
   have HR2 := qh HK.out.2.1
   have HB2 := qh HK.out.2.2
   clear HK
   generalize hb0 : w.heap.size = b at HR1 HR2 ⊢
   have HW0 := qh hb0
   clear hb0
   have HX := qh (two_boxes HR1.out HR2.out)
   have HCT := qh (c_later HC.out HB2.out)
   have HRA := qh (r_later (last := last) HLE.out HCT.out)
   have HBi := qh (Below.refl w2.heap.size w2)
   obtain ⟨⟨x0, x1⟩, ⟨r0, r1⟩, f0, f1⟩ := HX.out _ HBi.out
   go_upto_region 2 with (go_at_call 107; refine (HSP.out _ _ (HRA.out _ HBi.out)).mono ?_; rintro e w3 ⟨rfl, hb⟩; have HB3 := qh (HBi.out.trans (hb.mono HBi.out.size)); clear hb; clear x0 x1 r0 r1 f0 f1; obtain ⟨⟨x0, x1⟩, ⟨r0, r1⟩, f0, f1⟩ := HX.out _ HB3.out)
   go_upto_region 5 with (go_at_call 107; refine (HSQ.out _ _ (HRA.out _ HB3.out)).mono ?_; rintro e w4 ⟨rfl, hb⟩; have HB4 := qh (HB3.out.trans (hb.mono HB3.out.size)); clear hb; clear x0 x1 r0 r1 f0 f1; obtain ⟨⟨x0, x1⟩, ⟨r0, r1⟩, f0, f1⟩ := HX.out _ HB4.out)
   go_wp2_with (go_at_call 109; refine (HMO.out _ _ (HRA.out _ HB4.out)).mono ?_; rintro e w5 ⟨v7, rfl, hR7, hb⟩; have HQ := qh hR7; obtain ⟨A7, c7, rfl, h7, C7⟩ := hR7; have HB5 := qh (HB4.out.trans (hb.mono HB4.out.size)); clear hb h7 C7; clear x0 x1 r0 r1 f0 f1; obtain ⟨⟨x0, x1⟩, ⟨r0, r1⟩, f0, f1⟩ := HX.out _ HB5.out)
   obtain ⟨hT, hB9, hbt⟩ := fin3 (.slice A7 pl.length c7) (.int .i64 last) HR2.out HB2.out HB5.out HW0.out
   have hR9 := RAt.but HQ.out hbt
   clear hbt
   generalize (w5.setCell ⟨b + 1, 0, none⟩ (.slice A7 pl.length c7)).setCell ⟨b + 1, 1, none⟩ (.int .i64 last) = w9' at hT hB9 hR9 ⊢
   obtain ⟨t0, t1⟩ := hT
   refine bodyPost_ret (v := .tuple #[.agg #[.slice A7 pl.length c7, .int .i64 last], .int .i64 pe]) (by simp [results, Tryz.results60, go_sem, t0, t1, hu30]) rfl ⟨.agg #[.slice A7 pl.length c7, .int .i64 last], rfl, hR9, hB9⟩
  ·
   rw [if_pos he2]
   have b1 : (e2 != 0) = true := bne_iff_ne.2 he2
   clear he2 HMO
   go_enter Tryz.func60, Tryz.ntmps60
   go_upto_region 1 with (fail)
   generalize (w.alloc (.cells #[.slice A L.length c, .int .i64 last] 30)).alloc (.cells #[.slice none 0 0, .int .i64 0] 30) = w2 at HK ⊢
   have HR1 := qh HK.out.1
   have HR2 := qh HK.out.2.1
   have HB2 := qh HK.out.2.2
   clear HK
   generalize hb0 : w.heap.size = b at HR1 HR2 ⊢
   have HW0 := qh hb0
   clear hb0
   have HX := qh (two_boxes HR1.out HR2.out)
   have HCT := qh (c_later HC.out HB2.out)
   have HRA := qh (r_later (last := last) HLE.out HCT.out)
   have HBi := qh (Below.refl w2.heap.size w2)
   obtain ⟨⟨x0, x1⟩, ⟨r0, r1⟩, f0, f1⟩ := HX.out _ HBi.out
   go_upto_region 2 with (go_at_call 107; refine (HSP.out _ _ (HRA.out _ HBi.out)).mono ?_; rintro e w3 ⟨rfl, hb⟩; have HB3 := qh (HBi.out.trans (hb.mono HBi.out.size)); clear hb; clear x0 x1 r0 r1 f0 f1; obtain ⟨⟨x0, x1⟩, ⟨r0, r1⟩, f0, f1⟩ := HX.out _ HB3.out)
   go_wp2_with (go_at_call 107; refine (HSQ.out _ _ (HRA.out _ HB3.out)).mono ?_; rintro e w4 ⟨rfl, hb⟩; have HB4 := qh (HB3.out.trans (hb.mono HB3.out.size)); clear hb; clear x0 x1 r0 r1 f0 f1; obtain ⟨⟨x0, x1⟩, ⟨r0, r1⟩, f0, f1⟩ := HX.out _ HB4.out)
   obtain ⟨hT, hB9, hbt⟩ := fin3 (.slice A L.length c) (.int .i64 last) HR2.out HB2.out HB4.out HW0.out
   have hR9 := RAt.but (HRA.out _ HB4.out) hbt
   clear hbt
   generalize (w4.setCell ⟨b + 1, 0, none⟩ (.slice A L.length c)).setCell ⟨b + 1, 1, none⟩ (.int .i64 last) = w9' at hT hB9 hR9 ⊢
   obtain ⟨t0, t1⟩ := hT
   refine bodyPost_ret (v := .tuple #[.agg #[.slice A L.length c, .int .i64 last], .int .i64 e2]) (by simp [results, Tryz.results60, go_sem, t0, t1, hu30]) rfl ⟨.agg #[.slice A L.length c, .int .i64 last], rfl, hR9, hB9⟩
 ·
  rw [if_pos he]
  have b1 : (e != 0) = true := bne_iff_ne.2 he
  clear he HMO HSQ
  go_enter Tryz.func60, Tryz.ntmps60
  go_upto_region 1 with (fail)
  generalize (w.alloc (.cells #[.slice A L.length c, .int .i64 last] 30)).alloc (.cells #[.slice none 0 0, .int .i64 0] 30) = w2 at HK ⊢
  have HR1 := qh HK.out.1
  have HR2 := qh HK.out.2.1
  have HB2 := qh HK.out.2.2
  clear HK
  generalize hb0 : w.heap.size = b at HR1 HR2 ⊢
  have HW0 := qh hb0
  clear hb0
  have HX := qh (two_boxes HR1.out HR2.out)
  have HCT := qh (c_later HC.out HB2.out)
  have HRA := qh (r_later (last := last) HLE.out HCT.out)
  have HBi := qh (Below.refl w2.heap.size w2)
  obtain ⟨⟨x0, x1⟩, ⟨r0, r1⟩, f0, f1⟩ := HX.out _ HBi.out
  go_wp2_with (go_at_call 107; refine (HSP.out _ _ (HRA.out _ HBi.out)).mono ?_; rintro e w3 ⟨rfl, hb⟩; have HB3 := qh (HBi.out.trans (hb.mono HBi.out.size)); clear hb; clear x0 x1 r0 r1 f0 f1; obtain ⟨⟨x0, x1⟩, ⟨r0, r1⟩, f0, f1⟩ := HX.out _ HB3.out)
  obtain ⟨hT, hB9, hbt⟩ := fin3 (.slice A L.length c) (.int .i64 last) HR2.out HB2.out HB3.out HW0.out
  have hR9 := RAt.but (HRA.out _ HB3.out) hbt
  clear hbt
  generalize (w3.setCell ⟨b + 1, 0, none⟩ (.slice A L.length c)).setCell ⟨b + 1, 1, none⟩ (.int .i64 last) = w9' at hT hB9 hR9 ⊢
  obtain ⟨t0, t1⟩ := hT
  refine bodyPost_ret (v := .tuple #[.agg #[.slice A L.length c, .int .i64 last], .int .i64 e]) (by simp [results, Tryz.results60, go_sem, t0, t1, hu30]) rfl ⟨.agg #[.slice A L.length c, .int .i64 last], rfl, hR9, hB9⟩
theorem kind_in {L : List RN} {last : Int} (hG : GoodL L last) (hM : GoodM L) (d : Int) (s : ByteArray) : (inR L d s = 0) ↔ (atR L (inR L d s)).f3 = 0 := by
 constructor
 ·
  intro e
  rw [e]
  refine Decidable.byContradiction fun h => ?_
  obtain ⟨r, hr, hrn, _⟩ := at_kind h
  have := (hG.num r hr).1
  omega
 ·
  intro e
  refine Decidable.byContradiction fun h => ?_
  obtain ⟨r, hr, hrn, _, _, _, hra⟩ := inR_mem hG h
  rw [hra] at e
  have := (hM.kind r hr).1
  omega
theorem rcut9_calls (L : List RN) (last : Int) (v : Value) (s : ByteArray) (dir : Bool) (w : World) (h : RAt w v L last) (hG : GoodL L last) (hM : GoodM L) :
  Calls Tryz.prog 59 #[v, .string s, .bool dir] w (Done w (cutP L last s dir)) := by
 obtain ⟨A, c, rfl, hle, hC⟩ := h
 have hl := hG.len
 have hu30 := Tryz.underlying30
 have hu106 := Tryz.underlying106
 obtain ⟨q1, q2, q3⟩ := two_blocks w (.cells #[.slice A L.length c, .int .i64 last] 30) (.cells #[.slice none 0 0, .int .i64 0] 30)
 have HK := qh (And.intro q1 (And.intro q2 q3))
 have HC := qh hC
 have HLE := qh hle
 obtain ⟨k2, hk2⟩ := spot9 hG hM s
 have HSP := qh (fun v W h => rspot_calls L last v s k2 _ W h (by omega) hk2)
 have HCU := qh (fun v W h => rcut_calls L last v (spotV L last s).1 (spotV L last s).2.1 W h hG)
 obtain ⟨k3, hk3⟩ := (r07_in L (spotV L last s).1 last (spotV L last s).2.1 (by omega)).rounds
 have HI := qh (fun W h => linhayref07_In.calls k3 A c L last (spotV L last s).1 (spotV L last s).2.1 _ W h hle hk3)
 obtain ⟨k4, hk4⟩ := (r07_at L (inR L (spotV L last s).1 (spotV L last s).2.1) last (by omega)).rounds
 have HA := qh (fun W h => linhayref07_At.calls k4 A c L last (inR L (spotV L last s).1 (spotV L last s).2.1) _ _ _ _ _ W h hle hk4)
 have HN : Hid ((inR L (spotV L last s).1 (spotV L last s).2.1 = 0) ↔ (atR L (inR L (spotV L last s).1 (spotV L last s).2.1)).f3 = 0) := qh (kind_in hG hM _ _)
 have HO : Hid (cutP L last s dir = if (spotV L last s).2.2 ≠ 0 then (L, last, (spotV L last s).2.2) else if inR L (spotV L last s).1 (spotV L last s).2.1 = 0 then (L, last, 5) else if mayK dir (atR L (inR L (spotV L last s).1 (spotV L last s).2.1)).f3 ≠ 0 then (L, last, mayK dir (atR L (inR L (spotV L last s).1 (spotV L last s).2.1)).f3) else (cutS L (spotV L last s).1 (spotV L last s).2.1, last, cutRE L (spotV L last s).1 (spotV L last s).2.1)) := qh rfl
 generalize cutP L last s dir = oo at *
 generalize cutRE L (spotV L last s).1 (spotV L last s).2.1 = pe at *
 generalize cutS L (spotV L last s).1 (spotV L last s).2.1 = pl at *
 generalize atR L (inR L (spotV L last s).1 (spotV L last s).2.1) = q at *
 generalize inR L (spotV L last s).1 (spotV L last s).2.1 = n at *
 generalize spotV L last s = R at *
 obtain ⟨d, z, e⟩ := R
 obtain ⟨p0, p1, p2, p3, p4⟩ := q
 simp only [] at HSP HCU HI HA HO HN
 clear hk2 hk3 hk4
 clear hC q1 q2 q3 hG hM hl hle
 by_cases he : e = 0
 ·
  subst he
  rw [if_neg (by simp)] at HO
  by_cases hn : p3 = 0
  ·
   obtain rfl : oo = (L, last, 5) := by rw [HO.out, if_pos (HN.out.2 hn)]
   subst hn
   clear HO HN HCU
   go_enter Tryz.func59, Tryz.ntmps59
   go_upto_region 1 with (fail)
   generalize (w.alloc (.cells #[.slice A L.length c, .int .i64 last] 30)).alloc (.cells #[.slice none 0 0, .int .i64 0] 30) = w2 at HK ⊢
   have HR1 := qh HK.out.1
   have HR2 := qh HK.out.2.1
   have HB2 := qh HK.out.2.2
   clear HK
   generalize hb0 : w.heap.size = b at HR1 HR2 ⊢
   have HW0 := qh hb0
   clear hb0
   have HX := qh (two_boxes HR1.out HR2.out)
   have HCT := qh (c_later HC.out HB2.out)
   have HRA := qh (r_later (last := last) HLE.out HCT.out)
   have HBi := qh (Below.refl w2.heap.size w2)
   obtain ⟨⟨x0, x1⟩, ⟨r0, r1⟩, f0, f1⟩ := HX.out _ HBi.out
   go_upto_region 4 with (go_at_call 107; refine (HSP.out _ _ (HRA.out _ HBi.out)).mono ?_; rintro e w3 ⟨rfl, hb⟩; have HB3 := qh (HBi.out.trans (hb.mono HBi.out.size)); clear hb; clear x0 x1 r0 r1 f0 f1; obtain ⟨⟨x0, x1⟩, ⟨r0, r1⟩, f0, f1⟩ := HX.out _ HB3.out)
   go_region_held3 (fun w' => w'.cell? ⟨b, 0, none⟩ = some (.slice A L.length c) ∧ w'.cell? ⟨b, 1, none⟩ = some (.int .i64 last)) (first | (go_keep; done) | exact (HX.out _ HB5.out).1 | exact (HX.out _ HB4.out).1) (first | (go_at_call 105; refine (HI.out _ (HCT.out _ (by first | exact HB3.out | exact below_drew HB3.out))).mono ?_; rintro e w4 ⟨rfl, hb⟩; have HB4 : Hid (Below w2.heap.size w2 w4) := qh (by first | exact HB3.out.trans (hb.mono HB3.out.size) | exact (below_drew HB3.out).trans (hb.mono HB3.out.size)); clear hb) | (go_at_call 68; refine (HA.out _ (HCT.out _ HB4.out)).mono ?_; rintro e w5 ⟨rfl, hb⟩; have HB5 : Hid (Below w2.heap.size w2 w5) := qh (HB4.out.trans (hb.mono HB4.out.size)); clear hb))
   clear x0 x1 r0 r1 f0 f1
   obtain ⟨⟨x0, x1⟩, ⟨r0, r1⟩, f0, f1⟩ := HX.out _ HB5.out
   go_wp2
   obtain ⟨hT, hB9, hbt⟩ := fin3 (.slice A L.length c) (.int .i64 last) HR2.out HB2.out HB5.out HW0.out
   have hR9 := RAt.but (HRA.out _ HB5.out) hbt
   clear hbt
   generalize (w5.setCell ⟨b + 1, 0, none⟩ (.slice A L.length c)).setCell ⟨b + 1, 1, none⟩ (.int .i64 last) = w9' at hT hB9 hR9 ⊢
   obtain ⟨t0, t1⟩ := hT
   refine bodyPost_ret (v := .tuple #[.agg #[.slice A L.length c, .int .i64 last], .int .i64 5]) (by simp [results, Tryz.results59, go_sem, t0, t1, hu30]) rfl ⟨.agg #[.slice A L.length c, .int .i64 last], rfl, hR9, hB9⟩
  ·
   have HO1 : Hid (oo = if mayK dir p3 ≠ 0 then (L, last, mayK dir p3) else (pl, last, pe)) := qh (by rw [HO.out, if_neg (fun e => hn (HN.out.1 e))])
   have b0 : (p3 == 0) = false := beq_eq_false_iff_ne.2 hn
   clear HO HN
   by_cases hk : p3 = 1
   ·
    subst hk
    clear hn b0
    cases dir with
    | true =>
     obtain rfl : oo = (pl, last, pe) := by rw [HO1.out, if_neg (by decide)]
     clear HO1
     go_enter Tryz.func59, Tryz.ntmps59
     go_upto_region 1 with (fail)
     generalize (w.alloc (.cells #[.slice A L.length c, .int .i64 last] 30)).alloc (.cells #[.slice none 0 0, .int .i64 0] 30) = w2 at HK ⊢
     have HR1 := qh HK.out.1
     have HR2 := qh HK.out.2.1
     have HB2 := qh HK.out.2.2
     clear HK
     generalize hb0 : w.heap.size = b at HR1 HR2 ⊢
     have HW0 := qh hb0
     clear hb0
     have HX := qh (two_boxes HR1.out HR2.out)
     have HCT := qh (c_later HC.out HB2.out)
     have HRA := qh (r_later (last := last) HLE.out HCT.out)
     have HBi := qh (Below.refl w2.heap.size w2)
     obtain ⟨⟨x0, x1⟩, ⟨r0, r1⟩, f0, f1⟩ := HX.out _ HBi.out
     go_upto_region 4 with (go_at_call 107; refine (HSP.out _ _ (HRA.out _ HBi.out)).mono ?_; rintro e w3 ⟨rfl, hb⟩; have HB3 := qh (HBi.out.trans (hb.mono HBi.out.size)); clear hb; clear x0 x1 r0 r1 f0 f1; obtain ⟨⟨x0, x1⟩, ⟨r0, r1⟩, f0, f1⟩ := HX.out _ HB3.out)
     go_region_held3 (fun w' => w'.cell? ⟨b, 0, none⟩ = some (.slice A L.length c) ∧ w'.cell? ⟨b, 1, none⟩ = some (.int .i64 last)) (first | (go_keep; done) | exact (HX.out _ HB5.out).1 | exact (HX.out _ HB4.out).1) (first | (go_at_call 105; refine (HI.out _ (HCT.out _ (by first | exact HB3.out | exact below_drew HB3.out))).mono ?_; rintro e w4 ⟨rfl, hb⟩; have HB4 : Hid (Below w2.heap.size w2 w4) := qh (by first | exact HB3.out.trans (hb.mono HB3.out.size) | exact (below_drew HB3.out).trans (hb.mono HB3.out.size)); clear hb) | (go_at_call 68; refine (HA.out _ (HCT.out _ HB4.out)).mono ?_; rintro e w5 ⟨rfl, hb⟩; have HB5 : Hid (Below w2.heap.size w2 w5) := qh (HB4.out.trans (hb.mono HB4.out.size)); clear hb))
     clear x0 x1 r0 r1 f0 f1
     obtain ⟨⟨x0, x1⟩, ⟨r0, r1⟩, f0, f1⟩ := HX.out _ HB5.out
     go_wp2_with (go_at_call 108; refine (HCU.out _ _ (HRA.out _ HB5.out)).mono ?_; rintro e w6 ⟨v7, rfl, hR7, hb, -⟩; have HQ := qh hR7; obtain ⟨A7, c7, rfl, h7, C7⟩ := hR7; have HB6 := qh (HB5.out.trans (hb.mono HB5.out.size)); clear hb h7 C7; clear x0 x1 r0 r1 f0 f1; obtain ⟨⟨x0, x1⟩, ⟨r0, r1⟩, f0, f1⟩ := HX.out _ HB6.out)
     obtain ⟨hT, hB9, hbt⟩ := fin3 (.slice A7 pl.length c7) (.int .i64 last) HR2.out HB2.out HB6.out HW0.out
     have hR9 := RAt.but HQ.out hbt
     clear hbt
     generalize (w6.setCell ⟨b + 1, 0, none⟩ (.slice A7 pl.length c7)).setCell ⟨b + 1, 1, none⟩ (.int .i64 last) = w9' at hT hB9 hR9 ⊢
     obtain ⟨t0, t1⟩ := hT
     refine bodyPost_ret (v := .tuple #[.agg #[.slice A7 pl.length c7, .int .i64 last], .int .i64 pe]) (by simp [results, Tryz.results59, go_sem, t0, t1, hu30]) rfl ⟨.agg #[.slice A7 pl.length c7, .int .i64 last], rfl, hR9, hB9⟩
    | false =>
     obtain rfl : oo = (L, last, 8) := by rw [HO1.out, if_pos (by decide)]; rfl
     clear HO1 HCU
     go_enter Tryz.func59, Tryz.ntmps59
     go_upto_region 1 with (fail)
     generalize (w.alloc (.cells #[.slice A L.length c, .int .i64 last] 30)).alloc (.cells #[.slice none 0 0, .int .i64 0] 30) = w2 at HK ⊢
     have HR1 := qh HK.out.1
     have HR2 := qh HK.out.2.1
     have HB2 := qh HK.out.2.2
     clear HK
     generalize hb0 : w.heap.size = b at HR1 HR2 ⊢
     have HW0 := qh hb0
     clear hb0
     have HX := qh (two_boxes HR1.out HR2.out)
     have HCT := qh (c_later HC.out HB2.out)
     have HRA := qh (r_later (last := last) HLE.out HCT.out)
     have HBi := qh (Below.refl w2.heap.size w2)
     obtain ⟨⟨x0, x1⟩, ⟨r0, r1⟩, f0, f1⟩ := HX.out _ HBi.out
     go_upto_region 4 with (go_at_call 107; refine (HSP.out _ _ (HRA.out _ HBi.out)).mono ?_; rintro e w3 ⟨rfl, hb⟩; have HB3 := qh (HBi.out.trans (hb.mono HBi.out.size)); clear hb; clear x0 x1 r0 r1 f0 f1; obtain ⟨⟨x0, x1⟩, ⟨r0, r1⟩, f0, f1⟩ := HX.out _ HB3.out)
     go_region_held3 (fun w' => w'.cell? ⟨b, 0, none⟩ = some (.slice A L.length c) ∧ w'.cell? ⟨b, 1, none⟩ = some (.int .i64 last)) (first | (go_keep; done) | exact (HX.out _ HB5.out).1 | exact (HX.out _ HB4.out).1) (first | (go_at_call 105; refine (HI.out _ (HCT.out _ (by first | exact HB3.out | exact below_drew HB3.out))).mono ?_; rintro e w4 ⟨rfl, hb⟩; have HB4 : Hid (Below w2.heap.size w2 w4) := qh (by first | exact HB3.out.trans (hb.mono HB3.out.size) | exact (below_drew HB3.out).trans (hb.mono HB3.out.size)); clear hb) | (go_at_call 68; refine (HA.out _ (HCT.out _ HB4.out)).mono ?_; rintro e w5 ⟨rfl, hb⟩; have HB5 : Hid (Below w2.heap.size w2 w5) := qh (HB4.out.trans (hb.mono HB4.out.size)); clear hb))
     clear x0 x1 r0 r1 f0 f1
     obtain ⟨⟨x0, x1⟩, ⟨r0, r1⟩, f0, f1⟩ := HX.out _ HB5.out
     go_wp2
     obtain ⟨hT, hB9, hbt⟩ := fin3 (.slice A L.length c) (.int .i64 last) HR2.out HB2.out HB5.out HW0.out
     have hR9 := RAt.but (HRA.out _ HB5.out) hbt
     clear hbt
     generalize (w5.setCell ⟨b + 1, 0, none⟩ (.slice A L.length c)).setCell ⟨b + 1, 1, none⟩ (.int .i64 last) = w9' at hT hB9 hR9 ⊢
     obtain ⟨t0, t1⟩ := hT
     refine bodyPost_ret (v := .tuple #[.agg #[.slice A L.length c, .int .i64 last], .int .i64 8]) (by simp [results, Tryz.results59, go_sem, t0, t1, hu30]) rfl ⟨.agg #[.slice A L.length c, .int .i64 last], rfl, hR9, hB9⟩
   ·
    have b1 : (p3 == 1) = false := beq_eq_false_iff_ne.2 hk
    have b2 : (p3 != 1) = true := bne_iff_ne.2 hk
    cases dir with
    | true =>
     obtain rfl : oo = (L, last, 7) := by rw [HO1.out, show mayK true p3 = 7 by simp [mayK, hk], if_pos (by decide)]
     clear HO1 HCU hk hn
     go_enter Tryz.func59, Tryz.ntmps59
     go_upto_region 1 with (fail)
     generalize (w.alloc (.cells #[.slice A L.length c, .int .i64 last] 30)).alloc (.cells #[.slice none 0 0, .int .i64 0] 30) = w2 at HK ⊢
     have HR1 := qh HK.out.1
     have HR2 := qh HK.out.2.1
     have HB2 := qh HK.out.2.2
     clear HK
     generalize hb0 : w.heap.size = b at HR1 HR2 ⊢
     have HW0 := qh hb0
     clear hb0
     have HX := qh (two_boxes HR1.out HR2.out)
     have HCT := qh (c_later HC.out HB2.out)
     have HRA := qh (r_later (last := last) HLE.out HCT.out)
     have HBi := qh (Below.refl w2.heap.size w2)
     obtain ⟨⟨x0, x1⟩, ⟨r0, r1⟩, f0, f1⟩ := HX.out _ HBi.out
     go_upto_region 4 with (go_at_call 107; refine (HSP.out _ _ (HRA.out _ HBi.out)).mono ?_; rintro e w3 ⟨rfl, hb⟩; have HB3 := qh (HBi.out.trans (hb.mono HBi.out.size)); clear hb; clear x0 x1 r0 r1 f0 f1; obtain ⟨⟨x0, x1⟩, ⟨r0, r1⟩, f0, f1⟩ := HX.out _ HB3.out)
     go_region_held3 (fun w' => w'.cell? ⟨b, 0, none⟩ = some (.slice A L.length c) ∧ w'.cell? ⟨b, 1, none⟩ = some (.int .i64 last)) (first | (go_keep; done) | exact (HX.out _ HB5.out).1 | exact (HX.out _ HB4.out).1) (first | (go_at_call 105; refine (HI.out _ (HCT.out _ (by first | exact HB3.out | exact below_drew HB3.out))).mono ?_; rintro e w4 ⟨rfl, hb⟩; have HB4 : Hid (Below w2.heap.size w2 w4) := qh (by first | exact HB3.out.trans (hb.mono HB3.out.size) | exact (below_drew HB3.out).trans (hb.mono HB3.out.size)); clear hb) | (go_at_call 68; refine (HA.out _ (HCT.out _ HB4.out)).mono ?_; rintro e w5 ⟨rfl, hb⟩; have HB5 : Hid (Below w2.heap.size w2 w5) := qh (HB4.out.trans (hb.mono HB4.out.size)); clear hb))
     clear x0 x1 r0 r1 f0 f1
     obtain ⟨⟨x0, x1⟩, ⟨r0, r1⟩, f0, f1⟩ := HX.out _ HB5.out
     go_wp2
     obtain ⟨hT, hB9, hbt⟩ := fin3 (.slice A L.length c) (.int .i64 last) HR2.out HB2.out HB5.out HW0.out
     have hR9 := RAt.but (HRA.out _ HB5.out) hbt
     clear hbt
     generalize (w5.setCell ⟨b + 1, 0, none⟩ (.slice A L.length c)).setCell ⟨b + 1, 1, none⟩ (.int .i64 last) = w9' at hT hB9 hR9 ⊢
     obtain ⟨t0, t1⟩ := hT
     refine bodyPost_ret (v := .tuple #[.agg #[.slice A L.length c, .int .i64 last], .int .i64 7]) (by simp [results, Tryz.results59, go_sem, t0, t1, hu30]) rfl ⟨.agg #[.slice A L.length c, .int .i64 last], rfl, hR9, hB9⟩
    | false =>
     obtain rfl : oo = (pl, last, pe) := by rw [HO1.out, show mayK false p3 = 0 by simp [mayK, hk], if_neg (by decide)]
     clear HO1 hk hn
     go_enter Tryz.func59, Tryz.ntmps59
     go_upto_region 1 with (fail)
     generalize (w.alloc (.cells #[.slice A L.length c, .int .i64 last] 30)).alloc (.cells #[.slice none 0 0, .int .i64 0] 30) = w2 at HK ⊢
     have HR1 := qh HK.out.1
     have HR2 := qh HK.out.2.1
     have HB2 := qh HK.out.2.2
     clear HK
     generalize hb0 : w.heap.size = b at HR1 HR2 ⊢
     have HW0 := qh hb0
     clear hb0
     have HX := qh (two_boxes HR1.out HR2.out)
     have HCT := qh (c_later HC.out HB2.out)
     have HRA := qh (r_later (last := last) HLE.out HCT.out)
     have HBi := qh (Below.refl w2.heap.size w2)
     obtain ⟨⟨x0, x1⟩, ⟨r0, r1⟩, f0, f1⟩ := HX.out _ HBi.out
     go_upto_region 4 with (go_at_call 107; refine (HSP.out _ _ (HRA.out _ HBi.out)).mono ?_; rintro e w3 ⟨rfl, hb⟩; have HB3 := qh (HBi.out.trans (hb.mono HBi.out.size)); clear hb; clear x0 x1 r0 r1 f0 f1; obtain ⟨⟨x0, x1⟩, ⟨r0, r1⟩, f0, f1⟩ := HX.out _ HB3.out)
     go_region_held3 (fun w' => w'.cell? ⟨b, 0, none⟩ = some (.slice A L.length c) ∧ w'.cell? ⟨b, 1, none⟩ = some (.int .i64 last)) (first | (go_keep; done) | exact (HX.out _ HB5.out).1 | exact (HX.out _ HB4.out).1) (first | (go_at_call 105; refine (HI.out _ (HCT.out _ (by first | exact HB3.out | exact below_drew HB3.out))).mono ?_; rintro e w4 ⟨rfl, hb⟩; have HB4 : Hid (Below w2.heap.size w2 w4) := qh (by first | exact HB3.out.trans (hb.mono HB3.out.size) | exact (below_drew HB3.out).trans (hb.mono HB3.out.size)); clear hb) | (go_at_call 68; refine (HA.out _ (HCT.out _ HB4.out)).mono ?_; rintro e w5 ⟨rfl, hb⟩; have HB5 : Hid (Below w2.heap.size w2 w5) := qh (HB4.out.trans (hb.mono HB4.out.size)); clear hb))
     clear x0 x1 r0 r1 f0 f1
     obtain ⟨⟨x0, x1⟩, ⟨r0, r1⟩, f0, f1⟩ := HX.out _ HB5.out
     go_wp2_with (go_at_call 108; refine (HCU.out _ _ (HRA.out _ HB5.out)).mono ?_; rintro e w6 ⟨v7, rfl, hR7, hb, -⟩; have HQ := qh hR7; obtain ⟨A7, c7, rfl, h7, C7⟩ := hR7; have HB6 := qh (HB5.out.trans (hb.mono HB5.out.size)); clear hb h7 C7; clear x0 x1 r0 r1 f0 f1; obtain ⟨⟨x0, x1⟩, ⟨r0, r1⟩, f0, f1⟩ := HX.out _ HB6.out)
     obtain ⟨hT, hB9, hbt⟩ := fin3 (.slice A7 pl.length c7) (.int .i64 last) HR2.out HB2.out HB6.out HW0.out
     have hR9 := RAt.but HQ.out hbt
     clear hbt
     generalize (w6.setCell ⟨b + 1, 0, none⟩ (.slice A7 pl.length c7)).setCell ⟨b + 1, 1, none⟩ (.int .i64 last) = w9' at hT hB9 hR9 ⊢
     obtain ⟨t0, t1⟩ := hT
     refine bodyPost_ret (v := .tuple #[.agg #[.slice A7 pl.length c7, .int .i64 last], .int .i64 pe]) (by simp [results, Tryz.results59, go_sem, t0, t1, hu30]) rfl ⟨.agg #[.slice A7 pl.length c7, .int .i64 last], rfl, hR9, hB9⟩
 ·
  obtain rfl : oo = (L, last, e) := by rw [HO.out, if_pos he]
  have b1 : (e != 0) = true := bne_iff_ne.2 he
  clear he HO HN HCU HI HA
  go_enter Tryz.func59, Tryz.ntmps59
  go_upto_region 1 with (fail)
  generalize (w.alloc (.cells #[.slice A L.length c, .int .i64 last] 30)).alloc (.cells #[.slice none 0 0, .int .i64 0] 30) = w2 at HK ⊢
  have HR1 := qh HK.out.1
  have HR2 := qh HK.out.2.1
  have HB2 := qh HK.out.2.2
  clear HK
  generalize hb0 : w.heap.size = b at HR1 HR2 ⊢
  have HW0 := qh hb0
  clear hb0
  have HX := qh (two_boxes HR1.out HR2.out)
  have HCT := qh (c_later HC.out HB2.out)
  have HRA := qh (r_later (last := last) HLE.out HCT.out)
  have HBi := qh (Below.refl w2.heap.size w2)
  obtain ⟨⟨x0, x1⟩, ⟨r0, r1⟩, f0, f1⟩ := HX.out _ HBi.out
  go_wp2_with (go_at_call 107; refine (HSP.out _ _ (HRA.out _ HBi.out)).mono ?_; rintro e w3 ⟨rfl, hb⟩; have HB3 := qh (HBi.out.trans (hb.mono HBi.out.size)); clear hb; clear x0 x1 r0 r1 f0 f1; obtain ⟨⟨x0, x1⟩, ⟨r0, r1⟩, f0, f1⟩ := HX.out _ HB3.out)
  obtain ⟨hT, hB9, hbt⟩ := fin3 (.slice A L.length c) (.int .i64 last) HR2.out HB2.out HB3.out HW0.out
  have hR9 := RAt.but (HRA.out _ HB3.out) hbt
  clear hbt
  generalize (w3.setCell ⟨b + 1, 0, none⟩ (.slice A L.length c)).setCell ⟨b + 1, 1, none⟩ (.int .i64 last) = w9' at hT hB9 hR9 ⊢
  obtain ⟨t0, t1⟩ := hT
  refine bodyPost_ret (v := .tuple #[.agg #[.slice A L.length c, .int .i64 last], .int .i64 e]) (by simp [results, Tryz.results59, go_sem, t0, t1, hu30]) rfl ⟨.agg #[.slice A L.length c, .int .i64 last], rfl, hR9, hB9⟩
theorem rwrite9_calls (L : List RN) (last : Int) (v : Value) (s data : ByteArray) (w : World) (h : RAt w v L last) (hG : GoodL L last) (hM : GoodM L) (hla : last < 1000000) :
  Calls Tryz.prog 61 #[v, .string s, .string data] w (Done w (wrP L last s data)) := by
 obtain ⟨A, c, rfl, hle, hC⟩ := h
 have hl := hG.len
 have hu30 := Tryz.underlying30
 have hu106 := Tryz.underlying106
 obtain ⟨q1, q2, q3⟩ := two_blocks w (.cells #[.slice A L.length c, .int .i64 last] 30) (.cells #[.slice none 0 0, .int .i64 0] 30)
 have HK := qh (And.intro q1 (And.intro q2 q3))
 have HC := qh hC
 have HLE := qh hle
 obtain ⟨k2, hk2⟩ := spot9 hG hM s
 obtain ⟨k1, hk1⟩ := (find9 hG hM true s).rounds
 have HF := qh (fun W h => linhayref08_Find.calls k1 A c L last s true (findV L last true s).1 (findV L last true s).2 W h hle hk1)
 have HSP := qh (fun v W h => rspot_calls L last v s k2 _ W h (by omega) hk2)
 have HSE := qh (fun v W h => rset_calls L last v (findV L last true s).1 data W h (by omega))
 have HPU := qh (fun v W h => rput9_calls L last v s 2 data W h hG hM hla)
 obtain ⟨k3, hk3⟩ := (r07_in L (spotV L last s).1 last (spotV L last s).2.1 (by omega)).rounds
 have HI := qh (fun W h => linhayref07_In.calls k3 A c L last (spotV L last s).1 (spotV L last s).2.1 _ W h hle hk3)
 have HIN := qh (inR_le hG (spotV L last s).1 (spotV L last s).2.1).1
 have HMK : Hid (mkP L last s 2 data = if (spotV L last s).2.2 ≠ 0 then (L, last, (spotV L last s).2.2) else (putL L last (spotV L last s).1 (spotV L last s).2.1 2 data, putN L last (spotV L last s).1 (spotV L last s).2.1 2 data, putRE L (spotV L last s).1 (spotV L last s).2.1 2 data)) := qh rfl
 unfold wrP
 generalize mkP L last s 2 data = mk at *
 generalize putRE L (spotV L last s).1 (spotV L last s).2.1 2 data = pe at *
 generalize putL L last (spotV L last s).1 (spotV L last s).2.1 2 data = pl at *
 generalize putN L last (spotV L last s).1 (spotV L last s).2.1 2 data = pn at *
 generalize inR L (spotV L last s).1 (spotV L last s).2.1 = n at *
 generalize setRE L (findV L last true s).1 data = se at *
 generalize setS L (findV L last true s).1 data = ss at *
 generalize spotV L last s = R at *
 generalize findV L last true s = RF at *
 obtain ⟨d, z, e⟩ := R
 obtain ⟨fn, fe⟩ := RF
 obtain ⟨mL, mN, mE⟩ := mk
 simp only [] at HSP HF HSE HI HPU HIN HMK ⊢
 clear hk1 hk2 hk3 hla
 clear hC q1 q2 q3 hG hM hl hle
 by_cases h0 : fe = 0
 ·
  subst h0
  rw [if_pos rfl]
  clear HSP HI HPU HMK HIN
  go_enter Tryz.func61, Tryz.ntmps61
  go_upto_region 1 with (fail)
  generalize (w.alloc (.cells #[.slice A L.length c, .int .i64 last] 30)).alloc (.cells #[.slice none 0 0, .int .i64 0] 30) = w2 at HK ⊢
  have HR1 := qh HK.out.1
  have HR2 := qh HK.out.2.1
  have HB2 := qh HK.out.2.2
  clear HK
  generalize hb0 : w.heap.size = b at HR1 HR2 ⊢
  have HW0 := qh hb0
  clear hb0
  have HX := qh (two_boxes HR1.out HR2.out)
  have HCT := qh (c_later HC.out HB2.out)
  have HRA := qh (r_later (last := last) HLE.out HCT.out)
  have HBi := qh (Below.refl w2.heap.size w2)
  obtain ⟨⟨x0, x1⟩, ⟨r0, r1⟩, f0, f1⟩ := HX.out _ HBi.out
  go_upto_region 2 with (go_at_call 110; refine (HF.out _ (HCT.out _ HBi.out)).mono ?_; rintro e w3 ⟨rfl, hb⟩; have HB3 := qh (HBi.out.trans (hb.mono HBi.out.size)); clear hb; clear x0 x1 r0 r1 f0 f1; obtain ⟨⟨x0, x1⟩, ⟨r0, r1⟩, f0, f1⟩ := HX.out _ HB3.out)
  go_wp2_with (go_at_call 111; refine (HSE.out _ _ (HRA.out _ HB3.out)).mono ?_; rintro e w4 ⟨v7, rfl, hR7, hb⟩; have HQ := qh hR7; obtain ⟨A7, c7, rfl, h7, C7⟩ := hR7; have HB4 := qh (HB3.out.trans (hb.mono HB3.out.size)); clear hb h7 C7; clear x0 x1 r0 r1 f0 f1; obtain ⟨⟨x0, x1⟩, ⟨r0, r1⟩, f0, f1⟩ := HX.out _ HB4.out)
  obtain ⟨hT, hB9, hbt⟩ := fin3 (.slice A7 ss.length c7) (.int .i64 last) HR2.out HB2.out HB4.out HW0.out
  have hR9 := RAt.but HQ.out hbt
  clear hbt
  generalize (w4.setCell ⟨b + 1, 0, none⟩ (.slice A7 ss.length c7)).setCell ⟨b + 1, 1, none⟩ (.int .i64 last) = w9' at hT hB9 hR9 ⊢
  obtain ⟨t0, t1⟩ := hT
  refine bodyPost_ret (v := .tuple #[.agg #[.slice A7 ss.length c7, .int .i64 last], .int .i64 se]) (by simp [results, Tryz.results61, go_sem, t0, t1, hu30]) rfl ⟨.agg #[.slice A7 ss.length c7, .int .i64 last], rfl, hR9, hB9⟩
 ·
  have b0 : (fe == 0) = false := beq_eq_false_iff_ne.2 h0
  rw [if_neg h0]
  by_cases h5 : fe = 5
  ·
   subst h5
   rw [if_neg (by simp)]
   clear h0 b0 HSE
   by_cases he : e = 0
   ·
    subst he
    rw [if_neg (by simp)]
    by_cases hn : n = 0
    ·
     subst hn
     rw [if_neg (by simp)]
     have hmk := HMK.out
     rw [if_neg (by simp)] at hmk
     cases hmk
     clear HMK HIN
     go_enter Tryz.func61, Tryz.ntmps61
     go_upto_region 1 with (fail)
     generalize (w.alloc (.cells #[.slice A L.length c, .int .i64 last] 30)).alloc (.cells #[.slice none 0 0, .int .i64 0] 30) = w2 at HK ⊢
     have HR1 := qh HK.out.1
     have HR2 := qh HK.out.2.1
     have HB2 := qh HK.out.2.2
     clear HK
     generalize hb0 : w.heap.size = b at HR1 HR2 ⊢
     have HW0 := qh hb0
     clear hb0
     have HX := qh (two_boxes HR1.out HR2.out)
     have HCT := qh (c_later HC.out HB2.out)
     have HRA := qh (r_later (last := last) HLE.out HCT.out)
     have HBi := qh (Below.refl w2.heap.size w2)
     obtain ⟨⟨x0, x1⟩, ⟨r0, r1⟩, f0, f1⟩ := HX.out _ HBi.out
     go_upto_region 2 with (go_at_call 110; refine (HF.out _ (HCT.out _ HBi.out)).mono ?_; rintro e w3 ⟨rfl, hb⟩; have HB3 := qh (HBi.out.trans (hb.mono HBi.out.size)); clear hb; clear x0 x1 r0 r1 f0 f1; obtain ⟨⟨x0, x1⟩, ⟨r0, r1⟩, f0, f1⟩ := HX.out _ HB3.out)
     go_upto_region 7 with (go_at_call 107; refine (HSP.out _ _ (HRA.out _ HB3.out)).mono ?_; rintro e w4 ⟨rfl, hb⟩; have HB4 := qh (HB3.out.trans (hb.mono HB3.out.size)); clear hb; clear x0 x1 r0 r1 f0 f1; obtain ⟨⟨x0, x1⟩, ⟨r0, r1⟩, f0, f1⟩ := HX.out _ HB4.out)
     go_upto_region 11 with (go_at_call 105; refine (HI.out _ (HCT.out _ HB4.out)).mono ?_; rintro e w5 ⟨rfl, hb⟩; have HB5 := qh (HB4.out.trans (hb.mono HB4.out.size)); clear hb; clear x0 x1 r0 r1 f0 f1; obtain ⟨⟨x0, x1⟩, ⟨r0, r1⟩, f0, f1⟩ := HX.out _ HB5.out)
     go_wp2_with (go_at_call 58; refine (HPU.out _ _ (HRA.out _ HB5.out)).mono ?_; rintro e w6 ⟨v7, rfl, hR7, hb⟩; have HQ := qh hR7; obtain ⟨A7, c7, rfl, h7, C7⟩ := hR7; have HB6 := qh (HB5.out.trans (hb.mono HB5.out.size)); clear hb h7 C7; clear x0 x1 r0 r1 f0 f1; obtain ⟨⟨x0, x1⟩, ⟨r0, r1⟩, f0, f1⟩ := HX.out _ HB6.out)
     obtain ⟨hT, hB9, hbt⟩ := fin3 (.slice A7 pl.length c7) (.int .i64 pn) HR2.out HB2.out HB6.out HW0.out
     have hR9 := RAt.but HQ.out hbt
     clear hbt
     generalize (w6.setCell ⟨b + 1, 0, none⟩ (.slice A7 pl.length c7)).setCell ⟨b + 1, 1, none⟩ (.int .i64 pn) = w9' at hT hB9 hR9 ⊢
     obtain ⟨t0, t1⟩ := hT
     refine bodyPost_ret (v := .tuple #[.agg #[.slice A7 pl.length c7, .int .i64 pn], .int .i64 pe]) (by simp [results, Tryz.results61, go_sem, t0, t1, hu30]) rfl ⟨.agg #[.slice A7 pl.length c7, .int .i64 pn], rfl, hR9, hB9⟩
    ·
     have d1 : (0 : Int) < n := by have := HIN.out; omega
     rw [if_pos hn]
     clear HMK HIN HPU hn
     go_enter Tryz.func61, Tryz.ntmps61
     go_upto_region 1 with (fail)
     generalize (w.alloc (.cells #[.slice A L.length c, .int .i64 last] 30)).alloc (.cells #[.slice none 0 0, .int .i64 0] 30) = w2 at HK ⊢
     have HR1 := qh HK.out.1
     have HR2 := qh HK.out.2.1
     have HB2 := qh HK.out.2.2
     clear HK
     generalize hb0 : w.heap.size = b at HR1 HR2 ⊢
     have HW0 := qh hb0
     clear hb0
     have HX := qh (two_boxes HR1.out HR2.out)
     have HCT := qh (c_later HC.out HB2.out)
     have HRA := qh (r_later (last := last) HLE.out HCT.out)
     have HBi := qh (Below.refl w2.heap.size w2)
     obtain ⟨⟨x0, x1⟩, ⟨r0, r1⟩, f0, f1⟩ := HX.out _ HBi.out
     go_upto_region 2 with (go_at_call 110; refine (HF.out _ (HCT.out _ HBi.out)).mono ?_; rintro e w3 ⟨rfl, hb⟩; have HB3 := qh (HBi.out.trans (hb.mono HBi.out.size)); clear hb; clear x0 x1 r0 r1 f0 f1; obtain ⟨⟨x0, x1⟩, ⟨r0, r1⟩, f0, f1⟩ := HX.out _ HB3.out)
     go_upto_region 7 with (go_at_call 107; refine (HSP.out _ _ (HRA.out _ HB3.out)).mono ?_; rintro e w4 ⟨rfl, hb⟩; have HB4 := qh (HB3.out.trans (hb.mono HB3.out.size)); clear hb; clear x0 x1 r0 r1 f0 f1; obtain ⟨⟨x0, x1⟩, ⟨r0, r1⟩, f0, f1⟩ := HX.out _ HB4.out)
     go_wp2_with (go_at_call 105; refine (HI.out _ (HCT.out _ HB4.out)).mono ?_; rintro e w5 ⟨rfl, hb⟩; have HB5 := qh (HB4.out.trans (hb.mono HB4.out.size)); clear hb; clear x0 x1 r0 r1 f0 f1; obtain ⟨⟨x0, x1⟩, ⟨r0, r1⟩, f0, f1⟩ := HX.out _ HB5.out)
     obtain ⟨hT, hB9, hbt⟩ := fin3 (.slice A L.length c) (.int .i64 last) HR2.out HB2.out HB5.out HW0.out
     have hR9 := RAt.but (HRA.out _ HB5.out) hbt
     clear hbt
     generalize (w5.setCell ⟨b + 1, 0, none⟩ (.slice A L.length c)).setCell ⟨b + 1, 1, none⟩ (.int .i64 last) = w9' at hT hB9 hR9 ⊢
     obtain ⟨t0, t1⟩ := hT
     refine bodyPost_ret (v := .tuple #[.agg #[.slice A L.length c, .int .i64 last], .int .i64 5]) (by simp [results, Tryz.results61, go_sem, t0, t1, hu30]) rfl ⟨.agg #[.slice A L.length c, .int .i64 last], rfl, hR9, hB9⟩
   ·
    rw [if_pos he]
    have b1 : (e != 0) = true := bne_iff_ne.2 he
    clear he HMK HIN HPU HI
    go_enter Tryz.func61, Tryz.ntmps61
    go_upto_region 1 with (fail)
    generalize (w.alloc (.cells #[.slice A L.length c, .int .i64 last] 30)).alloc (.cells #[.slice none 0 0, .int .i64 0] 30) = w2 at HK ⊢
    have HR1 := qh HK.out.1
    have HR2 := qh HK.out.2.1
    have HB2 := qh HK.out.2.2
    clear HK
    generalize hb0 : w.heap.size = b at HR1 HR2 ⊢
    have HW0 := qh hb0
    clear hb0
    have HX := qh (two_boxes HR1.out HR2.out)
    have HCT := qh (c_later HC.out HB2.out)
    have HRA := qh (r_later (last := last) HLE.out HCT.out)
    have HBi := qh (Below.refl w2.heap.size w2)
    obtain ⟨⟨x0, x1⟩, ⟨r0, r1⟩, f0, f1⟩ := HX.out _ HBi.out
    go_upto_region 2 with (go_at_call 110; refine (HF.out _ (HCT.out _ HBi.out)).mono ?_; rintro e w3 ⟨rfl, hb⟩; have HB3 := qh (HBi.out.trans (hb.mono HBi.out.size)); clear hb; clear x0 x1 r0 r1 f0 f1; obtain ⟨⟨x0, x1⟩, ⟨r0, r1⟩, f0, f1⟩ := HX.out _ HB3.out)
    go_wp2_with (go_at_call 107; refine (HSP.out _ _ (HRA.out _ HB3.out)).mono ?_; rintro e w4 ⟨rfl, hb⟩; have HB4 := qh (HB3.out.trans (hb.mono HB3.out.size)); clear hb; clear x0 x1 r0 r1 f0 f1; obtain ⟨⟨x0, x1⟩, ⟨r0, r1⟩, f0, f1⟩ := HX.out _ HB4.out)
    obtain ⟨hT, hB9, hbt⟩ := fin3 (.slice A L.length c) (.int .i64 last) HR2.out HB2.out HB4.out HW0.out
    have hR9 := RAt.but (HRA.out _ HB4.out) hbt
    clear hbt
    generalize (w4.setCell ⟨b + 1, 0, none⟩ (.slice A L.length c)).setCell ⟨b + 1, 1, none⟩ (.int .i64 last) = w9' at hT hB9 hR9 ⊢
    obtain ⟨t0, t1⟩ := hT
    refine bodyPost_ret (v := .tuple #[.agg #[.slice A L.length c, .int .i64 last], .int .i64 e]) (by simp [results, Tryz.results61, go_sem, t0, t1, hu30]) rfl ⟨.agg #[.slice A L.length c, .int .i64 last], rfl, hR9, hB9⟩
  ·
   rw [if_pos h5]
   have b5 : (fe != 5) = true := bne_iff_ne.2 h5
   clear h0 h5 HSP HI HPU HMK HIN HSE
   go_enter Tryz.func61, Tryz.ntmps61
   go_upto_region 1 with (fail)
   generalize (w.alloc (.cells #[.slice A L.length c, .int .i64 last] 30)).alloc (.cells #[.slice none 0 0, .int .i64 0] 30) = w2 at HK ⊢
   have HR1 := qh HK.out.1
   have HR2 := qh HK.out.2.1
   have HB2 := qh HK.out.2.2
   clear HK
   generalize hb0 : w.heap.size = b at HR1 HR2 ⊢
   have HW0 := qh hb0
   clear hb0
   have HX := qh (two_boxes HR1.out HR2.out)
   have HCT := qh (c_later HC.out HB2.out)
   have HRA := qh (r_later (last := last) HLE.out HCT.out)
   have HBi := qh (Below.refl w2.heap.size w2)
   obtain ⟨⟨x0, x1⟩, ⟨r0, r1⟩, f0, f1⟩ := HX.out _ HBi.out
   go_wp2_with (go_at_call 110; refine (HF.out _ (HCT.out _ HBi.out)).mono ?_; rintro e w3 ⟨rfl, hb⟩; have HB3 := qh (HBi.out.trans (hb.mono HBi.out.size)); clear hb; clear x0 x1 r0 r1 f0 f1; obtain ⟨⟨x0, x1⟩, ⟨r0, r1⟩, f0, f1⟩ := HX.out _ HB3.out)
   obtain ⟨hT, hB9, hbt⟩ := fin3 (.slice A L.length c) (.int .i64 last) HR2.out HB2.out HB3.out HW0.out
   have hR9 := RAt.but (HRA.out _ HB3.out) hbt
   clear hbt
   generalize (w3.setCell ⟨b + 1, 0, none⟩ (.slice A L.length c)).setCell ⟨b + 1, 1, none⟩ (.int .i64 last) = w9' at hT hB9 hR9 ⊢
   obtain ⟨t0, t1⟩ := hT
   refine bodyPost_ret (v := .tuple #[.agg #[.slice A L.length c, .int .i64 last], .int .i64 fe]) (by simp [results, Tryz.results61, go_sem, t0, t1, hu30]) rfl ⟨.agg #[.slice A L.length c, .int .i64 last], rfl, hR9, hB9⟩
end Go.Proofs.YtnpeeiikdcankaaGreat.Tw
