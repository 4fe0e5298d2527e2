/- Texts of this session, merged: Tmove, TmoveOk, X4, PureR04, PureIs, X5, X6, X7, Ref7, Rel, Rput, RputOk, RelPut, Frm, MadeF, Good, RelOps, RelCut. -/
import Derived.Test.YtnpeeiikdcankaaGreatQA0
import Derived.Test.YtnpeeiikdcankaaGreatQA1
import Derived.LoopN
import Derived.Deep.RegionHeld3
import Derived.Deep.RegionLaw
set_option linter.unusedVariables false
set_option linter.unusedSimpArgs false

set_option maxHeartbeats 8000000
set_option maxRecDepth 1000000
namespace Go.Proofs.YtnpeeiikdcankaaGreat.Tw
open Go Go.RowKit Go.Shelf Go.Proofs Go.Proofs.YtnpeeiikdcankaaGreat Go.Proofs.YtnpeeiikdcankaaGreatW.PrintWords Go.Proofs.YtnpeeiikdcankaaGreat.Ext Go.Proofs.YtnpeeiikdcankaaGreat.X Go.Proofs.YtnpeeiikdcankaaGreat.Pu
def movE (T : Tr) (fr : Int) (s : ByteArray) (td : Int) (z : ByteArray) (ins : Bool) : Int :=
 if dirE (T.node fr).kind ≠ 0 then dirE (T.node fr).kind else if dirE (T.node td).kind ≠ 0 then dirE (T.node td).kind else
  if (findE (T.node fr).ents s).2 = false then 5 else if Sp.check z.data.toList ≠ 0 then Sp.check z.data.toList else
   if (T.node (findE (T.node fr).ents s).1).kind = 1 ∧ ins = true then 14 else
    if (roomE T (findE (T.node fr).ents s).1 td z).1 = true then 0 else (roomE T (findE (T.node fr).ents s).1 td z).2
def movS (T : Tr) (fr : Int) (s : ByteArray) (td : Int) (z : ByteArray) (ins : Bool) : Prop :=
 movE T fr s td z ins ≠ 0 ∨ (roomE T (findE (T.node fr).ents s).1 td z).1 = true
theorem roomE_true {T : Tr} {n td : Int} {z : ByteArray} (h : (roomE T n td z).1 = true) : (roomE T n td z).2 = 0 := by
 unfold roomE at h ⊢
 by_cases h1 : (findE (T.node td).ents z).2 = false
 · rw [if_pos h1] at h; cases h
 ·
  rw [if_neg h1] at h ⊢
  by_cases h2 : (findE (T.node td).ents z).1 = n
  · rw [if_pos h2]
  ·
   rw [if_neg h2] at h
   split at h
   · cases h
   ·
    split at h
    · cases h
    · cases h
theorem move_stay (p B : Nat) (T : Tr) (fr : Int) (s : ByteArray) (td : Int) (z : ByteArray) (ins : Bool) (k : Nat) (w : World) (h : TreeB w p B T) (hO : TrOK T) (hfr : wf fr) (htd : wf td) (hz : z.size < 4294967281)
  (hins : dirE (T.node td).kind = 0 → (T.node (findE (T.node fr).ents s).1).kind = 1 → insF T k td (findE (T.node fr).ents s).1 = some ins) (he : movS T fr s td z ins) :
  Calls Tryz.prog 115 #[pT p, .int .i64 fr, .string s, .int .i64 td, .string z] w fun e w' => e = .returned (.int .i64 (movE T fr s td z ins)) ∧ Below w.heap.size w w' := by
 have HD1 := qh (fun W h => dir_calls p T fr W h hfr)
 have HD2 := qh (fun W h => dir_calls p T td W h htd)
 have HT := qh h
 have HLF := qh (fun W (h : TreeB W p B T) => h.look fr hfr)
 have HF := qh (fun W A c h hc => find_calls A c (T.node fr).ents s W h hc (hO.small.node fr) (hO.sorted.node fr))
 have hwn := hO.wf_find fr s
 have HRM := qh (fun W h hne => room_stay p B T (findE (T.node fr).ents s).1 td z W h hwn htd (hO.small.node td) (hO.sorted.node td) (hO.wf_find td z) (.inl hne))
 have HLN := qh (fun W (h : TreeB W p B T) => h.look _ hwn)
 have HIN := qh (fun W h r hr => inside_calls p B T td (findE (T.node fr).ents s).1 k r W h hO htd hr)
 have HCK := qh (fun W => name_Check.calls z (Sp.check z.data.toList) W (by rw [name_Check.f, if_pos hz]))
 have HRE := qh (fun h => roomE_true (T := T) (n := (findE (T.node fr).ents s).1) (td := td) (z := z) h)
 clear h hO hwn hfr htd hz
 unfold movS at he
 unfold movE at he ⊢
 generalize roomE T (findE (T.node fr).ents s).1 td z = re at *
 generalize dirE (T.node fr).kind = e1 at *
 generalize dirE (T.node td).kind = e2 at *
 generalize Sp.check z.data.toList = ck at *
 generalize insF T k td (findE (T.node fr).ents s).1 = iq at *
 generalize T.node (findE (T.node fr).ents s).1 = yn at *
 generalize T.node fr = xf at *
 obtain ⟨kf, uf, df, lf⟩ := xf
 obtain ⟨kn, un, dn, ln⟩ := yn
 simp only [] at *
 generalize findE lf s = fe at *
 obtain ⟨n, fb⟩ := fe
 simp only [] at *
 by_cases h1 : e1 = 0
 ·
  subst h1
  rw [if_neg (by simp)] at he ⊢
  by_cases h2 : e2 = 0
  ·
   subst h2
   have hins := hins rfl
   rw [if_neg (by simp)] at he ⊢
   cases fb with
   | false =>
    rw [if_pos rfl]
    clear he hins HRM HLN HIN HCK
    go_enter Tryz.func115, Tryz.ntmps115
    go_wp2
    have hh1 := heap_alloc_new w (.cells #[.int .i64 fr, .int .i64 td] 3)
    have hb1 := (Below.refl _ w).alloc (Nat.le_refl _) (.cells #[.int .i64 fr, .int .i64 td] 3)
    generalize w.alloc (.cells #[.int .i64 fr, .int .i64 td] 3) = w1 at hh1 hb1 ⊢
    have HB1 := qh hb1
    have HT1 := qh (HT.out.below hb1)
    generalize hge : w.heap.size = g at hh1 HB1 ⊢
    have HGE := qh hge
    have HH1 := qh hh1
    have x0 : w1.cell? ⟨g, 0, none⟩ = some (.int .i64 fr) := by rw [blk_cell hh1]; rfl
    clear hge hh1 hb1 HT
    refine wp_loop_rounds 3 ?_
    rw [rounds_succ]
    go_wp2_with (go_at_call 97; refine (HD1.out _ HT1.out.at_).mono ?_; rintro e w2 ⟨rfl, hb2⟩; have HT2 := qh (HT1.out.below hb2); have HB2 := qh (HB1.out.trans (hb2.mono (by rw [← HGE.out]; exact HB1.out.size))); have hh2 := (hb2.block g (blk_lt HH1.out)).trans HH1.out; have x1 : w2.cell? ⟨g, 1, none⟩ = some (.int .i64 td) := (by rw [blk_cell hh2]; rfl); clear hh2 hb2)
    clear x0
    rw [rounds_succ]
    go_wp2_with (go_at_call 97; refine (HD2.out _ HT2.out.at_).mono ?_; rintro e w3 ⟨rfl, hb3⟩; have HT3 := qh (HT2.out.below hb3); have HB3 := qh (HB2.out.trans (hb3.mono (by rw [← HGE.out]; exact HB2.out.size))); clear hb3)
    have c3 := HT3.out.cell0
    obtain ⟨A3, m3, hle3, hC3, hrun⟩ := HLF.out _ HT3.out
    have hrun3 := hrun _ (Below.refl _ _)
    have HC3 := qh hC3
    clear hrun hC3 x1
    rw [rounds_succ]
    go_wp2_with (go_at_call 94; refine (HF.out _ _ _ HC3.out hle3).mono ?_; rintro e w4 ⟨rfl, hb4⟩; have HT4 := qh (HT3.out.below hb4); have HB4 := qh (HB3.out.trans (hb4.mono (by rw [← HGE.out]; exact HB3.out.size))); clear hb4)
    go_ret
    exact ⟨rfl, by rw [HGE.out]; exact HB4.out⟩
   | true =>
    rw [if_neg (by simp)] at he ⊢
    by_cases h3 : ck = 0
    ·
     subst h3
     rw [if_neg (by simp)] at he ⊢
     by_cases hkn : kn = 1
     ·
      subst hkn
      have hins := hins rfl
      cases ins with
      | true =>
       rw [if_pos ⟨rfl, rfl⟩]
       have HIN := qh (fun W h => HIN.out W h true hins)
       clear he HRM hins
       go_enter Tryz.func115, Tryz.ntmps115
       go_wp2
       have hh1 := heap_alloc_new w (.cells #[.int .i64 fr, .int .i64 td] 3)
       have hb1 := (Below.refl _ w).alloc (Nat.le_refl _) (.cells #[.int .i64 fr, .int .i64 td] 3)
       generalize w.alloc (.cells #[.int .i64 fr, .int .i64 td] 3) = w1 at hh1 hb1 ⊢
       have HB1 := qh hb1
       have HT1 := qh (HT.out.below hb1)
       generalize hge : w.heap.size = g at hh1 HB1 ⊢
       have HGE := qh hge
       have HH1 := qh hh1
       have x0 : w1.cell? ⟨g, 0, none⟩ = some (.int .i64 fr) := by rw [blk_cell hh1]; rfl
       clear hge hh1 hb1 HT
       refine wp_loop_rounds 3 ?_
       rw [rounds_succ]
       go_wp2_with (go_at_call 97; refine (HD1.out _ HT1.out.at_).mono ?_; rintro e w2 ⟨rfl, hb2⟩; have HT2 := qh (HT1.out.below hb2); have HB2 := qh (HB1.out.trans (hb2.mono (by rw [← HGE.out]; exact HB1.out.size))); have hh2 := (hb2.block g (blk_lt HH1.out)).trans HH1.out; have x1 : w2.cell? ⟨g, 1, none⟩ = some (.int .i64 td) := (by rw [blk_cell hh2]; rfl); clear hh2 hb2)
       clear x0
       rw [rounds_succ]
       go_wp2_with (go_at_call 97; refine (HD2.out _ HT2.out.at_).mono ?_; rintro e w3 ⟨rfl, hb3⟩; have HT3 := qh (HT2.out.below hb3); have HB3 := qh (HB2.out.trans (hb3.mono (by rw [← HGE.out]; exact HB2.out.size))); clear hb3)
       have c3 := HT3.out.cell0
       obtain ⟨A3, m3, hle3, hC3, hrun⟩ := HLF.out _ HT3.out
       have hrun3 := hrun _ (Below.refl _ _)
       have HC3 := qh hC3
       clear hrun hC3 x1
       rw [rounds_succ]
       go_wp2_with (first | (go_at_call 94; refine (HF.out _ _ _ HC3.out hle3).mono ?_; rintro e w4 ⟨rfl, hb4⟩; have HT4 := qh (HT3.out.below hb4); have HB4 := qh (HB3.out.trans (hb4.mono (by rw [← HGE.out]; exact HB3.out.size))); clear hb4) | (go_at_call 98; refine (HCK.out _).mono ?_; rintro e w5 ⟨rfl, hb5⟩; have HT5 := qh (HT4.out.below hb5); have HB5 := qh (HB4.out.trans (hb5.mono (by rw [← HGE.out]; exact HB4.out.size))); have c5 := HT5.out.cell0; obtain ⟨A5, m5, hle5, hC5, hrun⟩ := HLN.out _ HT5.out; have hrun5 := hrun _ (Below.refl _ _); clear hrun hC5 hb5) | (go_at_call 147; refine (HIN.out _ HT5.out).mono ?_; rintro e w6 ⟨rfl, rfl⟩))
       go_ret
       exact ⟨rfl, by rw [HGE.out]; exact HB5.out⟩
      | false =>
       rw [if_neg (by simp)] at he ⊢
       have HIN := qh (fun W h => HIN.out W h false hins)
       have hne : re ≠ (false, 0) := by
        rintro rfl
        rcases he with he | he
        · exact he rfl
        · cases he
       have HRM := qh (fun W h => HRM.out W h hne)
       clear he hins
       obtain ⟨rb, rq⟩ := re
       cases rb with
       | true =>
        rw [if_pos rfl]
        clear hne
        have hq0 := HRE.out rfl
        simp only [] at hq0
        subst hq0
        simp only [] at HRM
        go_enter Tryz.func115, Tryz.ntmps115
        go_wp2
        have hh1 := heap_alloc_new w (.cells #[.int .i64 fr, .int .i64 td] 3)
        have hb1 := (Below.refl _ w).alloc (Nat.le_refl _) (.cells #[.int .i64 fr, .int .i64 td] 3)
        generalize w.alloc (.cells #[.int .i64 fr, .int .i64 td] 3) = w1 at hh1 hb1 ⊢
        have HB1 := qh hb1
        have HT1 := qh (HT.out.below hb1)
        generalize hge : w.heap.size = g at hh1 HB1 ⊢
        have HGE := qh hge
        have HH1 := qh hh1
        have x0 : w1.cell? ⟨g, 0, none⟩ = some (.int .i64 fr) := by rw [blk_cell hh1]; rfl
        clear hge hh1 hb1 HT
        refine wp_loop_rounds 3 ?_
        rw [rounds_succ]
        go_wp2_with (go_at_call 97; refine (HD1.out _ HT1.out.at_).mono ?_; rintro e w2 ⟨rfl, hb2⟩; have HT2 := qh (HT1.out.below hb2); have HB2 := qh (HB1.out.trans (hb2.mono (by rw [← HGE.out]; exact HB1.out.size))); have hh2 := (hb2.block g (blk_lt HH1.out)).trans HH1.out; have x1 : w2.cell? ⟨g, 1, none⟩ = some (.int .i64 td) := (by rw [blk_cell hh2]; rfl); clear hh2 hb2)
        clear x0
        rw [rounds_succ]
        go_wp2_with (go_at_call 97; refine (HD2.out _ HT2.out.at_).mono ?_; rintro e w3 ⟨rfl, hb3⟩; have HT3 := qh (HT2.out.below hb3); have HB3 := qh (HB2.out.trans (hb3.mono (by rw [← HGE.out]; exact HB2.out.size))); clear hb3)
        have c3 := HT3.out.cell0
        obtain ⟨A3, m3, hle3, hC3, hrun⟩ := HLF.out _ HT3.out
        have hrun3 := hrun _ (Below.refl _ _)
        have HC3 := qh hC3
        clear hrun hC3 x1
        rw [rounds_succ]
        go_wp2_with (first | (go_at_call 94; refine (HF.out _ _ _ HC3.out hle3).mono ?_; rintro e w4 ⟨rfl, hb4⟩; have HT4 := qh (HT3.out.below hb4); have HB4 := qh (HB3.out.trans (hb4.mono (by rw [← HGE.out]; exact HB3.out.size))); clear hb4) | (go_at_call 98; refine (HCK.out _).mono ?_; rintro e w5 ⟨rfl, hb5⟩; have HT5 := qh (HT4.out.below hb5); have HB5 := qh (HB4.out.trans (hb5.mono (by rw [← HGE.out]; exact HB4.out.size))); have c5 := HT5.out.cell0; obtain ⟨A5, m5, hle5, hC5, hrun⟩ := HLN.out _ HT5.out; have hrun5 := hrun _ (Below.refl _ _); clear hrun hC5 hb5) | (go_at_call 147; refine (HIN.out _ HT5.out).mono ?_; rintro e w6 ⟨rfl, rfl⟩) | (go_at_call 148; refine (HRM.out _ HT5.out).mono ?_; rintro e w7 ⟨rfl, hb7⟩; have HB7 := qh (HB5.out.trans (hb7.mono (by rw [← HGE.out]; exact HB5.out.size))); clear hb7))
        go_ret
        exact ⟨rfl, by rw [HGE.out]; exact HB7.out⟩
       | false =>
        rw [if_neg (by simp)]
        have b4 : (rq != 0) = true := bne_iff_ne.2 (fun e => hne (by rw [e]))
        clear hne
        simp only [] at HRM
        go_enter Tryz.func115, Tryz.ntmps115
        go_wp2
        have hh1 := heap_alloc_new w (.cells #[.int .i64 fr, .int .i64 td] 3)
        have hb1 := (Below.refl _ w).alloc (Nat.le_refl _) (.cells #[.int .i64 fr, .int .i64 td] 3)
        generalize w.alloc (.cells #[.int .i64 fr, .int .i64 td] 3) = w1 at hh1 hb1 ⊢
        have HB1 := qh hb1
        have HT1 := qh (HT.out.below hb1)
        generalize hge : w.heap.size = g at hh1 HB1 ⊢
        have HGE := qh hge
        have HH1 := qh hh1
        have x0 : w1.cell? ⟨g, 0, none⟩ = some (.int .i64 fr) := by rw [blk_cell hh1]; rfl
        clear hge hh1 hb1 HT
        refine wp_loop_rounds 3 ?_
        rw [rounds_succ]
        go_wp2_with (go_at_call 97; refine (HD1.out _ HT1.out.at_).mono ?_; rintro e w2 ⟨rfl, hb2⟩; have HT2 := qh (HT1.out.below hb2); have HB2 := qh (HB1.out.trans (hb2.mono (by rw [← HGE.out]; exact HB1.out.size))); have hh2 := (hb2.block g (blk_lt HH1.out)).trans HH1.out; have x1 : w2.cell? ⟨g, 1, none⟩ = some (.int .i64 td) := (by rw [blk_cell hh2]; rfl); clear hh2 hb2)
        clear x0
        rw [rounds_succ]
        go_wp2_with (go_at_call 97; refine (HD2.out _ HT2.out.at_).mono ?_; rintro e w3 ⟨rfl, hb3⟩; have HT3 := qh (HT2.out.below hb3); have HB3 := qh (HB2.out.trans (hb3.mono (by rw [← HGE.out]; exact HB2.out.size))); clear hb3)
        have c3 := HT3.out.cell0
        obtain ⟨A3, m3, hle3, hC3, hrun⟩ := HLF.out _ HT3.out
        have hrun3 := hrun _ (Below.refl _ _)
        have HC3 := qh hC3
        clear hrun hC3 x1
        rw [rounds_succ]
        go_wp2_with (first | (go_at_call 94; refine (HF.out _ _ _ HC3.out hle3).mono ?_; rintro e w4 ⟨rfl, hb4⟩; have HT4 := qh (HT3.out.below hb4); have HB4 := qh (HB3.out.trans (hb4.mono (by rw [← HGE.out]; exact HB3.out.size))); clear hb4) | (go_at_call 98; refine (HCK.out _).mono ?_; rintro e w5 ⟨rfl, hb5⟩; have HT5 := qh (HT4.out.below hb5); have HB5 := qh (HB4.out.trans (hb5.mono (by rw [← HGE.out]; exact HB4.out.size))); have c5 := HT5.out.cell0; obtain ⟨A5, m5, hle5, hC5, hrun⟩ := HLN.out _ HT5.out; have hrun5 := hrun _ (Below.refl _ _); clear hrun hC5 hb5) | (go_at_call 147; refine (HIN.out _ HT5.out).mono ?_; rintro e w6 ⟨rfl, rfl⟩) | (go_at_call 148; refine (HRM.out _ HT5.out).mono ?_; rintro e w7 ⟨rfl, hb7⟩; have HB7 := qh (HB5.out.trans (hb7.mono (by rw [← HGE.out]; exact HB5.out.size))); clear hb7))
        go_ret
        exact ⟨rfl, by rw [HGE.out]; exact HB7.out⟩
     ·
      rw [if_neg (fun h => hkn h.1)] at he ⊢
      have b5 : (kn == 1) = false := beq_eq_false_iff_ne.2 hkn
      have hne : re ≠ (false, 0) := by
       rintro rfl
       rcases he with he | he
       · exact he rfl
       · cases he
      have HRM := qh (fun W h => HRM.out W h hne)
      clear he hins HIN hkn
      obtain ⟨rb, rq⟩ := re
      cases rb with
      | true =>
       rw [if_pos rfl]
       clear hne
       have hq0 := HRE.out rfl
       simp only [] at hq0
       subst hq0
       simp only [] at HRM
       go_enter Tryz.func115, Tryz.ntmps115
       go_wp2
       have hh1 := heap_alloc_new w (.cells #[.int .i64 fr, .int .i64 td] 3)
       have hb1 := (Below.refl _ w).alloc (Nat.le_refl _) (.cells #[.int .i64 fr, .int .i64 td] 3)
       generalize w.alloc (.cells #[.int .i64 fr, .int .i64 td] 3) = w1 at hh1 hb1 ⊢
       have HB1 := qh hb1
       have HT1 := qh (HT.out.below hb1)
       generalize hge : w.heap.size = g at hh1 HB1 ⊢
       have HGE := qh hge
       have HH1 := qh hh1
       have x0 : w1.cell? ⟨g, 0, none⟩ = some (.int .i64 fr) := by rw [blk_cell hh1]; rfl
       clear hge hh1 hb1 HT
       refine wp_loop_rounds 3 ?_
       rw [rounds_succ]
       go_wp2_with (go_at_call 97; refine (HD1.out _ HT1.out.at_).mono ?_; rintro e w2 ⟨rfl, hb2⟩; have HT2 := qh (HT1.out.below hb2); have HB2 := qh (HB1.out.trans (hb2.mono (by rw [← HGE.out]; exact HB1.out.size))); have hh2 := (hb2.block g (blk_lt HH1.out)).trans HH1.out; have x1 : w2.cell? ⟨g, 1, none⟩ = some (.int .i64 td) := (by rw [blk_cell hh2]; rfl); clear hh2 hb2)
       clear x0
       rw [rounds_succ]
       go_wp2_with (go_at_call 97; refine (HD2.out _ HT2.out.at_).mono ?_; rintro e w3 ⟨rfl, hb3⟩; have HT3 := qh (HT2.out.below hb3); have HB3 := qh (HB2.out.trans (hb3.mono (by rw [← HGE.out]; exact HB2.out.size))); clear hb3)
       have c3 := HT3.out.cell0
       obtain ⟨A3, m3, hle3, hC3, hrun⟩ := HLF.out _ HT3.out
       have hrun3 := hrun _ (Below.refl _ _)
       have HC3 := qh hC3
       clear hrun hC3 x1
       rw [rounds_succ]
       go_wp2_with (first | (go_at_call 94; refine (HF.out _ _ _ HC3.out hle3).mono ?_; rintro e w4 ⟨rfl, hb4⟩; have HT4 := qh (HT3.out.below hb4); have HB4 := qh (HB3.out.trans (hb4.mono (by rw [← HGE.out]; exact HB3.out.size))); clear hb4) | (go_at_call 98; refine (HCK.out _).mono ?_; rintro e w5 ⟨rfl, hb5⟩; have HT5 := qh (HT4.out.below hb5); have HB5 := qh (HB4.out.trans (hb5.mono (by rw [← HGE.out]; exact HB4.out.size))); have c5 := HT5.out.cell0; obtain ⟨A5, m5, hle5, hC5, hrun⟩ := HLN.out _ HT5.out; have hrun5 := hrun _ (Below.refl _ _); clear hrun hC5 hb5) | (go_at_call 148; refine (HRM.out _ HT5.out).mono ?_; rintro e w7 ⟨rfl, hb7⟩; have HB7 := qh (HB5.out.trans (hb7.mono (by rw [← HGE.out]; exact HB5.out.size))); clear hb7))
       go_ret
       exact ⟨rfl, by rw [HGE.out]; exact HB7.out⟩
      | false =>
       rw [if_neg (by simp)]
       have b4 : (rq != 0) = true := bne_iff_ne.2 (fun e => hne (by rw [e]))
       clear hne
       simp only [] at HRM
       go_enter Tryz.func115, Tryz.ntmps115
       go_wp2
       have hh1 := heap_alloc_new w (.cells #[.int .i64 fr, .int .i64 td] 3)
       have hb1 := (Below.refl _ w).alloc (Nat.le_refl _) (.cells #[.int .i64 fr, .int .i64 td] 3)
       generalize w.alloc (.cells #[.int .i64 fr, .int .i64 td] 3) = w1 at hh1 hb1 ⊢
       have HB1 := qh hb1
       have HT1 := qh (HT.out.below hb1)
       generalize hge : w.heap.size = g at hh1 HB1 ⊢
       have HGE := qh hge
       have HH1 := qh hh1
       have x0 : w1.cell? ⟨g, 0, none⟩ = some (.int .i64 fr) := by rw [blk_cell hh1]; rfl
       clear hge hh1 hb1 HT
       refine wp_loop_rounds 3 ?_
       rw [rounds_succ]
       go_wp2_with (go_at_call 97; refine (HD1.out _ HT1.out.at_).mono ?_; rintro e w2 ⟨rfl, hb2⟩; have HT2 := qh (HT1.out.below hb2); have HB2 := qh (HB1.out.trans (hb2.mono (by rw [← HGE.out]; exact HB1.out.size))); have hh2 := (hb2.block g (blk_lt HH1.out)).trans HH1.out; have x1 : w2.cell? ⟨g, 1, none⟩ = some (.int .i64 td) := (by rw [blk_cell hh2]; rfl); clear hh2 hb2)
       clear x0
       rw [rounds_succ]
       go_wp2_with (go_at_call 97; refine (HD2.out _ HT2.out.at_).mono ?_; rintro e w3 ⟨rfl, hb3⟩; have HT3 := qh (HT2.out.below hb3); have HB3 := qh (HB2.out.trans (hb3.mono (by rw [← HGE.out]; exact HB2.out.size))); clear hb3)
       have c3 := HT3.out.cell0
       obtain ⟨A3, m3, hle3, hC3, hrun⟩ := HLF.out _ HT3.out
       have hrun3 := hrun _ (Below.refl _ _)
       have HC3 := qh hC3
       clear hrun hC3 x1
       rw [rounds_succ]
       go_wp2_with (first | (go_at_call 94; refine (HF.out _ _ _ HC3.out hle3).mono ?_; rintro e w4 ⟨rfl, hb4⟩; have HT4 := qh (HT3.out.below hb4); have HB4 := qh (HB3.out.trans (hb4.mono (by rw [← HGE.out]; exact HB3.out.size))); clear hb4) | (go_at_call 98; refine (HCK.out _).mono ?_; rintro e w5 ⟨rfl, hb5⟩; have HT5 := qh (HT4.out.below hb5); have HB5 := qh (HB4.out.trans (hb5.mono (by rw [← HGE.out]; exact HB4.out.size))); have c5 := HT5.out.cell0; obtain ⟨A5, m5, hle5, hC5, hrun⟩ := HLN.out _ HT5.out; have hrun5 := hrun _ (Below.refl _ _); clear hrun hC5 hb5) | (go_at_call 148; refine (HRM.out _ HT5.out).mono ?_; rintro e w7 ⟨rfl, hb7⟩; have HB7 := qh (HB5.out.trans (hb7.mono (by rw [← HGE.out]; exact HB5.out.size))); clear hb7))
       go_ret
       exact ⟨rfl, by rw [HGE.out]; exact HB7.out⟩
    ·
     rw [if_pos h3]
     have b3 : (ck != 0) = true := bne_iff_ne.2 h3
     clear he hins HRM HLN HIN h3
     go_enter Tryz.func115, Tryz.ntmps115
     go_wp2
     have hh1 := heap_alloc_new w (.cells #[.int .i64 fr, .int .i64 td] 3)
     have hb1 := (Below.refl _ w).alloc (Nat.le_refl _) (.cells #[.int .i64 fr, .int .i64 td] 3)
     generalize w.alloc (.cells #[.int .i64 fr, .int .i64 td] 3) = w1 at hh1 hb1 ⊢
     have HB1 := qh hb1
     have HT1 := qh (HT.out.below hb1)
     generalize hge : w.heap.size = g at hh1 HB1 ⊢
     have HGE := qh hge
     have HH1 := qh hh1
     have x0 : w1.cell? ⟨g, 0, none⟩ = some (.int .i64 fr) := by rw [blk_cell hh1]; rfl
     clear hge hh1 hb1 HT
     refine wp_loop_rounds 3 ?_
     rw [rounds_succ]
     go_wp2_with (go_at_call 97; refine (HD1.out _ HT1.out.at_).mono ?_; rintro e w2 ⟨rfl, hb2⟩; have HT2 := qh (HT1.out.below hb2); have HB2 := qh (HB1.out.trans (hb2.mono (by rw [← HGE.out]; exact HB1.out.size))); have hh2 := (hb2.block g (blk_lt HH1.out)).trans HH1.out; have x1 : w2.cell? ⟨g, 1, none⟩ = some (.int .i64 td) := (by rw [blk_cell hh2]; rfl); clear hh2 hb2)
     clear x0
     rw [rounds_succ]
     go_wp2_with (go_at_call 97; refine (HD2.out _ HT2.out.at_).mono ?_; rintro e w3 ⟨rfl, hb3⟩; have HT3 := qh (HT2.out.below hb3); have HB3 := qh (HB2.out.trans (hb3.mono (by rw [← HGE.out]; exact HB2.out.size))); clear hb3)
     have c3 := HT3.out.cell0
     obtain ⟨A3, m3, hle3, hC3, hrun⟩ := HLF.out _ HT3.out
     have hrun3 := hrun _ (Below.refl _ _)
     have HC3 := qh hC3
     clear hrun hC3 x1
     rw [rounds_succ]
     go_wp2_with (first | (go_at_call 94; refine (HF.out _ _ _ HC3.out hle3).mono ?_; rintro e w4 ⟨rfl, hb4⟩; have HT4 := qh (HT3.out.below hb4); have HB4 := qh (HB3.out.trans (hb4.mono (by rw [← HGE.out]; exact HB3.out.size))); clear hb4) | (go_at_call 98; refine (HCK.out _).mono ?_; rintro e w5 ⟨rfl, hb5⟩; have HB5 := qh (HB4.out.trans (hb5.mono (by rw [← HGE.out]; exact HB4.out.size)))))
     go_ret
     exact ⟨rfl, by rw [HGE.out]; exact HB5.out⟩
  ·
   rw [if_pos h2]
   have b2 : (e2 != 0) = true := bne_iff_ne.2 h2
   clear hins he h2 HF HRM HLN HIN HCK HLF
   go_enter Tryz.func115, Tryz.ntmps115
   go_wp2
   have hh1 := heap_alloc_new w (.cells #[.int .i64 fr, .int .i64 td] 3)
   have hb1 := (Below.refl _ w).alloc (Nat.le_refl _) (.cells #[.int .i64 fr, .int .i64 td] 3)
   generalize w.alloc (.cells #[.int .i64 fr, .int .i64 td] 3) = w1 at hh1 hb1 ⊢
   have HB1 := qh hb1
   have HT1 := qh (HT.out.below hb1)
   generalize hge : w.heap.size = g at hh1 HB1 ⊢
   have HGE := qh hge
   have HH1 := qh hh1
   have x0 : w1.cell? ⟨g, 0, none⟩ = some (.int .i64 fr) := by rw [blk_cell hh1]; rfl
   clear hge hh1 hb1 HT
   refine wp_loop_rounds 3 ?_
   rw [rounds_succ]
   go_wp2_with (go_at_call 97; refine (HD1.out _ HT1.out.at_).mono ?_; rintro e w2 ⟨rfl, hb2⟩; have HT2 := qh (HT1.out.below hb2); have HB2 := qh (HB1.out.trans (hb2.mono (by rw [← HGE.out]; exact HB1.out.size))); have hh2 := (hb2.block g (blk_lt HH1.out)).trans HH1.out; have x1 : w2.cell? ⟨g, 1, none⟩ = some (.int .i64 td) := (by rw [blk_cell hh2]; rfl); clear hh2 hb2)
   clear x0
   rw [rounds_succ]
   go_wp2_with (go_at_call 97; refine (HD2.out _ HT2.out.at_).mono ?_; rintro e w3 ⟨rfl, hb3⟩; have HT3 := qh (HT2.out.below hb3); have HB3 := qh (HB2.out.trans (hb3.mono (by rw [← HGE.out]; exact HB2.out.size))); clear hb3)
   go_ret
   exact ⟨rfl, by rw [HGE.out]; exact HB3.out⟩
 ·
  rw [if_pos h1]
  have b1 : (e1 != 0) = true := bne_iff_ne.2 h1
  clear hins he h1 HF HRM HLN HIN HCK HLF HD2
  go_enter Tryz.func115, Tryz.ntmps115
  go_wp2
  have hh1 := heap_alloc_new w (.cells #[.int .i64 fr, .int .i64 td] 3)
  have hb1 := (Below.refl _ w).alloc (Nat.le_refl _) (.cells #[.int .i64 fr, .int .i64 td] 3)
  generalize w.alloc (.cells #[.int .i64 fr, .int .i64 td] 3) = w1 at hh1 hb1 ⊢
  have HB1 := qh hb1
  have HT1 := qh (HT.out.below hb1)
  generalize hge : w.heap.size = g at hh1 HB1 ⊢
  have HGE := qh hge
  have HH1 := qh hh1
  have x0 : w1.cell? ⟨g, 0, none⟩ = some (.int .i64 fr) := by rw [blk_cell hh1]; rfl
  clear hge hh1 hb1 HT
  refine wp_loop_rounds 3 ?_
  rw [rounds_succ]
  go_wp2_with (go_at_call 97; refine (HD1.out _ HT1.out.at_).mono ?_; rintro e w2 ⟨rfl, hb2⟩; have HT2 := qh (HT1.out.below hb2); have HB2 := qh (HB1.out.trans (hb2.mono (by rw [← HGE.out]; exact HB1.out.size))); have hh2 := (hb2.block g (blk_lt HH1.out)).trans HH1.out; have x1 : w2.cell? ⟨g, 1, none⟩ = some (.int .i64 td) := (by rw [blk_cell hh2]; rfl); clear hh2 hb2)
  go_ret
  exact ⟨rfl, by rw [HGE.out]; exact HB2.out⟩
def mvA (T : Tr) (td : Int) (z : ByteArray) : Tr := roomT T td z
def mvB (T1 : Tr) (n td : Int) : Tr := T1.set n { T1.node n with up := td }
def mvC (T2 : Tr) (fr : Int) (s : ByteArray) : Tr := T2.enter fr (cutEn (T2.node fr).ents s)
def mvD (T3 : Tr) (td n : Int) (z : ByteArray) : Tr := T3.enter td (insE (T3.node td).ents ⟨z, n⟩)
theorem move_ok (p B : Nat) (T T1 T2 T3 : Tr) (fr : Int) (s : ByteArray) (td : Int) (z : ByteArray) (n : Int) (ins : Bool) (k : Nat) (w : World) (h : TreeB w p B T) (hO : TrOK T) (hfr : wf fr) (htd : wf td) (hz : z.size < 4294967281)
  (hfind : findE (T.node fr).ents s = (n, true)) (h1 : (T.node fr).kind = 1) (h2 : (T.node td).kind = 1) (hck : Sp.check z.data.toList = 0)
  (hins : (T.node n).kind = 1 → insF T k td n = some false) (hrm : roomE T n td z = (false, 0)) (hcnt : T.cnt < 1000000)
  (e1 : T1 = mvA T td z) (e2 : T2 = mvB T1 n td) (e3 : T3 = mvC T2 fr s)
  (c1 : T1.cnt < 1000000) (c2 : T2.cnt < 1000000) (c3 : T3.cnt < 1000000)
  (f1 : (T2.node fr).ents.length < 4294967296) (f2 : Rt (T2.node fr).ents) (f3 : (findE (T2.node fr).ents s).2 = true)
  (t1 : (T3.node td).ents.length < 4294967296) (t2 : Rt (T3.node td).ents) (t3 : (findE (T3.node td).ents z).2 = false) :
  Calls Tryz.prog 115 #[pT p, .int .i64 fr, .string s, .int .i64 td, .string z] w fun e w' => e = .returned (.int .i64 0) ∧ TreeB w' p B (mvD T3 td n z) ∧ Frm w w' p B := by
 have HD1 := qh (fun W h => dir_calls p T fr W h hfr)
 have HD2 := qh (fun W h => dir_calls p T td W h htd)
 rw [h1] at HD1
 rw [h2] at HD2
 rw [show dirE 1 = 0 from rfl] at HD1 HD2
 have HT := qh h
 have HLF := qh (fun W (h : TreeB W p B T) => h.look fr hfr)
 have HF := qh (fun W A c h hc => find_calls A c (T.node fr).ents s W h hc (hO.small.node fr) (hO.sorted.node fr))
 have hwn := hO.wf_find fr s
 rw [hfind] at HF hwn
 have hwn : wf n := hwn
 have HRM := qh (show ∀ W, TreeB W p B T → Calls Tryz.prog 148 #[pT p, .int .i64 n, .int .i64 td, .string z] W fun e w' => e = .returned (.tuple #[.bool false, .int .i64 0]) ∧ TreeB w' p B T1 ∧ Frm W w' p B from by
  intro W hW
  cases hq : (findE (T.node td).ents z).2 with
  | false =>
   have hT1 : T1 = T := by rw [e1, mvA, roomT, if_pos hq]
   refine (room_stay p B T n td z W hW hwn htd (hO.small.node td) (hO.sorted.node td) (hO.wf_find td z) (.inr hq)).mono ?_
   rintro e w' ⟨rfl, hb⟩
   rw [hrm, hT1]
   exact ⟨rfl, hW.below hb, Frm.ofBelow hb⟩
  | true =>
   have hT1 : T1 = cutT T td z := by rw [e1, mvA, roomT, if_neg (by rw [hq]; simp)]
   rw [hT1]
   exact room_cut p B T n td z W hW hwn htd (hO.small.node td) (hO.sorted.node td) (hO.wf_find td z) hcnt hrm hq)
 have HLN := qh (fun W (h : TreeB W p B T) => h.look _ hwn)
 have HIN := qh (fun W h hr => inside_calls p B T td n k false W h hO htd (hins hr))
 have HCK := qh (fun W => name_Check.calls z (Sp.check z.data.toList) W (by rw [name_Check.f, if_pos hz]))
 rw [hck] at HCK
 have HL1 := qh (fun W (h : TreeB W p B T1) => h.look _ hwn)
 have HST := qh (fun W v (h : TreeB W p B T1) (hs : EntsAt W v (T1.node n).ents) => h.store n hwn { T1.node n with up := td } v hs c1)
 have HL2 := qh (fun W (h : TreeB W p B T2) => h.look fr hfr)
 have HCU := qh (fun W A c h hc => entsCut_calls A c (T2.node fr).ents s W h hc f1 f2 f3)
 have HEN2 := qh (fun v W h hv => enter_calls p B T2 fr v (cutEn (T2.node fr).ents s) W h hfr hv c2)
 rw [show T2.enter fr (cutEn (T2.node fr).ents s) = T3 from e3.symm] at HEN2
 have HL3 := qh (fun W (h : TreeB W p B T3) => h.look td htd)
 have HPU := qh (fun W A c h hc => entsPut_calls A c (T3.node td).ents ⟨z, n⟩ W h hc t1 t2 t3)
 have HEN3 := qh (fun v W h hv => enter_calls p B T3 td v (insE (T3.node td).ents ⟨z, n⟩) W h htd hv c3)
 rw [show T3.enter td (insE (T3.node td).ents ⟨z, n⟩) = mvD T3 td n z from rfl] at HEN3
 rw [show T1.set n { T1.node n with up := td } = T2 from e2.symm] at HST
 clear h hO hfr htd hz hfind h1 h2 hck hins hrm hcnt e1 e2 e3 c1 c2 c3 f1 f2 f3 t1 t2 t3 hwn
 generalize mvD T3 td n z = T4 at *
 generalize T1.node n = y1 at *
 obtain ⟨k1, u1, d1, l1⟩ := y1
 generalize T2.node fr = x2 at *
 obtain ⟨k2, u2, d2, l2⟩ := x2
 generalize T3.node td = x3 at *
 obtain ⟨k3, u3, d3, l3⟩ := x3
 generalize T.node n = yn at *
 obtain ⟨kn, un, dn, ln⟩ := yn
 generalize T.node fr = xf at *
 obtain ⟨kf, uf, df, lf⟩ := xf
 simp only [] at *
 by_cases hkn : kn = 1
 ·
  subst hkn
  have HIN2 := qh (fun W h => HIN.out W h rfl)
  clear HIN
  go_enter Tryz.func115, Tryz.ntmps115
  go_wp2
  have hh1 := heap_alloc_new w (.cells #[.int .i64 fr, .int .i64 td] 3)
  have hb1 := (Below.refl _ w).alloc (Nat.le_refl _) (.cells #[.int .i64 fr, .int .i64 td] 3)
  generalize w.alloc (.cells #[.int .i64 fr, .int .i64 td] 3) = w1 at hh1 hb1 ⊢
  have HB1 := qh hb1
  have HT1 := qh (HT.out.below hb1)
  generalize hge : w.heap.size = g at hh1 HB1 ⊢
  have HGE := qh hge
  have HH1 := qh hh1
  have x0 : w1.cell? ⟨g, 0, none⟩ = some (.int .i64 fr) := by rw [blk_cell hh1]; rfl
  clear hge hh1 hb1 HT
  refine wp_loop_rounds 3 ?_
  rw [rounds_succ]
  go_wp2_with (go_at_call 97; refine (HD1.out _ HT1.out.at_).mono ?_; rintro e w2 ⟨rfl, hb2⟩; have HT2 := qh (HT1.out.below hb2); have HB2 := qh (HB1.out.trans (hb2.mono (by rw [← HGE.out]; exact HB1.out.size))); have hh2 := (hb2.block g (blk_lt HH1.out)).trans HH1.out; have x1 : w2.cell? ⟨g, 1, none⟩ = some (.int .i64 td) := (by rw [blk_cell hh2]; rfl); clear hh2 hb2)
  clear x0
  rw [rounds_succ]
  go_wp2_with (go_at_call 97; refine (HD2.out _ HT2.out.at_).mono ?_; rintro e w3 ⟨rfl, hb3⟩; have HT3 := qh (HT2.out.below hb3); have HB3 := qh (HB2.out.trans (hb3.mono (by rw [← HGE.out]; exact HB2.out.size))); clear hb3)
  have c3 := HT3.out.cell0
  obtain ⟨A3, m3, hle3, hC3, hrun⟩ := HLF.out _ HT3.out
  have hrun3 := hrun _ (Below.refl _ _)
  have HC3 := qh hC3
  clear hrun hC3 x1
  rw [rounds_succ]
  go_upto_region 21 with (first | (go_at_call 94; refine (HF.out _ _ _ HC3.out hle3).mono ?_; rintro e w4 ⟨rfl, hb4⟩; have HT4 := qh (HT3.out.below hb4); have HB4 := qh (HB3.out.trans (hb4.mono (by rw [← HGE.out]; exact HB3.out.size))); clear hb4) | (go_at_call 98; refine (HCK.out _).mono ?_; rintro e w5 ⟨rfl, hb5⟩; have HT5 := qh (HT4.out.below hb5); have HB5 := qh (HB4.out.trans (hb5.mono (by rw [← HGE.out]; exact HB4.out.size))); have c5 := HT5.out.cell0; obtain ⟨A5, m5, hle5, hC5, hrun⟩ := HLN.out _ HT5.out; have hrun5 := hrun _ (Below.refl _ _); clear hrun hC5 hb5) | (go_at_call 147; refine (HIN2.out _ HT5.out).mono ?_; rintro e w6 ⟨rfl, rfl⟩) | (go_at_call 148; refine (HRM.out _ HT5.out).mono ?_; rintro e w7 ⟨rfl, hT7, hF7⟩; have HT7 := qh hT7; have HF7 := qh hF7; have c7 := HT7.out.cell0; obtain ⟨A7, m7, hle7, hC7, hrun⟩ := HL1.out _ HT7.out; have HE7 := qh (show EntsAt w7 (.slice A7 l1.length m7) l1 from ⟨A7, m7, rfl, hle7, hC7⟩); have hrun7 := hrun _ (Below.refl _ _); clear hrun hC7 hle7 hT7 hF7))
  have h8 := heap_alloc_new w7 (.cells #[.int .i64 k1, .int .i64 td, .string d1, .slice A7 l1.length m7] 153)
  have hb8 := (Below.refl _ w7).alloc (Nat.le_refl _) (.cells #[.int .i64 k1, .int .i64 td, .string d1, .slice A7 l1.length m7] 153)
  generalize w7.alloc (.cells #[.int .i64 k1, .int .i64 td, .string d1, .slice A7 l1.length m7] 153) = w8 at h8 hb8 ⊢
  have hT8 := HT7.out.below (below_drew hb8)
  have hE8 := HE7.out.below (below_drew hb8)
  obtain ⟨w9, hup, hT9, hF9⟩ := HST.out w8.drew _ hT8 hE8
  unfold ndV at hup
  simp only [] at hup
  have h8' : w8.drew.heap[w7.heap.size]? = some (.cells #[.int .i64 k1, .int .i64 td, .string d1, .slice A7 l1.length m7] 153 (0, 0)) := h8
  have x0 : w8.drew.cell? ⟨w7.heap.size, 0, none⟩ = some (.int .i64 k1) := by rw [blk_cell h8']; rfl
  have x1 : w8.drew.cell? ⟨w7.heap.size, 1, none⟩ = some (.int .i64 td) := by rw [blk_cell h8']; rfl
  have x2 : w8.drew.cell? ⟨w7.heap.size, 2, none⟩ = some (.string d1) := by rw [blk_cell h8']; rfl
  have x3 : w8.drew.cell? ⟨w7.heap.size, 3, none⟩ = some (.slice A7 l1.length m7) := by rw [blk_cell h8']; rfl
  have d0 : w8.drew.cell? ⟨p, 0, none⟩ = some (.map (some B)) := hT8.cell0
  have HT9 := qh hT9
  have HF9 := qh ((((Frm.ofBelow (p := p) (B := B) (by rw [HGE.out]; exact HB5.out)).trans HF7.out).trans (Frm.ofBelow (below_drew hb8))).trans hF9)
  clear hT9 hF9 hT8 hE8 h8 h8' hb8 hrun7 c7 hrun3 c3 hrun5 c5
  go_region
  clear hup x0 x1 x2 x3 d0
  have c9 := HT9.out.cell0
  obtain ⟨A9, m9, hle9, hC9, hrun⟩ := HL2.out _ HT9.out
  have hrun9 := hrun _ (Below.refl _ _)
  have HC9 := qh hC9
  clear hrun hC9
  go_upto_region 23 with (first | (go_at_call 149; refine (HCU.out _ _ _ HC9.out hle9).mono ?_; rintro e w10 ⟨v10, rfl, ho10, hb10⟩; have HT10 := qh (HT9.out.below hb10); have HE10 := qh (OwnE.entsAt ho10); have HF10 := qh (HF9.out.trans (Frm.ofBelow hb10)); clear ho10 hb10) | (go_at_call 101; refine (HEN2.out _ _ HT10.out HE10.out).mono ?_; rintro e w11 ⟨rfl, hT11, hF11⟩; have HT11 := qh hT11; have HF11 := qh (HF10.out.trans hF11); clear hT11 hF11))
  have c11 := HT11.out.cell0
  obtain ⟨A11, m11, hle11, hC11, hrun⟩ := HL3.out _ HT11.out
  have hrun11 := hrun _ (Below.refl _ _)
  have HC11 := qh hC11
  clear hrun hC11 hrun9 c9
  go_wp2_with (first | (go_at_call 102; refine (HPU.out _ _ _ HC11.out hle11).mono ?_; rintro e w12 ⟨v12, rfl, ho12, hb12⟩; have HT12 := qh (HT11.out.below hb12); have HE12 := qh (OwnE.entsAt ho12); have HF12 := qh (HF11.out.trans (Frm.ofBelow hb12)); clear ho12 hb12) | (go_at_call 101; refine (HEN3.out _ _ HT12.out HE12.out).mono ?_; rintro e w13 ⟨rfl, hT13, hF13⟩))
  go_ret
  exact ⟨rfl, hT13, HF12.out.trans hF13⟩
 ·
  have b5 : (kn == 1) = false := beq_eq_false_iff_ne.2 hkn
  clear HIN hkn
  go_enter Tryz.func115, Tryz.ntmps115
  go_wp2
  have hh1 := heap_alloc_new w (.cells #[.int .i64 fr, .int .i64 td] 3)
  have hb1 := (Below.refl _ w).alloc (Nat.le_refl _) (.cells #[.int .i64 fr, .int .i64 td] 3)
  generalize w.alloc (.cells #[.int .i64 fr, .int .i64 td] 3) = w1 at hh1 hb1 ⊢
  have HB1 := qh hb1
  have HT1 := qh (HT.out.below hb1)
  generalize hge : w.heap.size = g at hh1 HB1 ⊢
  have HGE := qh hge
  have HH1 := qh hh1
  have x0 : w1.cell? ⟨g, 0, none⟩ = some (.int .i64 fr) := by rw [blk_cell hh1]; rfl
  clear hge hh1 hb1 HT
  refine wp_loop_rounds 3 ?_
  rw [rounds_succ]
  go_wp2_with (go_at_call 97; refine (HD1.out _ HT1.out.at_).mono ?_; rintro e w2 ⟨rfl, hb2⟩; have HT2 := qh (HT1.out.below hb2); have HB2 := qh (HB1.out.trans (hb2.mono (by rw [← HGE.out]; exact HB1.out.size))); have hh2 := (hb2.block g (blk_lt HH1.out)).trans HH1.out; have x1 : w2.cell? ⟨g, 1, none⟩ = some (.int .i64 td) := (by rw [blk_cell hh2]; rfl); clear hh2 hb2)
  clear x0
  rw [rounds_succ]
  go_wp2_with (go_at_call 97; refine (HD2.out _ HT2.out.at_).mono ?_; rintro e w3 ⟨rfl, hb3⟩; have HT3 := qh (HT2.out.below hb3); have HB3 := qh (HB2.out.trans (hb3.mono (by rw [← HGE.out]; exact HB2.out.size))); clear hb3)
  have c3 := HT3.out.cell0
  obtain ⟨A3, m3, hle3, hC3, hrun⟩ := HLF.out _ HT3.out
  have hrun3 := hrun _ (Below.refl _ _)
  have HC3 := qh hC3
  clear hrun hC3 x1
  rw [rounds_succ]
  go_upto_region 21 with (first | (go_at_call 94; refine (HF.out _ _ _ HC3.out hle3).mono ?_; rintro e w4 ⟨rfl, hb4⟩; have HT4 := qh (HT3.out.below hb4); have HB4 := qh (HB3.out.trans (hb4.mono (by rw [← HGE.out]; exact HB3.out.size))); clear hb4) | (go_at_call 98; refine (HCK.out _).mono ?_; rintro e w5 ⟨rfl, hb5⟩; have HT5 := qh (HT4.out.below hb5); have HB5 := qh (HB4.out.trans (hb5.mono (by rw [← HGE.out]; exact HB4.out.size))); have c5 := HT5.out.cell0; obtain ⟨A5, m5, hle5, hC5, hrun⟩ := HLN.out _ HT5.out; have hrun5 := hrun _ (Below.refl _ _); clear hrun hC5 hb5) | (go_at_call 148; refine (HRM.out _ HT5.out).mono ?_; rintro e w7 ⟨rfl, hT7, hF7⟩; have HT7 := qh hT7; have HF7 := qh hF7; have c7 := HT7.out.cell0; obtain ⟨A7, m7, hle7, hC7, hrun⟩ := HL1.out _ HT7.out; have HE7 := qh (show EntsAt w7 (.slice A7 l1.length m7) l1 from ⟨A7, m7, rfl, hle7, hC7⟩); have hrun7 := hrun _ (Below.refl _ _); clear hrun hC7 hle7 hT7 hF7))
  have h8 := heap_alloc_new w7 (.cells #[.int .i64 k1, .int .i64 td, .string d1, .slice A7 l1.length m7] 153)
  have hb8 := (Below.refl _ w7).alloc (Nat.le_refl _) (.cells #[.int .i64 k1, .int .i64 td, .string d1, .slice A7 l1.length m7] 153)
  generalize w7.alloc (.cells #[.int .i64 k1, .int .i64 td, .string d1, .slice A7 l1.length m7] 153) = w8 at h8 hb8 ⊢
  have hT8 := HT7.out.below (below_drew hb8)
  have hE8 := HE7.out.below (below_drew hb8)
  obtain ⟨w9, hup, hT9, hF9⟩ := HST.out w8.drew _ hT8 hE8
  unfold ndV at hup
  simp only [] at hup
  have h8' : w8.drew.heap[w7.heap.size]? = some (.cells #[.int .i64 k1, .int .i64 td, .string d1, .slice A7 l1.length m7] 153 (0, 0)) := h8
  have x0 : w8.drew.cell? ⟨w7.heap.size, 0, none⟩ = some (.int .i64 k1) := by rw [blk_cell h8']; rfl
  have x1 : w8.drew.cell? ⟨w7.heap.size, 1, none⟩ = some (.int .i64 td) := by rw [blk_cell h8']; rfl
  have x2 : w8.drew.cell? ⟨w7.heap.size, 2, none⟩ = some (.string d1) := by rw [blk_cell h8']; rfl
  have x3 : w8.drew.cell? ⟨w7.heap.size, 3, none⟩ = some (.slice A7 l1.length m7) := by rw [blk_cell h8']; rfl
  have d0 : w8.drew.cell? ⟨p, 0, none⟩ = some (.map (some B)) := hT8.cell0
  have HT9 := qh hT9
  have HF9 := qh ((((Frm.ofBelow (p := p) (B := B) (by rw [HGE.out]; exact HB5.out)).trans HF7.out).trans (Frm.ofBelow (below_drew hb8))).trans hF9)
  clear hT9 hF9 hT8 hE8 h8 h8' hb8 hrun7 c7 hrun3 c3 hrun5 c5
  go_region
  clear hup x0 x1 x2 x3 d0
  have c9 := HT9.out.cell0
  obtain ⟨A9, m9, hle9, hC9, hrun⟩ := HL2.out _ HT9.out
  have hrun9 := hrun _ (Below.refl _ _)
  have HC9 := qh hC9
  clear hrun hC9
  go_upto_region 23 with (first | (go_at_call 149; refine (HCU.out _ _ _ HC9.out hle9).mono ?_; rintro e w10 ⟨v10, rfl, ho10, hb10⟩; have HT10 := qh (HT9.out.below hb10); have HE10 := qh (OwnE.entsAt ho10); have HF10 := qh (HF9.out.trans (Frm.ofBelow hb10)); clear ho10 hb10) | (go_at_call 101; refine (HEN2.out _ _ HT10.out HE10.out).mono ?_; rintro e w11 ⟨rfl, hT11, hF11⟩; have HT11 := qh hT11; have HF11 := qh (HF10.out.trans hF11); clear hT11 hF11))
  have c11 := HT11.out.cell0
  obtain ⟨A11, m11, hle11, hC11, hrun⟩ := HL3.out _ HT11.out
  have hrun11 := hrun _ (Below.refl _ _)
  have HC11 := qh hC11
  clear hrun hC11 hrun9 c9
  go_wp2_with (first | (go_at_call 102; refine (HPU.out _ _ _ HC11.out hle11).mono ?_; rintro e w12 ⟨v12, rfl, ho12, hb12⟩; have HT12 := qh (HT11.out.below hb12); have HE12 := qh (OwnE.entsAt ho12); have HF12 := qh (HF11.out.trans (Frm.ofBelow hb12)); clear ho12 hb12) | (go_at_call 101; refine (HEN3.out _ _ HT12.out HE12.out).mono ?_; rintro e w13 ⟨rfl, hT13, hF13⟩))
  go_ret
  exact ⟨rfl, hT13, HF12.out.trans hF13⟩
end Go.Proofs.YtnpeeiikdcankaaGreat.Tw

namespace Go.Proofs.YtnpeeiikdcankaaGreat.X
open Go.RowKit Go.Proofs.YtnpeeiikdcankaaGreatW.PrintWords Go.Proofs.YtnpeeiikdcankaaGreatW.PrintLast Go.Proofs.YtnpeeiikdcankaaGreatW.PrintMore Go.Proofs.YtnpeeiikdcankaaGreat.Ext
attribute [local go_sem] max2_int min2_int max_two min_two max_three min_three max_four min_four
def linhayref03_Check.l0 : Nat → ByteArray → Int → Option (Int)
 | 0, _, _ => none
 | k + 1, x0, x3 => if x3 < (x0.size : Int) then (if 0 ≤ x3 then (if (bt x0 x3) = 0 then (some 11) else (if (bt x0 x3) = 47 then (some 11) else (linhayref03_Check.l0 k x0 (wrap64 (x3 + 1))))) else (none)) else (if x0.toList = ([46] : List UInt8) then (some 6) else (if x0.toList = ([46, 46] : List UInt8) then (some 6) else (some 0)))
def linhayref03_Check.f (k : Nat) (a0 : ByteArray) : Option (Int) := if (a0.size : Int) = 0 then (some 5) else (if (a0.size : Int) > 64 then (some 11) else (linhayref03_Check.l0 k a0 0))
theorem linhayref03_Check.calls (k : Nat) (a0 : ByteArray) (r : Int) (w : World) (h : linhayref03_Check.f k a0 = some r) :
  Calls Tryz.prog 104 #[.string a0] w fun e w' => e = .returned (.int .i64 r) ∧ Drawn0 w w' := by
 have hu36 := Tryz.underlying36
 have hu49 := Tryz.underlying49
 have hu66 := Tryz.underlying66
 have hu93 := Tryz.underlying93
 have hu106 := Tryz.underlying106
 have hu115 := Tryz.underlying115
 have hu130 := Tryz.underlying130
 have hu162 := Tryz.underlying162
 have H : (if (a0.size : Int) = 0 then (some 5) else (if (a0.size : Int) > 64 then (some 11) else (linhayref03_Check.l0 k a0 0))) = some r := h
 clear h
 by_cases c2 : (a0.size : Int) = 0
 ·
  rw [if_pos c2] at H
  have c2b0 : ((a0.size : Int) == 0) = true := beq_iff_eq.mpr c2
  have c2b1 : ((a0.size : Int) != 0) = false := bne_eq_false_iff_eq.mpr c2
  clear c2
  obtain rfl := Option.some.inj H
  go_enter Tryz.func104, Tryz.ntmps104
  go_wp2
  go_ret
  exact ⟨by first | rfl | (simp; done) | (simp [*]; done), by repeat (first | exact Drawn0.refl _ | apply Drawn0.step)⟩
 ·
  rw [if_neg c2] at H
  have c2b0 : ((a0.size : Int) == 0) = false := beq_eq_false_iff_ne.mpr c2
  have c2b1 : ((a0.size : Int) != 0) = true := bne_iff_ne.mpr c2
  by_cases c3 : (a0.size : Int) > 64
  ·
   rw [if_pos c3] at H
   have c3b0 : decide (64 < (a0.size : Int)) = true := decide_eq_true c3
   have c3b1 : decide (64 < a0.size) = true := decide_eq_true (by omega)
   clear c3
   obtain rfl := Option.some.inj H
   go_enter Tryz.func104, Tryz.ntmps104
   go_wp2
   go_ret
   exact ⟨by first | rfl | (simp; done) | (simp [*]; done), by repeat (first | exact Drawn0.refl _ | apply Drawn0.step)⟩
  ·
   rw [if_neg c3] at H
   have c3b0 : decide (64 < (a0.size : Int)) = false := decide_eq_false c3
   have c3b1 : decide (64 < a0.size) = false := decide_eq_false (by omega)
   clear c3
   have H' := qa H
   clear H
   go_enter Tryz.func104, Tryz.ntmps104
   go_wp2
   go_loopg [3] k (fun kq v3 w' => ∃ (x3_1 : Int), v3 = .int .i64 x3_1 ∧ Aside0 (linhayref03_Check.l0 kq a0 x3_1 = some r) ∧ Aside0 (kq ≤ k) ∧ Drawn0 w w')
   case atStart => exact ⟨(0), (by first | rfl | (simp; done) | (simp [*]; done) | (simp [bne_nil]; done)), H', ⟨Nat.le_refl _⟩, by repeat (first | exact Drawn0.refl _ | apply Drawn0.step)⟩
   case round =>
    clear H'
    try clear c1
    try clear c2
    try clear c2b0
    try clear c2b1
    try clear p2
    try clear c3
    try clear c3b0
    try clear c3b1
    obtain ⟨x3_1, rfl, HA, HK1, ⟨m1, rfl⟩⟩ := hrel
    cases gk with
    | zero => exact absurd HA.out (by simp [linhayref03_Check.l0])
    | succ k1 =>
     have H := HA.out
     clear HA
     simp only [linhayref03_Check.l0] at H
     by_cases c4 : x3_1 < (a0.size : Int)
     ·
      rw [if_pos c4] at H
      have c4b0 : decide (x3_1 < (a0.size : Int)) = true := decide_eq_true c4
      clear c4
      by_cases c5 : 0 ≤ x3_1
      ·
       rw [if_pos c5] at H
       have c5b0 : decide (0 ≤ x3_1) = true := decide_eq_true c5
       clear c5
       by_cases c7 : (bt a0 x3_1) = 0
       ·
        rw [if_pos c7] at H
        have c7b0 : ((bt a0 x3_1) == 0) = true := beq_iff_eq.mpr c7
        have c7b1 : ((bt a0 x3_1) != 0) = false := bne_eq_false_iff_eq.mpr c7
        clear c7
        obtain rfl := Option.some.inj H
        have p6 : 0 ≤ (x3_1 : Int) := of_decide_eq_true (by first | (with_reducible assumption) | assumption)
        have q6 : x3_1 < (a0.size : Int) := of_decide_eq_true (by first | (with_reducible assumption) | assumption)
        have hx6 := bt_at a0 x3_1
        replace p6 := eq_true p6
        replace q6 := eq_true q6
        go_wp2
        go_ret
        exact ⟨by first | rfl | (simp; done) | (simp [*]; done), by repeat (first | exact Drawn0.refl _ | apply Drawn0.step)⟩
       ·
        rw [if_neg c7] at H
        have c7b0 : ((bt a0 x3_1) == 0) = false := beq_eq_false_iff_ne.mpr c7
        have c7b1 : ((bt a0 x3_1) != 0) = true := bne_iff_ne.mpr c7
        by_cases c9 : (bt a0 x3_1) = 47
        ·
         rw [if_pos c9] at H
         have c9b0 : ((bt a0 x3_1) == 47) = true := beq_iff_eq.mpr c9
         have c9b1 : ((bt a0 x3_1) != 47) = false := bne_eq_false_iff_eq.mpr c9
         clear c9
         obtain rfl := Option.some.inj H
         have p6 : 0 ≤ (x3_1 : Int) := of_decide_eq_true (by first | (with_reducible assumption) | assumption)
         have q6 : x3_1 < (a0.size : Int) := of_decide_eq_true (by first | (with_reducible assumption) | assumption)
         have hx6 := bt_at a0 x3_1
         replace p6 := eq_true p6
         replace q6 := eq_true q6
         have p8 : 0 ≤ (x3_1 : Int) := of_decide_eq_true (by first | (with_reducible assumption) | assumption)
         have q8 : x3_1 < (a0.size : Int) := of_decide_eq_true (by first | (with_reducible assumption) | assumption)
         have hx8 := bt_at a0 x3_1
         replace p8 := eq_true p8
         replace q8 := eq_true q8
         go_wp2
         go_ret
         exact ⟨by first | rfl | (simp; done) | (simp [*]; done), by repeat (first | exact Drawn0.refl _ | apply Drawn0.step)⟩
        ·
         rw [if_neg c9] at H
         have c9b0 : ((bt a0 x3_1) == 47) = false := beq_eq_false_iff_ne.mpr c9
         have c9b1 : ((bt a0 x3_1) != 47) = true := bne_iff_ne.mpr c9
         have H' := qa H
         clear H
         have p6 : 0 ≤ (x3_1 : Int) := of_decide_eq_true (by first | (with_reducible assumption) | assumption)
         have q6 : x3_1 < (a0.size : Int) := of_decide_eq_true (by first | (with_reducible assumption) | assumption)
         have hx6 := bt_at a0 x3_1
         replace p6 := eq_true p6
         replace q6 := eq_true q6
         have p8 : 0 ≤ (x3_1 : Int) := of_decide_eq_true (by first | (with_reducible assumption) | assumption)
         have q8 : x3_1 < (a0.size : Int) := of_decide_eq_true (by first | (with_reducible assumption) | assumption)
         have hx8 := bt_at a0 x3_1
         replace p8 := eq_true p8
         replace q8 := eq_true q8
         go_wp2
         go_roundg k1
         case measure => have := HK1.out; omega
         case rel => exact ⟨(wrap64 (x3_1 + 1)), (by first | rfl | (simp; done) | (simp [*]; done) | (simp [bne_nil]; done)), H', ⟨by have := HK1.out; omega⟩, by repeat (first | exact Drawn0.refl _ | apply Drawn0.step)⟩
      ·
       rw [if_neg c5] at H
       exact absurd H (by simp)
     ·
      rw [if_neg c4] at H
      have c4b0 : decide (x3_1 < (a0.size : Int)) = false := decide_eq_false c4
      clear c4
      by_cases c10 : a0.toList = ([46] : List UInt8)
      ·
       rw [if_pos c10] at H
       have c10b0 : (a0.toList == ([46] : List UInt8)) = true := beq_iff_eq.mpr c10
       have c10b1 : (a0.toList != ([46] : List UInt8)) = false := bne_eq_false_iff_eq.mpr c10
       clear c10
       obtain rfl := Option.some.inj H
       go_wp2
       go_ret
       exact ⟨by first | rfl | (simp; done) | (simp [*]; done), by repeat (first | exact Drawn0.refl _ | apply Drawn0.step)⟩
      ·
       rw [if_neg c10] at H
       have c10b0 : (a0.toList == ([46] : List UInt8)) = false := beq_eq_false_iff_ne.mpr c10
       have c10b1 : (a0.toList != ([46] : List UInt8)) = true := bne_iff_ne.mpr c10
       by_cases c11 : a0.toList = ([46, 46] : List UInt8)
       ·
        rw [if_pos c11] at H
        have c11b0 : (a0.toList == ([46, 46] : List UInt8)) = true := beq_iff_eq.mpr c11
        have c11b1 : (a0.toList != ([46, 46] : List UInt8)) = false := bne_eq_false_iff_eq.mpr c11
        clear c11
        obtain rfl := Option.some.inj H
        go_wp2
        go_ret
        exact ⟨by first | rfl | (simp; done) | (simp [*]; done), by repeat (first | exact Drawn0.refl _ | apply Drawn0.step)⟩
       ·
        rw [if_neg c11] at H
        have c11b0 : (a0.toList == ([46, 46] : List UInt8)) = false := beq_eq_false_iff_ne.mpr c11
        have c11b1 : (a0.toList != ([46, 46] : List UInt8)) = true := bne_iff_ne.mpr c11
        obtain rfl := Option.some.inj H
        go_wp2
        go_ret
        exact ⟨by first | rfl | (simp; done) | (simp [*]; done), by repeat (first | exact Drawn0.refl _ | apply Drawn0.step)⟩
mutual
def linhayref04_Parts.l0 : Nat → ByteArray → List ByteArray → ByteArray → Int → Option (List ByteArray)
 | 0, _, _, _, _ => none
 | k + 1, x0, x3, x4, x5 => if x5 ≤ (x0.size : Int) then (if x5 < (x0.size : Int) then (if 0 ≤ x5 then (linhayref04_Parts.j1 k x0 x3 x4 x5 ((bt x0 x5) != 47)) else (none)) else (linhayref04_Parts.j1 k x0 x3 x4 x5 false)) else (some x3)
def linhayref04_Parts.j1 : Nat → ByteArray → List ByteArray → ByteArray → Int → Bool → Option (List ByteArray)
 | 0, _, _, _, _, _ => none
 | k + 1, x0, x3, x4, x5, x21 => if x21 = true then (if 0 ≤ x5 then (if x5 ≤ (wrap64 (x5 + 1)) then (if (wrap64 (x5 + 1)) ≤ (x0.size : Int) then (if x4.size + (x0.extract (x5 : Int).toNat ((wrap64 (x5 + 1)) : Int).toNat).size ≤ 9223372036854775807 then (linhayref04_Parts.l0 k x0 x3 (x4 ++ (x0.extract (x5 : Int).toNat ((wrap64 (x5 + 1)) : Int).toNat)) (wrap64 (x5 + 1))) else (none)) else (none)) else (none)) else (none)) else (if x4.toList = ([] : List UInt8) then (linhayref04_Parts.l0 k x0 x3 (⟨#[]⟩ : ByteArray) (wrap64 (x5 + 1))) else (if x4.toList = ([46] : List UInt8) then (linhayref04_Parts.l0 k x0 x3 (⟨#[]⟩ : ByteArray) (wrap64 (x5 + 1))) else (if x3.length < 8796093022208 then (linhayref04_Parts.l0 k x0 (x3 ++ [x4]) (⟨#[]⟩ : ByteArray) (wrap64 (x5 + 1))) else (none))))
end
def linhayref04_Parts.f (k : Nat) (a0 : ByteArray) : Option (List ByteArray) := linhayref04_Parts.l0 k a0 ([] : List ByteArray) (⟨#[]⟩ : ByteArray) 0
theorem linhayref04_Parts.calls (k : Nat) (a0 : ByteArray) (r : List ByteArray) (w : World) (h : linhayref04_Parts.f k a0 = some r) :
  Calls Tryz.prog 143 #[.string a0] w fun e w' => ∃ v0_ : Value, e = .returned (v0_) ∧ Kd.R Kd.string 9 w' w.heap.size (fun _ => True) v0_ r ∧ Below w.heap.size w w' := by
 have hu36 := Tryz.underlying36
 have hu49 := Tryz.underlying49
 have hu66 := Tryz.underlying66
 have hu93 := Tryz.underlying93
 have hu106 := Tryz.underlying106
 have hu115 := Tryz.underlying115
 have hu130 := Tryz.underlying130
 have hu162 := Tryz.underlying162
 have HB := qa (Below.refl w.heap.size w)
 have H : (linhayref04_Parts.l0 k a0 ([] : List ByteArray) (⟨#[]⟩ : ByteArray) 0) = some r := h
 clear h
 have H' := qa H
 clear H
 go_enter Tryz.func143, Tryz.ntmps143
 go_wp2
 go_loopg [3, 4, 5] k (fun kq v3 v4 v5 w' => ∃ (x3_1 : List ByteArray) (x4_1 : ByteArray) (x5_1 : Int), v4 = .string x4_1 ∧ v5 = .int .i64 x5_1 ∧ Aside0 (linhayref04_Parts.l0 kq a0 x3_1 x4_1 x5_1 = some r) ∧ Aside0 (kq ≤ k) ∧ Aside0 (Kd.R Kd.string 9 w' w.heap.size (fun _ => True) v3 x3_1) ∧ Aside0 (Below w.heap.size w w'))
 case atStart => exact ⟨(([] : List ByteArray)), ((⟨#[]⟩ : ByteArray)), (0), (by first | rfl | (simp; done) | (simp [*]; done) | (simp [bne_nil]; done)), (by first | rfl | (simp; done) | (simp [*]; done) | (simp [bne_nil]; done)), H', ⟨Nat.le_refl _⟩, ⟨by first | exact Kd.R_nil _ _ _ _ _ | exact Kd.N_nil _ _ _ _ _ | exact Kd.V_nil _ _ _ _ _ | exact Kd.Q_nil _ _ _ _ _ | exact Kd.S_nil _ _ _ _ _⟩, ⟨by repeat (first | (with_reducible first | exact HB.out | apply below_alloc | apply pw_below_drewN | apply below_drew1) | exact HB.out)⟩⟩
 case round =>
  clear H'
  try clear c1
  obtain ⟨x3_1, x4_1, x5_1, rfl, rfl, HA, HK1, HO_3, HB⟩ := hrel
  cases gk with
  | zero => exact absurd HA.out (by simp [linhayref04_Parts.l0])
  | succ k1 =>
   have H := HA.out
   clear HA
   simp only [linhayref04_Parts.l0] at H
   by_cases c2 : x5_1 ≤ (a0.size : Int)
   ·
    rw [if_pos c2] at H
    have c2b0 : decide (x5_1 ≤ (a0.size : Int)) = true := decide_eq_true c2
    clear c2
    have HC3 := qa H
    clear H
    go_upto_region 6 with (fail)
    go_cut [21] (fun v21 wc => ∃ (kq : Nat) (x21_2 : Bool), v21 = .bool x21_2 ∧ Aside0 (linhayref04_Parts.j1 kq a0 x3_1 x4_1 x5_1 x21_2 = some r) ∧ Aside0 (kq ≤ k1) ∧ Aside0 (Kd.R Kd.string 9 wc w.heap.size (fun _ => True) u3 x3_1) ∧ Aside0 (Below w.heap.size w wc))
    case first =>
     have H := HC3.out
     clear HC3
     by_cases c4 : x5_1 < (a0.size : Int)
     ·
      rw [if_pos c4] at H
      have c4b0 : decide (x5_1 < (a0.size : Int)) = true := decide_eq_true c4
      clear c4
      (first | rw [c4b0] | (simp only [i64_w, i32_w]; rw [c4b0]) | skip)
      by_cases c5 : 0 ≤ x5_1
      ·
       rw [if_pos c5] at H
       have c5b0 : decide (0 ≤ x5_1) = true := decide_eq_true c5
       clear c5
       have H' := qa H
       clear H
       have p6 : 0 ≤ (x5_1 : Int) := of_decide_eq_true (by first | (with_reducible assumption) | assumption)
       have q6 : x5_1 < (a0.size : Int) := of_decide_eq_true (by first | (with_reducible assumption) | assumption)
       have hx6 := bt_at a0 x5_1
       replace p6 := eq_true p6
       replace q6 := eq_true q6
       go_wp2
       go_meet
       case rel => exact ⟨_, (((bt a0 x5_1) != 47)), (by first | rfl | (simp; done) | (simp [*]; done) | (simp [bne_nil]; done)), H', ⟨by have := HK1.out; first | omega | exact Nat.le_refl _⟩, ⟨by (with_reducible repeat (first | apply Kd.R_alloc | apply Kd.R_drewN | apply Kd.R_drew)); first | exact HO_3.out | exact own_cut HO_3.out⟩, ⟨by repeat (first | (with_reducible first | exact HB.out | apply below_alloc | apply pw_below_drewN | apply below_drew1) | exact HB.out)⟩⟩
      ·
       rw [if_neg c5] at H
       exact absurd H (by simp)
     ·
      rw [if_neg c4] at H
      have c4b0 : decide (x5_1 < (a0.size : Int)) = false := decide_eq_false c4
      clear c4
      (first | rw [c4b0] | (simp only [i64_w, i32_w]; rw [c4b0]) | skip)
      have H' := qa H
      clear H
      go_wp2
      go_meet
      case rel => exact ⟨_, (false), (by first | rfl | (simp; done) | (simp [*]; done) | (simp [bne_nil]; done)), H', ⟨by have := HK1.out; first | omega | exact Nat.le_refl _⟩, ⟨by (with_reducible repeat (first | apply Kd.R_alloc | apply Kd.R_drewN | apply Kd.R_drew)); first | exact HO_3.out | exact own_cut HO_3.out⟩, ⟨by repeat (first | (with_reducible first | exact HB.out | apply below_alloc | apply pw_below_drewN | apply below_drew1) | exact HB.out)⟩⟩
    case rest =>
     clear HC3
     try clear c1
     try clear c2
     try clear c2b0
     try clear p2
     try clear c4
     try clear c4b0
     try clear c5
     try clear c5b0
     try clear p6
     try clear q6
     try clear hx6
     try clear p6
     try clear q6
     obtain ⟨kq, x21_2, rfl, HA, HJ2, HO_3, HB⟩ := hcut
     cases kq with
     | zero => exact absurd HA.out (by simp [linhayref04_Parts.j1])
     | succ kj2 =>
      have H := HA.out
      clear HA
      simp only [linhayref04_Parts.j1] at H
      by_cases c7 : x21_2 = true
      ·
       subst c7
       have H1 : (if 0 ≤ x5_1 then (if x5_1 ≤ (wrap64 (x5_1 + 1)) then (if (wrap64 (x5_1 + 1)) ≤ (a0.size : Int) then (if x4_1.size + (a0.extract (x5_1 : Int).toNat ((wrap64 (x5_1 + 1)) : Int).toNat).size ≤ 9223372036854775807 then (linhayref04_Parts.l0 kj2 a0 x3_1 (x4_1 ++ (a0.extract (x5_1 : Int).toNat ((wrap64 (x5_1 + 1)) : Int).toNat)) (wrap64 (x5_1 + 1))) else (none)) else (none)) else (none)) else (none)) = some r := by rw [if_pos rfl] at H; exact H
       clear H
       have H := H1
       clear H1
       by_cases c8 : 0 ≤ x5_1
       ·
        rw [if_pos c8] at H
        have c8b0 := eq_true c8
        have c8b1 : decide (0 ≤ x5_1) = true := decide_eq_true c8
        clear c8
        by_cases c9 : x5_1 ≤ (wrap64 (x5_1 + 1))
        ·
         rw [if_pos c9] at H
         have c9b0 := eq_true c9
         have c9b1 : decide (x5_1 ≤ (wrap64 (x5_1 + 1))) = true := decide_eq_true c9
         by_cases c10 : (wrap64 (x5_1 + 1)) ≤ (a0.size : Int)
         ·
          rw [if_pos c10] at H
          have c10b0 := eq_true c10
          have c10b1 : decide ((wrap64 (x5_1 + 1)) ≤ (a0.size : Int)) = true := decide_eq_true c10
          by_cases c11 : x4_1.size + (a0.extract (x5_1 : Int).toNat ((wrap64 (x5_1 + 1)) : Int).toNat).size ≤ 9223372036854775807
          ·
           rw [if_pos c11] at H
           have c11b0 := eq_true c11
           have c11b1 : decide (x4_1.size + (a0.extract (x5_1 : Int).toNat ((wrap64 (x5_1 + 1)) : Int).toNat).size ≤ 9223372036854775807) = true := decide_eq_true c11
           try have c11b2 : (9223372036854775807 < x4_1.size + (a0.extract (x5_1 : Int).toNat ((wrap64 (x5_1 + 1)) : Int).toNat).size) = False := eq_false (Nat.not_lt.2 c11)
           try (have c11b3 : ∀ m_ : Nat, 9223372036854775807 ≤ m_ → x4_1.size + (a0.extract (x5_1 : Int).toNat ((wrap64 (x5_1 + 1)) : Int).toNat).size ≤ m_ := fun m_ h_ => Nat.le_trans c11 h_; simp [go_sem, *] at c11b3; have c11b4 := eq_false (Nat.not_lt.2 (c11b3 _ (Nat.le_refl _))); clear c11b3)
           have H' := qa H
           clear H
           go_wp2
           go_roundg kj2
           case measure => have := HK1.out; have := HJ2.out; omega
           case rel => exact ⟨(x3_1), (x4_1 ++ (a0.extract (x5_1 : Int).toNat ((wrap64 (x5_1 + 1)) : Int).toNat)), (wrap64 (x5_1 + 1)), (by first | rfl | (simp; done) | (simp [*]; done) | (simp [bne_nil]; done)), (by first | rfl | (simp; done) | (simp [*]; done) | (simp [bne_nil]; done)), H', ⟨by have := HK1.out; have := HJ2.out; omega⟩, ⟨by (with_reducible repeat (first | apply Kd.R_alloc | apply Kd.R_drewN | apply Kd.R_drew)); first | exact HO_3.out | exact own_cut HO_3.out⟩, ⟨by repeat (first | (with_reducible first | exact HB.out | apply below_alloc | apply pw_below_drewN | apply below_drew1) | exact HB.out)⟩⟩
          ·
           rw [if_neg c11] at H
           exact absurd H (by simp)
         ·
          rw [if_neg c10] at H
          exact absurd H (by simp)
        ·
         rw [if_neg c9] at H
         exact absurd H (by simp)
       ·
        rw [if_neg c8] at H
        exact absurd H (by simp)
      ·
       replace c7 := Bool.eq_false_iff.mpr c7
       subst c7
       have H1 : (if x4_1.toList = ([] : List UInt8) then (linhayref04_Parts.l0 kj2 a0 x3_1 (⟨#[]⟩ : ByteArray) (wrap64 (x5_1 + 1))) else (if x4_1.toList = ([46] : List UInt8) then (linhayref04_Parts.l0 kj2 a0 x3_1 (⟨#[]⟩ : ByteArray) (wrap64 (x5_1 + 1))) else (if x3_1.length < 8796093022208 then (linhayref04_Parts.l0 kj2 a0 (x3_1 ++ [x4_1]) (⟨#[]⟩ : ByteArray) (wrap64 (x5_1 + 1))) else (none)))) = some r := by rw [if_neg (show ¬ (false = true) by decide)] at H; exact H
       clear H
       have H := H1
       clear H1
       by_cases c12 : x4_1.toList = ([] : List UInt8)
       ·
        rw [if_pos c12] at H
        have c12b0 : (x4_1.toList == ([] : List UInt8)) = true := beq_iff_eq.mpr c12
        have c12b1 : (x4_1.toList != ([] : List UInt8)) = false := bne_eq_false_iff_eq.mpr c12
        clear c12
        have H' := qa H
        clear H
        go_wp2
        go_roundg kj2
        case measure => have := HK1.out; have := HJ2.out; omega
        case rel => exact ⟨(x3_1), ((⟨#[]⟩ : ByteArray)), (wrap64 (x5_1 + 1)), (by first | rfl | (simp; done) | (simp [*]; done) | (simp [bne_nil]; done)), (by first | rfl | (simp; done) | (simp [*]; done) | (simp [bne_nil]; done)), H', ⟨by have := HK1.out; have := HJ2.out; omega⟩, ⟨by (with_reducible repeat (first | apply Kd.R_alloc | apply Kd.R_drewN | apply Kd.R_drew)); first | exact HO_3.out | exact own_cut HO_3.out⟩, ⟨by repeat (first | (with_reducible first | exact HB.out | apply below_alloc | apply pw_below_drewN | apply below_drew1) | exact HB.out)⟩⟩
       ·
        rw [if_neg c12] at H
        have c12b0 : (x4_1.toList == ([] : List UInt8)) = false := beq_eq_false_iff_ne.mpr c12
        have c12b1 : (x4_1.toList != ([] : List UInt8)) = true := bne_iff_ne.mpr c12
        by_cases c13 : x4_1.toList = ([46] : List UInt8)
        ·
         rw [if_pos c13] at H
         have c13b0 : (x4_1.toList == ([46] : List UInt8)) = true := beq_iff_eq.mpr c13
         have c13b1 : (x4_1.toList != ([46] : List UInt8)) = false := bne_eq_false_iff_eq.mpr c13
         clear c13
         have H' := qa H
         clear H
         go_wp2
         go_roundg kj2
         case measure => have := HK1.out; have := HJ2.out; omega
         case rel => exact ⟨(x3_1), ((⟨#[]⟩ : ByteArray)), (wrap64 (x5_1 + 1)), (by first | rfl | (simp; done) | (simp [*]; done) | (simp [bne_nil]; done)), (by first | rfl | (simp; done) | (simp [*]; done) | (simp [bne_nil]; done)), H', ⟨by have := HK1.out; have := HJ2.out; omega⟩, ⟨by (with_reducible repeat (first | apply Kd.R_alloc | apply Kd.R_drewN | apply Kd.R_drew)); first | exact HO_3.out | exact own_cut HO_3.out⟩, ⟨by repeat (first | (with_reducible first | exact HB.out | apply below_alloc | apply pw_below_drewN | apply below_drew1) | exact HB.out)⟩⟩
        ·
         rw [if_neg c13] at H
         have c13b0 : (x4_1.toList == ([46] : List UInt8)) = false := beq_eq_false_iff_ne.mpr c13
         have c13b1 : (x4_1.toList != ([46] : List UInt8)) = true := bne_iff_ne.mpr c13
         by_cases c14 : x3_1.length < 8796093022208
         ·
          rw [if_pos c14] at H
          have LMc14 := qa c14
          clear c14
          obtain ⟨y101, hy101⟩ : ∃ y_ : List ByteArray, y_ = (x3_1 ++ [x4_1]) := ⟨_, rfl⟩
          replace H : (linhayref04_Parts.l0 kj2 a0 y101 (⟨#[]⟩ : ByteArray) (wrap64 (x5_1 + 1))) = some r := by first | (rw [hy101]; with_reducible exact H) | (have H2_ := (Option.bind_some _ _).symm.trans H; rw [hy101]; with_reducible exact H2_) | (have H2_ := (Option.bind_some _ _).symm.trans H; with_reducible exact H2_) | with_reducible exact H | (rw [hy101]; exact H) | exact H
          have Ny101 := qa hy101
          clear hy101
          have H' := qa H
          clear H
          go_wp2_with (first | ((with_reducible refine gate_builtin (b := .append) (xs := #[.tmp 35, .tmp 37]) rfl ?_); at_builtin; refine Kd.R_append Kd.string (w0 := w) w.heap.size rfl (.tmp 35) (.tmp 37) 186 9 (.string ⟨#[]⟩) 16 rfl Tryz.underlying186 info9 rfl (by decide) (by omega) u3 x3_1 x4_1 [.string x4_1] (fun _ => True) (fun _ => False) rfl rfl ?aP (fun _ hk => hk.elim) ?aF ?aO ?aB ?aS ?aL ?_; (case aP => exact rfl); (case aB => exact (by repeat (first | (with_reducible first | exact HB.out | apply below_alloc | apply pw_below_drewN | apply below_drew1) | exact HB.out))); (case aF => exact (fun _ _ => trivial)); (case aO => exact (by (with_reducible repeat (first | apply Kd.R_alloc | apply Kd.R_drewN | apply Kd.R_drew)); exact HO_3.out)); (case aS => exact (below_size (by repeat (first | (with_reducible first | exact HB.out | apply below_alloc | apply pw_below_drewN | apply below_drew1) | exact HB.out)))); (case aL => have := LMc14.out; omega); intro v102 w15 ho hb hg hat; rw [← Ny101.out] at ho; have n0_ := qa (hb); have n1_ := qa (ho); clear HB; clear HO_3; have HB := n0_; have HO103 := n1_; clear n0_ n1_; clear ho hb hg hat))
          go_roundg kj2
          case measure => have := HK1.out; have := HJ2.out; omega
          case rel => exact ⟨(y101), ((⟨#[]⟩ : ByteArray)), (wrap64 (x5_1 + 1)), (by first | rfl | (simp; done) | (simp [*]; done) | (simp [bne_nil]; done)), (by first | rfl | (simp; done) | (simp [*]; done) | (simp [bne_nil]; done)), H', ⟨by have := HK1.out; have := HJ2.out; omega⟩, ⟨by (with_reducible repeat (first | apply Kd.R_alloc | apply Kd.R_drewN | apply Kd.R_drew)); first | exact HO103.out | exact own_cut HO103.out⟩, ⟨by repeat (first | (with_reducible first | exact HB.out | apply below_alloc | apply pw_below_drewN | apply below_drew1) | exact HB.out)⟩⟩
         ·
          rw [if_neg c14] at H
          exact absurd H (by simp)
   ·
    rw [if_neg c2] at H
    have c2b0 : decide (x5_1 ≤ (a0.size : Int)) = false := decide_eq_false c2
    clear c2
    obtain rfl := Option.some.inj H
    go_wp2
    go_ret
    exact ⟨_, by first | rfl | (simp [errW_none, errW_some] <;> rfl) | (simp [*, errW_none, errW_some] <;> rfl) | (simp [errW_none, errW_some, bne_nil]; done) | (simp [*, bne_nil]; done) | (simp [bne]; done), by (with_reducible repeat (first | apply Kd.R_alloc | apply Kd.R_drewN | apply Kd.R_drew)); exact HO_3.out, by repeat (first | (with_reducible first | exact HB.out | apply below_alloc | apply pw_below_drewN | apply below_drew1) | exact HB.out)⟩
def linhaylaw08_Few.l0 : Nat → List (S93) → Int → Option (Bool)
 | 0, _, _ => none
 | k + 1, x0, x3 => if x3 < (x0.length : Int) then (if 0 ≤ x3 then (if (((rd_T93 x0 x3).f3).size : Int) > 2000 then (some false) else (linhaylaw08_Few.l0 k x0 (wrap64 (x3 + 1)))) else (none)) else (some (decide ((x0.length : Int) ≤ 60)))
def linhaylaw08_Few.f (k : Nat) (l0 : List (S93)) : Option (Bool) := linhaylaw08_Few.l0 k l0 0
theorem linhaylaw08_Few.calls (k : Nat) (A0 : Option Addr) (c0 : Nat) (l0 : List (S93)) (r : Bool) (w : World) (hr0 : Kd.C k93 w A0 l0.length l0) (hc0 : l0.length ≤ c0) (h : linhaylaw08_Few.f k l0 = some r) :
  Calls Tryz.prog 11 #[.slice A0 l0.length c0] w fun e w' => e = .returned (.bool r) ∧ Drawn0 w w' := by
 have hu36 := Tryz.underlying36
 have hu49 := Tryz.underlying49
 have hu66 := Tryz.underlying66
 have hu93 := Tryz.underlying93
 have hu106 := Tryz.underlying106
 have hu115 := Tryz.underlying115
 have hu130 := Tryz.underlying130
 have hu162 := Tryz.underlying162
 have HR0 := qa hr0
 have HC0 := qa hc0
 clear hr0 hc0
 have H : (linhaylaw08_Few.l0 k l0 0) = some r := h
 clear h
 have H' := qa H
 clear H
 go_enter Tryz.func11, Tryz.ntmps11
 go_wp2
 go_loopg [3] k (fun kq v3 w' => ∃ (x3_1 : Int), v3 = .int .i64 x3_1 ∧ Aside0 (linhaylaw08_Few.l0 kq l0 x3_1 = some r) ∧ Aside0 (kq ≤ k) ∧ Drawn0 w w')
 case atStart => exact ⟨(0), (by first | rfl | (simp; done) | (simp [*]; done) | (simp [bne_nil]; done)), H', ⟨Nat.le_refl _⟩, by repeat (first | exact Drawn0.refl _ | apply Drawn0.step)⟩
 case round =>
  clear H'
  try clear c1
  obtain ⟨x3_1, rfl, HA, HK1, ⟨m1, rfl⟩⟩ := hrel
  cases gk with
  | zero => exact absurd HA.out (by simp [linhaylaw08_Few.l0])
  | succ k1 =>
   have H := HA.out
   clear HA
   simp only [linhaylaw08_Few.l0] at H
   by_cases c2 : x3_1 < (l0.length : Int)
   ·
    rw [if_pos c2] at H
    have c2b0 : decide (x3_1 < (l0.length : Int)) = true := decide_eq_true c2
    clear c2
    by_cases c3 : 0 ≤ x3_1
    ·
     rw [if_pos c3] at H
     have c3b0 : decide (0 ≤ x3_1) = true := decide_eq_true c3
     clear c3
     by_cases c4 : (((rd_T93 l0 x3_1).f3).size : Int) > 2000
     ·
      rw [if_pos c4] at H
      have c4b0 : decide (2000 < (((rd_T93 l0 x3_1).f3).size : Int)) = true := decide_eq_true c4
      have c4b1 : decide (2000 < ((rd_T93 l0 x3_1).f3).size) = true := decide_eq_true (by omega)
      clear c4
      obtain rfl := Option.some.inj H
      have p111 : 0 ≤ (x3_1 : Int) := of_decide_eq_true (by first | (with_reducible assumption) | assumption)
      have q111 : x3_1 < (l0.length : Int) := of_decide_eq_true (by first | (with_reducible assumption) | assumption)
      obtain ⟨ad111, e111, hx111_0, hx111_1, hx111_2, hx111_3⟩ := at_T93 HR0.out x3_1 p111 q111
      cases e111
      replace p111 := eq_true p111
      replace q111 := eq_true q111
      go_wp2
      go_ret
      exact ⟨by first | rfl | (simp; done) | (simp [*]; done), by repeat (first | exact Drawn0.refl _ | apply Drawn0.step)⟩
     ·
      rw [if_neg c4] at H
      have c4b0 : decide (2000 < (((rd_T93 l0 x3_1).f3).size : Int)) = false := decide_eq_false c4
      have c4b1 : decide (2000 < ((rd_T93 l0 x3_1).f3).size) = false := decide_eq_false (by omega)
      clear c4
      have H' := qa H
      clear H
      have p111 : 0 ≤ (x3_1 : Int) := of_decide_eq_true (by first | (with_reducible assumption) | assumption)
      have q111 : x3_1 < (l0.length : Int) := of_decide_eq_true (by first | (with_reducible assumption) | assumption)
      obtain ⟨ad111, e111, hx111_0, hx111_1, hx111_2, hx111_3⟩ := at_T93 HR0.out x3_1 p111 q111
      cases e111
      replace p111 := eq_true p111
      replace q111 := eq_true q111
      go_wp2
      go_roundg k1
      case measure => have := HK1.out; omega
      case rel => exact ⟨(wrap64 (x3_1 + 1)), (by first | rfl | (simp; done) | (simp [*]; done) | (simp [bne_nil]; done)), H', ⟨by have := HK1.out; omega⟩, by repeat (first | exact Drawn0.refl _ | apply Drawn0.step)⟩
    ·
     rw [if_neg c3] at H
     exact absurd H (by simp)
   ·
    rw [if_neg c2] at H
    have c2b0 : decide (x3_1 < (l0.length : Int)) = false := decide_eq_false c2
    clear c2
    obtain rfl := Option.some.inj H
    go_wp2
    go_ret
    exact ⟨by first | rfl | (simp; done) | (simp [*]; done), by repeat (first | exact Drawn0.refl _ | apply Drawn0.step)⟩
def linhayref07_New.f  : Option ((List (S106)) × Int) := some ((([(⟨1, 1, (⟨#[]⟩ : ByteArray), 1, (⟨#[]⟩ : ByteArray)⟩ : S106)] : List (S106))), 1)
theorem linhayref07_New.calls  (r1 : List (S106)) (r2 : Int) (w : World) (h : linhayref07_New.f  = some (r1, r2)) :
  Calls Tryz.prog 55 #[] w fun e w' => ∃ v0_ : Value, e = .returned (.agg #[v0_, .int .i64 r2]) ∧ Kd.R k106 106 w' w.heap.size (fun _ => True) v0_ r1 ∧ Below w.heap.size w w' := by
 have hu36 := Tryz.underlying36
 have hu49 := Tryz.underlying49
 have hu66 := Tryz.underlying66
 have hu93 := Tryz.underlying93
 have hu115 := Tryz.underlying115
 have hu130 := Tryz.underlying130
 have hu162 := Tryz.underlying162
 have hu30 := Tryz.underlying30
 have hu106 := Tryz.underlying106
 have HB := qa (Below.refl w.heap.size w)
 have H : (some ((([(⟨1, 1, (⟨#[]⟩ : ByteArray), 1, (⟨#[]⟩ : ByteArray)⟩ : S106)] : List (S106))), 1)) = some (r1, r2) := h
 clear h
 obtain ⟨y113, hy113⟩ : ∃ y_ : List (S106), y_ = (([(⟨1, 1, (⟨#[]⟩ : ByteArray), 1, (⟨#[]⟩ : ByteArray)⟩ : S106)] : List (S106))) := ⟨_, rfl⟩
 replace H : (some (y113, 1)) = some (r1, r2) := by first | (rw [hy113]; with_reducible exact H) | (have H2_ := (Option.bind_some _ _).symm.trans H; rw [hy113]; with_reducible exact H2_) | (have H2_ := (Option.bind_some _ _).symm.trans H; with_reducible exact H2_) | with_reducible exact H | (rw [hy113]; exact H) | exact H
 have Ny113 := qa hy113
 clear hy113
 simp only [Option.some.injEq, Prod.mk.injEq] at H
 obtain ⟨rfl, rfl⟩ := H
 go_enter Tryz.func55, Tryz.ntmps55
 go_wp2_with (first | ((with_reducible refine gate_dst (N := 0) rfl ?_); refine box_event ?hg (N := 0) ?hd (cs := #[.slice none 0 0, .int .i64 0]) (t := 30) ?hr ?_; (case hd => rfl); (case hg => rfl); (case hr => first | (go_simp; done) | (go_simp; rfl)); intro gb112 hg w1 hbox hb; have n0_ := qa (below_step (by repeat (first | (with_reducible first | exact HB.out | apply below_alloc | apply pw_below_drewN | apply below_drew1) | exact HB.out)) hb); have n1_ := qa (hbox); have n2_ := qa ((by rw [hg]; exact (below_size (by repeat (first | (with_reducible first | exact HB.out | apply below_alloc | apply pw_below_drewN | apply below_drew1) | exact HB.out))) : w.heap.size ≤ gb112)); have n3_ := qa ((by rw [hg]; exact (below_size (by repeat (first | (with_reducible first | exact HB.out | apply below_alloc | apply pw_below_drewN | apply below_drew1) | exact HB.out))) : w.heap.size ≤ gb112)); clear HB; have HB := n0_; have BK112 := n1_; have GW112 := n2_; have GE112 := n3_; clear n0_ n1_ n2_ n3_; clear hb hbox hg) | ((with_reducible refine gate_dst (N := 2) rfl ?_); refine Kd.R_lit k106 _ 106 ?hg (N := 2) ?hd (xs := ([(⟨1, 1, (⟨#[]⟩ : ByteArray), 1, (⟨#[]⟩ : ByteArray)⟩ : S106)] : List (S106))) (inner := [.int .i64 1, .int .i64 1, .string (⟨#[]⟩ : ByteArray), .int .i64 1, .string (⟨#[]⟩ : ByteArray)]) (ok := fun _ => True) (okp := fun _ => True) ?hr ?hp (fun _ hk => hk) trivial (Below.refl _ _) (Nat.le_refl _) (by simp) ?_; (case hd => rfl); (case hg => rfl); (case hr => first | (go_simp; done) | (go_simp; rfl)); (case hp => exact (Reps.c5 (show Kd.M k106 _ _ _ (⟨1, 1, (⟨#[]⟩ : ByteArray), 1, (⟨#[]⟩ : ByteArray)⟩ : S106) [.int .i64 1, .int .i64 1, .string (⟨#[]⟩ : ByteArray), .int .i64 1, .string (⟨#[]⟩ : ByteArray)] from (k106_mkM _ _ _ (⟨1, 1, (⟨#[]⟩ : ByteArray), 1, (⟨#[]⟩ : ByteArray)⟩ : S106) )) (Reps.none _ _))); intro v114 w2 ho3 hb hg_ hnew_; clear hg_ hnew_; (first | rw [← Ny113.out] at ho3 | (simp only [Int.reduceToNat] at ho3; rw [← Ny113.out] at ho3)); have n0_ := qa (Kd.R_lower ho3 (below_size (by repeat (first | (with_reducible first | exact HB.out | apply below_alloc | apply pw_below_drewN | apply below_drew1 | refine below_set ?_ GE112.out) | exact HB.out)))); have n1_ := qa (blk_below (g := gb112) (o := .cells #[.slice none 0 0, .int .i64 0] 30 (0, 0)) (by (with_reducible repeat (first | refine blk_drewN ?_ _ | refine blk_drew ?_ | refine blk_alloc ?_ _)); exact BK112.out) hb); have n2_ := qa (below_step (by repeat (first | (with_reducible first | exact HB.out | apply below_alloc | apply pw_below_drewN | apply below_drew1 | refine below_set ?_ GE112.out) | exact HB.out)) hb); clear BK112; clear HB; have HO115 := n0_; have BK112 := n1_; have HB := n2_; clear n0_ n1_ n2_; clear hb ho3; obtain ⟨Ao4, co4, eo4⟩ := Kd.R_slice HO115.out; subst eo4; have hcz5_0 : w2.cell? ⟨gb112, 0, none⟩ = some (.slice none 0 0) := (blk_cell BK112.out 0).trans rfl; have hcz5_1 : w2.cell? ⟨gb112, 1, none⟩ = some (.int .i64 0) := (blk_cell BK112.out 1).trans rfl; have hfz5_0 := blk_frozen BK112.out 0; have hfz5_1 := blk_frozen BK112.out 1))
 refine bodyPost_ret (results_cell_row rfl _ _ gb112 30 #[.slice Ao4 y113.length co4, .int .i64 1] (0, 0) _ rfl (by (with_reducible repeat (first | refine blk_drewN ?_ _ | refine blk_drew ?_ | refine blk_alloc ?_ _)); refine blk_put (cs := #[.slice Ao4 y113.length co4, .int .i64 0]) ?_ 1 _ rfl; (with_reducible repeat (first | refine blk_drewN ?_ _ | refine blk_drew ?_ | refine blk_alloc ?_ _)); refine blk_put (cs := #[.slice none 0 0, .int .i64 0]) ?_ 0 _ rfl; (with_reducible repeat (first | refine blk_drewN ?_ _ | refine blk_drew ?_ | refine blk_alloc ?_ _)); exact BK112.out) Tryz.underlying30 rfl (by kernel_rfl)) rfl ?_
 exact ⟨_, by first | rfl | (simp [errW_none, errW_some] <;> rfl) | (simp [*, errW_none, errW_some] <;> rfl) | (simp [errW_none, errW_some, bne_nil]; done) | (simp [*, bne_nil]; done) | (simp [bne]; done), by (with_reducible repeat (first | apply Kd.R_alloc | apply Kd.R_drewN | apply Kd.R_drew)); exact Kd.R_mono (Kd.R_far (p := ⟨gb112, 1, none⟩) (Kd.R_far (p := ⟨gb112, 0, none⟩) (Kd.R_types HO115.out BK112.out (by decide)) (fun _ hk => hk.2) (.slice Ao4 y113.length co4)) (fun _ hk => hk.2) (.int .i64 1)) (fun _ hk => trivial), by repeat (first | (with_reducible first | exact HB.out | apply below_alloc | apply pw_below_drewN | apply below_drew1 | refine below_set ?_ GE112.out) | exact HB.out)⟩
end Go.Proofs.YtnpeeiikdcankaaGreat.X

namespace Go.Proofs.YtnpeeiikdcankaaGreat.Pu
open Go Go.RowKit Go.Proofs Go.Proofs.YtnpeeiikdcankaaGreat Go.Proofs.YtnpeeiikdcankaaGreatW.PrintWords Go.Proofs.YtnpeeiikdcankaaGreat.Ext Go.Proofs.YtnpeeiikdcankaaGreat.X
theorem r04_parts_l0 (s : ByteArray) (hs : s.size < 4294967296) : ∀ (d i : Nat) (out : List (List UInt8)) (now : List UInt8), i + d = s.size → out.length ≤ i → now.length ≤ i →
  Ev (fun k => linhayref04_Parts.l0 k s (bs out) (Sp.mk now) (i : Int)) (bs (out ++ Sp.go now (s.data.toList.drop i))) := by
 have fin : ∀ out now, Ev (fun k => linhayref04_Parts.l0 k s out now ((s.size + 1 : Nat) : Int)) out := fun out now => by
  refine Ev.step (fun k => by rw [linhayref04_Parts.l0]) ?_
  exact ev_neg (by omega) (Ev.now _)
 have last : ∀ (i : Nat) (out : List (List UInt8)) (now : List UInt8) (R : List ByteArray), i ≤ s.size → out.length ≤ i →
   Ev (fun k => linhayref04_Parts.l0 k s (bs (out ++ Sp.keep now [])) (Sp.mk []) ((i + 1 : Nat) : Int)) R →
   Ev (fun k => linhayref04_Parts.j1 k s (bs out) (Sp.mk now) (i : Int) false) R := fun i out now R hi ho hn => by
  refine Ev.step (fun k => by rw [linhayref04_Parts.j1]) ?_
  refine ev_neg (by simp) ?_
  rw [toList_mk]
  by_cases h1 : now = []
  ·
   refine ev_pos h1 ?_
   rw [w1 (by omega)]
   simpa [Sp.keep, h1, Sp.mk] using hn
  ·
   refine ev_neg h1 ?_
   by_cases h2 : now = [46]
   ·
    refine ev_pos h2 ?_
    rw [w1 (by omega)]
    simpa [Sp.keep, h2, Sp.mk] using hn
   ·
    refine ev_neg h2 (ev_pos (by rw [bs_len]; omega) ?_)
    rw [w1 (by omega)]
    simpa [Sp.keep, h1, h2, bs, Sp.mk] using hn
 intro d
 induction d with
 | zero =>
  intro i out now hi ho hn
  obtain rfl : i = s.size := by omega
  refine Ev.step (fun k => by rw [linhayref04_Parts.l0]) ?_
  refine ev_pos (by omega) (ev_neg (by omega) ?_)
  have e : s.data.toList.drop s.size = [] := by rw [Sp.size_eq]; simp
  rw [e, Sp.go]
  exact last s.size out now _ (by omega) ho (fin _ _)
 | succ d ih =>
  intro i out now hi ho hn
  have hlt : i < s.size := by omega
  obtain ⟨c, hc, hd⟩ := get_at s hlt
  refine Ev.step (fun k => by rw [linhayref04_Parts.l0]) ?_
  refine ev_pos (by omega) (ev_pos (by omega) (ev_pos (by omega) ?_))
  rw [bt_nat hc, hd, Sp.go]
  by_cases h47 : c = 47
  ·
   rw [if_pos h47]
   have e : ((c.toNat : Int) != 47) = false := by subst h47; rfl
   rw [e, Sp.keep_app, ← List.append_assoc]
   refine last i out now _ (by omega) ho ?_
   refine ih (i + 1) (out ++ Sp.keep now []) [] (by omega) ?_ (by simp)
   have := Sp.keep_one now
   rw [List.length_append]
   omega
  ·
   rw [if_neg h47]
   have e : ((c.toNat : Int) != 47) = true := u8_ne.2 h47
   rw [e]
   refine Ev.step (fun k => by rw [linhayref04_Parts.j1]) ?_
   refine ev_pos rfl (ev_pos (by omega) ?_)
   rw [w1 (by omega)]
   refine ev_pos (by omega) (ev_pos (by omega) ?_)
   rw [Int.toNat_natCast, Int.toNat_natCast, ex1 hc]
   refine ev_pos (by rw [Sp.mk_size, Sp.mk_size]; simp; omega) ?_
   rw [app_mk]
   exact ih (i + 1) out (now ++ [c]) (by omega) (by omega) (by simp; omega)
theorem r04_parts (s : ByteArray) (hs : s.size < 4294967296) : Ev (fun k => linhayref04_Parts.f k s) (bs (Sp.parts s.data.toList)) := by
 have h := r04_parts_l0 s hs s.size 0 [] [] (by omega) (by simp) (by simp)
 simpa [bs, Sp.mk, Sp.parts, linhayref04_Parts.f] using h
theorem r03_check_l0 (s : ByteArray) (hs : s.size ≤ 64) : ∀ (d i : Nat), i + d = s.size → (47 ∉ s.data.toList.take i ∧ 0 ∉ s.data.toList.take i) →
  Ev (fun k => linhayref03_Check.l0 k s (i : Int)) (if 47 ∈ s.data.toList ∨ 0 ∈ s.data.toList then 11 else if s.data.toList = [46] ∨ s.data.toList = [46, 46] then 6 else 0) := by
 intro d
 induction d with
 | zero =>
  intro i hi hn
  have e : s.data.toList.take i = s.data.toList := List.take_of_length_le (by rw [← Sp.size_eq]; omega)
  rw [e] at hn
  refine Ev.step (fun k => by rw [linhayref03_Check.l0]) (ev_neg (by omega) ?_)
  rw [toL]
  have hx : ¬ (47 ∈ s.data.toList ∨ 0 ∈ s.data.toList) := fun h => h.elim hn.1 hn.2
  by_cases h1 : s.data.toList = [46]
  ·
   refine ev_pos h1 ?_
   rw [if_neg hx, if_pos (.inl h1)]
   exact Ev.now _
  ·
   refine ev_neg h1 ?_
   by_cases h2 : s.data.toList = [46, 46]
   ·
    refine ev_pos h2 ?_
    rw [if_neg hx, if_pos (.inr h2)]
    exact Ev.now _
   ·
    refine ev_neg h2 ?_
    rw [if_neg hx, if_neg (fun h => h.elim h1 h2)]
    exact Ev.now _
 | succ d ih =>
  intro i hi hn
  have hlt : i < s.size := by omega
  obtain ⟨c, hc, hd⟩ := get_at s hlt
  have hm : c ∈ s.data.toList := List.mem_of_getElem? hc
  refine Ev.step (fun k => by rw [linhayref03_Check.l0]) (ev_pos (by omega) (ev_pos (by omega) ?_))
  rw [bt_nat hc, w1 (by omega)]
  by_cases h0 : c = 0
  ·
   subst h0
   rw [if_pos (.inr hm)]
   exact ev_pos rfl (Ev.now _)
  ·
   refine ev_neg (fun h => h0 (UInt8.toNat_inj.1 (by simpa using h))) ?_
   by_cases h47 : c = 47
   ·
    subst h47
    rw [if_pos (.inl hm)]
    exact ev_pos rfl (Ev.now _)
   ·
    refine ev_neg (fun h => h47 (UInt8.toNat_inj.1 (by have : ((47 : UInt8).toNat : Int) = 47 := rfl; omega))) (ih (i + 1) (by omega) ?_)
    have hl : i < s.data.toList.length := by rw [← Sp.size_eq]; exact hlt
    have e : s.data.toList[i] = c := by rw [List.getElem?_eq_getElem hl] at hc; exact Option.some.inj hc
    rw [List.take_succ_eq_append_getElem hl, e]
    simp only [List.mem_append, List.mem_singleton, not_or]
    exact ⟨⟨hn.1, fun h => h47 h.symm⟩, hn.2, fun h => h0 h.symm⟩
theorem r03_check (s : ByteArray) : Ev (fun k => linhayref03_Check.f k s) (Sp.check s.data.toList) := by
 unfold linhayref03_Check.f Sp.check
 by_cases h0 : s.size = 0
 ·
  have : s.data.toList = [] := List.eq_nil_of_length_eq_zero (by rw [← Sp.size_eq]; exact h0)
  rw [if_pos this]
  exact ev_pos (by omega) (Ev.now _)
 ·
  have : s.data.toList ≠ [] := fun h => h0 (by rw [Sp.size_eq, h]; rfl)
  rw [if_neg this, ← Sp.size_eq]
  refine ev_neg (by omega) ?_
  by_cases h1 : 64 < s.size
  ·
   rw [if_pos (.inl h1)]
   exact ev_pos (by omega) (Ev.now _)
  ·
   refine ev_neg (by omega) ?_
   have h := r03_check_l0 s (by omega) _ 0 (Nat.zero_add _) (by simp)
   have e : (64 < s.size ∨ (47 ∈ s.data.toList ∨ 0 ∈ s.data.toList)) = (47 ∈ s.data.toList ∨ 0 ∈ s.data.toList) := propext ⟨fun x => x.elim (fun y => absurd y h1) id, .inr⟩
   simp only [e]
   exact h
end Go.Proofs.YtnpeeiikdcankaaGreat.Pu

namespace Go.Proofs.YtnpeeiikdcankaaGreat.X
open Go.RowKit Go.Proofs.YtnpeeiikdcankaaGreatW.PrintWords Go.Proofs.YtnpeeiikdcankaaGreatW.PrintLast Go.Proofs.YtnpeeiikdcankaaGreatW.PrintMore Go.Proofs.YtnpeeiikdcankaaGreat.Ext
attribute [local go_sem] max2_int min2_int max_two min_two max_three min_three max_four min_four
def linhayref07_At.l0 : Nat → Int → Int → List (S106) → Int → Option (Int × Int × ByteArray × Int × ByteArray)
 | 0, _, _, _, _ => none
 | k + 1, x1, x5, x117000, x117001 => if x5 < (x117000.length : Int) then (if 0 ≤ x5 then (if ((rd_T106 x117000 x5).f0) = x1 then (some ((rd_T106 x117000 x5).f0, (rd_T106 x117000 x5).f1, (rd_T106 x117000 x5).f2, (rd_T106 x117000 x5).f3, (rd_T106 x117000 x5).f4)) else (linhayref07_At.l0 k x1 (wrap64 (x5 + 1)) x117000 x117001)) else (none)) else (some (0, 0, (⟨#[]⟩ : ByteArray), 0, (⟨#[]⟩ : ByteArray)))
def linhayref07_At.f (k : Nat) (l0_0 : List (S106)) (a0_1 : Int) (a1 : Int) : Option (Int × Int × ByteArray × Int × ByteArray) := linhayref07_At.l0 k a1 0 l0_0 a0_1
theorem linhayref07_At.calls (k : Nat) (A0_0 : Option Addr) (c0_0 : Nat) (l0_0 : List (S106)) (a0_1 : Int) (a1 : Int) (r1 : Int) (r2 : Int) (r3 : ByteArray) (r4 : Int) (r5 : ByteArray) (w : World) (hr0_0 : Kd.C k106 w A0_0 l0_0.length l0_0) (hc0_0 : l0_0.length ≤ c0_0) (h : linhayref07_At.f k l0_0 a0_1 a1 = some (r1, r2, r3, r4, r5)) :
  Calls Tryz.prog 68 #[.agg #[.slice A0_0 l0_0.length c0_0, .int .i64 a0_1], .int .i64 a1] w fun e w' => e = .returned (.agg #[.int .i64 r1, .int .i64 r2, .string r3, .int .i64 r4, .string r5]) ∧ Below w.heap.size w w' := by
 have hu36 := Tryz.underlying36
 have hu49 := Tryz.underlying49
 have hu66 := Tryz.underlying66
 have hu93 := Tryz.underlying93
 have hu115 := Tryz.underlying115
 have hu130 := Tryz.underlying130
 have hu162 := Tryz.underlying162
 have hu30 := Tryz.underlying30
 have hu106 := Tryz.underlying106
 have HR0_0 := qa hr0_0
 have HC0_0 := qa hc0_0
 clear hr0_0 hc0_0
 have HB := qa (Below.refl w.heap.size w)
 have H : (linhayref07_At.l0 k a1 0 l0_0 a0_1) = some (r1, r2, r3, r4, r5) := h
 clear h
 have H' := qa H
 clear H
 go_enter Tryz.func68, Tryz.ntmps68
 go_wp2_with (first | ((with_reducible refine gate_dst (N := 2) rfl ?_); refine box_event ?hg (N := 2) ?hd (cs := #[.slice A0_0 l0_0.length c0_0, .int .i64 a0_1]) (t := 30) ?hr ?_; (case hd => rfl); (case hg => rfl); (case hr => first | (go_simp; done) | (go_simp; rfl)); intro gb116 hg w3 hbox hb; have n0_ := qa (below_step (by repeat (first | (with_reducible first | exact HB.out | apply below_alloc | apply pw_below_drewN | apply below_drew1) | exact HB.out)) hb); have n1_ := qa (hbox); have n2_ := qa ((by rw [hg]; exact (below_size (by repeat (first | (with_reducible first | exact HB.out | apply below_alloc | apply pw_below_drewN | apply below_drew1) | exact HB.out))) : w.heap.size ≤ gb116)); have n3_ := qa ((by rw [hg]; exact (below_size (by repeat (first | (with_reducible first | exact HB.out | apply below_alloc | apply pw_below_drewN | apply below_drew1) | exact HB.out))) : w.heap.size ≤ gb116)); clear HB; have HB := n0_; have BK116 := n1_; have GW116 := n2_; have GE116 := n3_; clear n0_ n1_ n2_ n3_; clear hb hbox hg) | ((with_reducible refine gate_dst (N := 4) rfl ?_); refine box_event ?hg (N := 4) ?hd (cs := #[.int .i64 0, .int .i64 0, .string (⟨#[]⟩ : ByteArray), .int .i64 0, .string (⟨#[]⟩ : ByteArray)]) (t := 106) ?hr ?_; (case hd => rfl); (case hg => rfl); (case hr => first | (go_simp; done) | (go_simp; rfl)); intro gb117 hg w4 hbox hb; have n0_ := qa (blk_below (g := gb116) (o := .cells #[.slice A0_0 l0_0.length c0_0, .int .i64 a0_1] 30 (0, 0)) (by (with_reducible repeat (first | refine blk_drewN ?_ _ | refine blk_drew ?_ | refine blk_alloc ?_ _)); exact BK116.out) hb); have n1_ := qa (below_step (by repeat (first | (with_reducible first | exact HB.out | apply below_alloc | apply pw_below_drewN | apply below_drew1 | refine below_set ?_ GE116.out) | exact HB.out)) hb); have n2_ := qa (hbox); have n3_ := qa ((by rw [hg]; exact (below_size (by repeat (first | (with_reducible first | exact HB.out | apply below_alloc | apply pw_below_drewN | apply below_drew1 | refine below_set ?_ GE116.out) | exact HB.out))) : w.heap.size ≤ gb117)); have n4_ := qa ((by rw [hg]; exact (below_size (by repeat (first | (with_reducible first | exact HB.out | apply below_alloc | apply pw_below_drewN | apply below_drew1 | refine below_set ?_ GE116.out) | exact HB.out))) : w.heap.size ≤ gb117)); have n5_ := qa ((by rw [hg]; exact Nat.ne_of_lt (blk_lt (g := gb116) (o := .cells #[.slice A0_0 l0_0.length c0_0, .int .i64 a0_1] 30 (0, 0)) (by (with_reducible repeat (first | refine blk_drewN ?_ _ | refine blk_drew ?_ | refine blk_alloc ?_ _)); exact BK116.out)) : gb116 ≠ gb117)); have n6_ := qa ((by rw [hg]; exact Nat.ne_of_gt (blk_lt (g := gb116) (o := .cells #[.slice A0_0 l0_0.length c0_0, .int .i64 a0_1] 30 (0, 0)) (by (with_reducible repeat (first | refine blk_drewN ?_ _ | refine blk_drew ?_ | refine blk_alloc ?_ _)); exact BK116.out)) : gb117 ≠ gb116)); clear BK116; clear HB; have BK116 := n0_; have HB := n1_; have BK117 := n2_; have GW117 := n3_; have GE117 := n4_; have NB116_117 := n5_; have NB117_116 := n6_; clear n0_ n1_ n2_ n3_ n4_ n5_ n6_; clear hb hbox hg))
 go_loopg [5] k (fun kq v5 w' => ∃ (x5_1 : Int) (x118000_1 : Int) (x118001_1 : Int) (x118002_1 : ByteArray) (x118003_1 : Int) (x118004_1 : ByteArray), v5 = .int .i64 x5_1 ∧ Aside0 (linhayref07_At.l0 kq a1 x5_1 l0_0 a0_1 = some (r1, r2, r3, r4, r5)) ∧ Aside0 (kq ≤ k) ∧ Aside0 (w'.heap[gb116]? = some (.cells #[(.slice A0_0 l0_0.length c0_0), .int .i64 a0_1] 30 (0, 0))) ∧ Aside0 (w'.heap[gb117]? = some (.cells #[.int .i64 x118000_1, .int .i64 x118001_1, .string x118002_1, .int .i64 x118003_1, .string x118004_1] 106 (0, 0))) ∧ Aside0 (Below w.heap.size w w'))
 case atStart => exact ⟨(0), (0), (0), ((⟨#[]⟩ : ByteArray)), (0), ((⟨#[]⟩ : ByteArray)), (by first | rfl | (simp; done) | (simp [*]; done) | (simp [bne_nil]; done)), H', ⟨Nat.le_refl _⟩, ⟨by (with_reducible repeat (first | refine blk_drewN ?_ _ | refine blk_drew ?_ | refine blk_alloc ?_ _)); exact BK116.out⟩, ⟨by (with_reducible repeat (first | refine blk_drewN ?_ _ | refine blk_drew ?_ | refine blk_alloc ?_ _)); exact BK117.out⟩, ⟨by repeat (first | (with_reducible first | exact HB.out | apply below_alloc | apply pw_below_drewN | apply below_drew1 | refine below_set ?_ GE116.out | refine below_set ?_ GE117.out) | exact HB.out)⟩⟩
 case round =>
  clear H'
  try clear p2
  obtain ⟨x5_1, x118000_1, x118001_1, x118002_1, x118003_1, x118004_1, rfl, HA, HK1, BK116, BK117, HB⟩ := hrel
  cases gk with
  | zero => exact absurd HA.out (by simp [linhayref07_At.l0])
  | succ k1 =>
   have H := HA.out
   clear HA
   simp only [linhayref07_At.l0] at H
   by_cases c5 : x5_1 < (l0_0.length : Int)
   ·
    rw [if_pos c5] at H
    have c5b0 : decide (x5_1 < (l0_0.length : Int)) = true := decide_eq_true c5
    clear c5
    by_cases c6 : 0 ≤ x5_1
    ·
     rw [if_pos c6] at H
     have c6b0 : decide (0 ≤ x5_1) = true := decide_eq_true c6
     clear c6
     by_cases c7 : ((rd_T106 l0_0 x5_1).f0) = a1
     ·
      rw [if_pos c7] at H
      have c7b0 : (((rd_T106 l0_0 x5_1).f0) == a1) = true := beq_iff_eq.mpr c7
      have c7b1 : (((rd_T106 l0_0 x5_1).f0) != a1) = false := bne_eq_false_iff_eq.mpr c7
      clear c7
      simp only [Option.some.injEq, Prod.mk.injEq] at H
      obtain ⟨rfl, rfl, rfl, rfl, rfl⟩ := H
      have hnb8 := NB116_117.out
      have hnc8 := NB117_116.out
      have hcz9_0 : wr.cell? ⟨gb116, 0, none⟩ = some (.slice A0_0 l0_0.length c0_0) := (blk_cell BK116.out 0).trans rfl
      have hcz9_1 : wr.cell? ⟨gb116, 1, none⟩ = some (.int .i64 a0_1) := (blk_cell BK116.out 1).trans rfl
      have hfz9_0 := blk_frozen BK116.out 0
      have hfz9_1 := blk_frozen BK116.out 1
      have p118 : 0 ≤ (x5_1 : Int) := of_decide_eq_true (by first | (with_reducible assumption) | assumption)
      have q118 : x5_1 < (l0_0.length : Int) := of_decide_eq_true (by first | (with_reducible assumption) | assumption)
      obtain ⟨ad118, e118, hx118_0, hx118_1, hx118_2, hx118_3, hx118_4⟩ := at_T106 HR0_0.out x5_1 p118 q118
      cases e118
      replace hx118_0 := (HB.out.cell (World.block_lt_of_cell? w _ hx118_0)).trans hx118_0
      replace hx118_1 := (HB.out.cell (World.block_lt_of_cell? w _ hx118_1)).trans hx118_1
      replace hx118_2 := (HB.out.cell (World.block_lt_of_cell? w _ hx118_2)).trans hx118_2
      replace hx118_3 := (HB.out.cell (World.block_lt_of_cell? w _ hx118_3)).trans hx118_3
      replace hx118_4 := (HB.out.cell (World.block_lt_of_cell? w _ hx118_4)).trans hx118_4
      replace p118 := eq_true p118
      replace q118 := eq_true q118
      have p119 : 0 ≤ (x5_1 : Int) := of_decide_eq_true (by first | (with_reducible assumption) | assumption)
      have q119 : x5_1 < (l0_0.length : Int) := of_decide_eq_true (by first | (with_reducible assumption) | assumption)
      obtain ⟨ad119, e119, hx119_0, hx119_1, hx119_2, hx119_3, hx119_4⟩ := at_T106 HR0_0.out x5_1 p119 q119
      obtain rfl : ad118 = ad119 := (by injection e119)
      replace hx119_0 := (HB.out.cell (World.block_lt_of_cell? w _ hx119_0)).trans hx119_0
      replace hx119_1 := (HB.out.cell (World.block_lt_of_cell? w _ hx119_1)).trans hx119_1
      replace hx119_2 := (HB.out.cell (World.block_lt_of_cell? w _ hx119_2)).trans hx119_2
      replace hx119_3 := (HB.out.cell (World.block_lt_of_cell? w _ hx119_3)).trans hx119_3
      replace hx119_4 := (HB.out.cell (World.block_lt_of_cell? w _ hx119_4)).trans hx119_4
      replace p119 := eq_true p119
      replace q119 := eq_true q119
      have hcz10_0 : wr.cell? ⟨gb117, 0, none⟩ = some (.int .i64 x118000_1) := (blk_cell BK117.out 0).trans rfl
      have hcz10_1 : wr.cell? ⟨gb117, 1, none⟩ = some (.int .i64 x118001_1) := (blk_cell BK117.out 1).trans rfl
      have hcz10_2 : wr.cell? ⟨gb117, 2, none⟩ = some (.string x118002_1) := (blk_cell BK117.out 2).trans rfl
      have hcz10_3 : wr.cell? ⟨gb117, 3, none⟩ = some (.int .i64 x118003_1) := (blk_cell BK117.out 3).trans rfl
      have hcz10_4 : wr.cell? ⟨gb117, 4, none⟩ = some (.string x118004_1) := (blk_cell BK117.out 4).trans rfl
      have hfz10_0 := blk_frozen BK117.out 0
      have hfz10_1 := blk_frozen BK117.out 1
      have hfz10_2 := blk_frozen BK117.out 2
      have hfz10_3 := blk_frozen BK117.out 3
      have hfz10_4 := blk_frozen BK117.out 4
      go_wp2
      refine bodyPost_ret (results_cell_row rfl _ _ gb117 106 #[.int .i64 ((rd_T106 l0_0 x5_1).f0), .int .i64 ((rd_T106 l0_0 x5_1).f1), .string ((rd_T106 l0_0 x5_1).f2), .int .i64 ((rd_T106 l0_0 x5_1).f3), .string ((rd_T106 l0_0 x5_1).f4)] (0, 0) _ rfl (by (with_reducible repeat (first | refine blk_drewN ?_ _ | refine blk_drew ?_ | refine blk_alloc ?_ _)); refine blk_put (cs := #[.int .i64 ((rd_T106 l0_0 x5_1).f0), .int .i64 ((rd_T106 l0_0 x5_1).f1), .string ((rd_T106 l0_0 x5_1).f2), .int .i64 ((rd_T106 l0_0 x5_1).f3), .string x118004_1]) ?_ 4 _ rfl; (with_reducible repeat (first | refine blk_drewN ?_ _ | refine blk_drew ?_ | refine blk_alloc ?_ _)); refine blk_put (cs := #[.int .i64 ((rd_T106 l0_0 x5_1).f0), .int .i64 ((rd_T106 l0_0 x5_1).f1), .string ((rd_T106 l0_0 x5_1).f2), .int .i64 x118003_1, .string x118004_1]) ?_ 3 _ rfl; (with_reducible repeat (first | refine blk_drewN ?_ _ | refine blk_drew ?_ | refine blk_alloc ?_ _)); refine blk_put (cs := #[.int .i64 ((rd_T106 l0_0 x5_1).f0), .int .i64 ((rd_T106 l0_0 x5_1).f1), .string x118002_1, .int .i64 x118003_1, .string x118004_1]) ?_ 2 _ rfl; (with_reducible repeat (first | refine blk_drewN ?_ _ | refine blk_drew ?_ | refine blk_alloc ?_ _)); refine blk_put (cs := #[.int .i64 ((rd_T106 l0_0 x5_1).f0), .int .i64 x118001_1, .string x118002_1, .int .i64 x118003_1, .string x118004_1]) ?_ 1 _ rfl; (with_reducible repeat (first | refine blk_drewN ?_ _ | refine blk_drew ?_ | refine blk_alloc ?_ _)); refine blk_put (cs := #[.int .i64 x118000_1, .int .i64 x118001_1, .string x118002_1, .int .i64 x118003_1, .string x118004_1]) ?_ 0 _ rfl; (with_reducible repeat (first | refine blk_drewN ?_ _ | refine blk_drew ?_ | refine blk_alloc ?_ _)); exact BK117.out) Tryz.underlying106 rfl (by kernel_rfl)) rfl ?_
      exact ⟨by first | rfl | (simp [errW_none, errW_some] <;> rfl) | (simp [*, errW_none, errW_some] <;> rfl) | (simp [errW_none, errW_some, bne_nil]; done) | (simp [*, bne_nil]; done) | (simp [bne]; done), by repeat (first | (with_reducible first | exact HB.out | apply below_alloc | apply pw_below_drewN | apply below_drew1 | refine below_set ?_ GE116.out | refine below_set ?_ GE117.out) | exact HB.out)⟩
     ·
      rw [if_neg c7] at H
      have c7b0 : (((rd_T106 l0_0 x5_1).f0) == a1) = false := beq_eq_false_iff_ne.mpr c7
      have c7b1 : (((rd_T106 l0_0 x5_1).f0) != a1) = true := bne_iff_ne.mpr c7
      have H' := qa H
      clear H
      have hnb11 := NB116_117.out
      have hnc11 := NB117_116.out
      have hcz12_0 : wr.cell? ⟨gb116, 0, none⟩ = some (.slice A0_0 l0_0.length c0_0) := (blk_cell BK116.out 0).trans rfl
      have hcz12_1 : wr.cell? ⟨gb116, 1, none⟩ = some (.int .i64 a0_1) := (blk_cell BK116.out 1).trans rfl
      have hfz12_0 := blk_frozen BK116.out 0
      have hfz12_1 := blk_frozen BK116.out 1
      have p118 : 0 ≤ (x5_1 : Int) := of_decide_eq_true (by first | (with_reducible assumption) | assumption)
      have q118 : x5_1 < (l0_0.length : Int) := of_decide_eq_true (by first | (with_reducible assumption) | assumption)
      obtain ⟨ad118, e118, hx118_0, hx118_1, hx118_2, hx118_3, hx118_4⟩ := at_T106 HR0_0.out x5_1 p118 q118
      cases e118
      replace hx118_0 := (HB.out.cell (World.block_lt_of_cell? w _ hx118_0)).trans hx118_0
      replace hx118_1 := (HB.out.cell (World.block_lt_of_cell? w _ hx118_1)).trans hx118_1
      replace hx118_2 := (HB.out.cell (World.block_lt_of_cell? w _ hx118_2)).trans hx118_2
      replace hx118_3 := (HB.out.cell (World.block_lt_of_cell? w _ hx118_3)).trans hx118_3
      replace hx118_4 := (HB.out.cell (World.block_lt_of_cell? w _ hx118_4)).trans hx118_4
      replace p118 := eq_true p118
      replace q118 := eq_true q118
      go_wp2
      go_roundg k1
      case measure => have := HK1.out; omega
      case rel => exact ⟨(wrap64 (x5_1 + 1)), (x118000_1), (x118001_1), (x118002_1), (x118003_1), (x118004_1), (by first | rfl | (simp; done) | (simp [*]; done) | (simp [bne_nil]; done)), H', ⟨by have := HK1.out; omega⟩, ⟨by (with_reducible repeat (first | refine blk_drewN ?_ _ | refine blk_drew ?_ | refine blk_alloc ?_ _)); exact BK116.out⟩, ⟨by (with_reducible repeat (first | refine blk_drewN ?_ _ | refine blk_drew ?_ | refine blk_alloc ?_ _)); exact BK117.out⟩, ⟨by repeat (first | (with_reducible first | exact HB.out | apply below_alloc | apply pw_below_drewN | apply below_drew1 | refine below_set ?_ GE116.out | refine below_set ?_ GE117.out) | exact HB.out)⟩⟩
    ·
     rw [if_neg c6] at H
     exact absurd H (by simp)
   ·
    rw [if_neg c5] at H
    have c5b0 : decide (x5_1 < (l0_0.length : Int)) = false := decide_eq_false c5
    clear c5
    simp only [Option.some.injEq, Prod.mk.injEq] at H
    obtain ⟨rfl, rfl, rfl, rfl, rfl⟩ := H
    have hnb13 := NB116_117.out
    have hnc13 := NB117_116.out
    have hcz14_0 : wr.cell? ⟨gb116, 0, none⟩ = some (.slice A0_0 l0_0.length c0_0) := (blk_cell BK116.out 0).trans rfl
    have hcz14_1 : wr.cell? ⟨gb116, 1, none⟩ = some (.int .i64 a0_1) := (blk_cell BK116.out 1).trans rfl
    have hfz14_0 := blk_frozen BK116.out 0
    have hfz14_1 := blk_frozen BK116.out 1
    have hcz15_0 : wr.cell? ⟨gb117, 0, none⟩ = some (.int .i64 x118000_1) := (blk_cell BK117.out 0).trans rfl
    have hcz15_1 : wr.cell? ⟨gb117, 1, none⟩ = some (.int .i64 x118001_1) := (blk_cell BK117.out 1).trans rfl
    have hcz15_2 : wr.cell? ⟨gb117, 2, none⟩ = some (.string x118002_1) := (blk_cell BK117.out 2).trans rfl
    have hcz15_3 : wr.cell? ⟨gb117, 3, none⟩ = some (.int .i64 x118003_1) := (blk_cell BK117.out 3).trans rfl
    have hcz15_4 : wr.cell? ⟨gb117, 4, none⟩ = some (.string x118004_1) := (blk_cell BK117.out 4).trans rfl
    have hfz15_0 := blk_frozen BK117.out 0
    have hfz15_1 := blk_frozen BK117.out 1
    have hfz15_2 := blk_frozen BK117.out 2
    have hfz15_3 := blk_frozen BK117.out 3
    have hfz15_4 := blk_frozen BK117.out 4
    go_wp2
    refine bodyPost_ret (results_cell_row rfl _ _ gb117 106 #[.int .i64 0, .int .i64 0, .string (⟨#[]⟩ : ByteArray), .int .i64 0, .string (⟨#[]⟩ : ByteArray)] (0, 0) _ rfl (by (with_reducible repeat (first | refine blk_drewN ?_ _ | refine blk_drew ?_ | refine blk_alloc ?_ _)); refine blk_put (cs := #[.int .i64 0, .int .i64 0, .string (⟨#[]⟩ : ByteArray), .int .i64 0, .string x118004_1]) ?_ 4 _ rfl; (with_reducible repeat (first | refine blk_drewN ?_ _ | refine blk_drew ?_ | refine blk_alloc ?_ _)); refine blk_put (cs := #[.int .i64 0, .int .i64 0, .string (⟨#[]⟩ : ByteArray), .int .i64 x118003_1, .string x118004_1]) ?_ 3 _ rfl; (with_reducible repeat (first | refine blk_drewN ?_ _ | refine blk_drew ?_ | refine blk_alloc ?_ _)); refine blk_put (cs := #[.int .i64 0, .int .i64 0, .string x118002_1, .int .i64 x118003_1, .string x118004_1]) ?_ 2 _ rfl; (with_reducible repeat (first | refine blk_drewN ?_ _ | refine blk_drew ?_ | refine blk_alloc ?_ _)); refine blk_put (cs := #[.int .i64 0, .int .i64 x118001_1, .string x118002_1, .int .i64 x118003_1, .string x118004_1]) ?_ 1 _ rfl; (with_reducible repeat (first | refine blk_drewN ?_ _ | refine blk_drew ?_ | refine blk_alloc ?_ _)); refine blk_put (cs := #[.int .i64 x118000_1, .int .i64 x118001_1, .string x118002_1, .int .i64 x118003_1, .string x118004_1]) ?_ 0 _ rfl; (with_reducible repeat (first | refine blk_drewN ?_ _ | refine blk_drew ?_ | refine blk_alloc ?_ _)); exact BK117.out) Tryz.underlying106 rfl (by kernel_rfl)) rfl ?_
    exact ⟨by first | rfl | (simp [errW_none, errW_some] <;> rfl) | (simp [*, errW_none, errW_some] <;> rfl) | (simp [errW_none, errW_some, bne_nil]; done) | (simp [*, bne_nil]; done) | (simp [bne]; done), by repeat (first | (with_reducible first | exact HB.out | apply below_alloc | apply pw_below_drewN | apply below_drew1 | refine below_set ?_ GE116.out | refine below_set ?_ GE117.out) | exact HB.out)⟩
def linhayref07_dir.f (k : Nat) (l0_0 : List (S106)) (a0_1 : Int) (a1 : Int) : Option (Int) := (linhayref07_At.f k l0_0 a0_1 a1).bind fun bt121 => (if bt121.2.2.2.1 = 0 then (some 5) else (if bt121.2.2.2.1 = 1 then (some 0) else (some 7)))
theorem linhayref07_dir.calls (k : Nat) (A0_0 : Option Addr) (c0_0 : Nat) (l0_0 : List (S106)) (a0_1 : Int) (a1 : Int) (r : Int) (w : World) (hr0_0 : Kd.C k106 w A0_0 l0_0.length l0_0) (hc0_0 : l0_0.length ≤ c0_0) (h : linhayref07_dir.f k l0_0 a0_1 a1 = some r) :
  Calls Tryz.prog 103 #[.agg #[.slice A0_0 l0_0.length c0_0, .int .i64 a0_1], .int .i64 a1] w fun e w' => e = .returned (.int .i64 r) ∧ Below w.heap.size w w' := by
 have hu36 := Tryz.underlying36
 have hu49 := Tryz.underlying49
 have hu66 := Tryz.underlying66
 have hu93 := Tryz.underlying93
 have hu106 := Tryz.underlying106
 have hu115 := Tryz.underlying115
 have hu130 := Tryz.underlying130
 have hu162 := Tryz.underlying162
 have hu30 := Tryz.underlying30
 have HR0_0 := qa hr0_0
 have HC0_0 := qa hc0_0
 clear hr0_0 hc0_0
 have HB := qa (Below.refl w.heap.size w)
 have H : ((linhayref07_At.f k l0_0 a0_1 a1).bind fun bt121 => (if bt121.2.2.2.1 = 0 then (some 5) else (if bt121.2.2.2.1 = 1 then (some 0) else (some 7)))) = some r := h
 clear h
 replace H := Option.bind_eq_some_iff.mp H
 obtain ⟨⟨t121, t122, t123, t124, t125⟩, A30, H⟩ := H
 replace H : (if t124 = 0 then (some 5) else (if t124 = 1 then (some 0) else (some 7))) = some r := H
 have A3 := qa A30
 clear A30
 by_cases c4 : t124 = 0
 ·
  rw [if_pos c4] at H
  have c4b0 : (t124 == 0) = true := beq_iff_eq.mpr c4
  have c4b1 : (t124 != 0) = false := bne_eq_false_iff_eq.mpr c4
  clear c4
  obtain rfl := Option.some.inj H
  go_enter Tryz.func103, Tryz.ntmps103
  go_wp2_with (first | ((with_reducible refine gate_dst (N := 2) rfl ?_); refine box_event ?hg (N := 2) ?hd (cs := #[.slice A0_0 l0_0.length c0_0, .int .i64 a0_1]) (t := 30) ?hr ?_; (case hd => rfl); (case hg => rfl); (case hr => first | (go_simp; done) | (go_simp; rfl)); intro gb120 hg w5 hbox hb; have n0_ := qa (below_step (by repeat (first | (with_reducible first | exact HB.out | apply below_alloc | apply pw_below_drewN | apply below_drew1) | exact HB.out)) hb); have n1_ := qa (hbox); have n2_ := qa ((by rw [hg]; exact (below_size (by repeat (first | (with_reducible first | exact HB.out | apply below_alloc | apply pw_below_drewN | apply below_drew1) | exact HB.out))) : w.heap.size ≤ gb120)); have n3_ := qa ((by rw [hg]; exact (below_size (by repeat (first | (with_reducible first | exact HB.out | apply below_alloc | apply pw_below_drewN | apply below_drew1) | exact HB.out))) : w.heap.size ≤ gb120)); clear HB; have HB := n0_; have BK120 := n1_; have GW120 := n2_; have GE120 := n3_; clear n0_ n1_ n2_ n3_; clear hb hbox hg; have hcz6_0 : w5.cell? ⟨gb120, 0, none⟩ = some (.slice A0_0 l0_0.length c0_0) := (blk_cell BK120.out 0).trans rfl; have hcz6_1 : w5.cell? ⟨gb120, 1, none⟩ = some (.int .i64 a0_1) := (blk_cell BK120.out 1).trans rfl; have hfz6_0 := blk_frozen BK120.out 0; have hfz6_1 := blk_frozen BK120.out 1) | ((with_reducible refine gate_callee (f := 68) rfl ?_); refine goesL_ (some 8) rfl rfl Tryz.func68 (by kernel_rfl) rfl #[.agg #[.slice A0_0 l0_0.length c0_0, .int .i64 a0_1], .int .i64 a1] rfl (by (try simp only [List.map_toArray, List.map_cons, List.map_nil]); first | done | rfl | (simp only [List.length_drop, List.length_take]; rfl)) ?_; (with_reducible refine (linhayref07_At.calls k _ _ l0_0 a0_1 a1 t121 t122 t123 t124 t125 _ ?side1 ?side2 A3.out).mono ?_); (case side1 => repeat (first | exact (Kd.C_below HR0_0.out HB.out) | (with_reducible refine Kd.C_alloc ?_ _) | (with_reducible refine Kd.C_drewN ?_ _) | (with_reducible refine Kd.C_drew ?_))); (case side2 => exact HC0_0.out); rintro e w7 ⟨rfl, hb⟩; refine ⟨_, rfl, ?_⟩; have n0_ := qa (blk_below (g := gb120) (o := .cells #[.slice A0_0 l0_0.length c0_0, .int .i64 a0_1] 30 (0, 0)) (by (with_reducible repeat (first | refine blk_drewN ?_ _ | refine blk_drew ?_ | refine blk_alloc ?_ _)); exact BK120.out) hb); have n1_ := qa (below_step (by repeat (first | (with_reducible first | exact HB.out | apply below_alloc | apply pw_below_drewN | apply below_drew1 | refine below_set ?_ GE120.out) | exact HB.out)) hb); clear BK120; clear HB; have BK120 := n0_; have HB := n1_; clear n0_ n1_; (try clear hb); (try clear hb2); (try clear hk); (try clear hi)))
  go_ret
  exact ⟨by first | rfl | (simp [errW_none, errW_some] <;> rfl) | (simp [*, errW_none, errW_some] <;> rfl) | (simp [errW_none, errW_some, bne_nil]; done) | (simp [*, bne_nil]; done) | (simp [bne]; done), by repeat (first | (with_reducible first | exact HB.out | apply below_alloc | apply pw_below_drewN | apply below_drew1 | refine below_set ?_ GE120.out) | exact HB.out)⟩
 ·
  rw [if_neg c4] at H
  have c4b0 : (t124 == 0) = false := beq_eq_false_iff_ne.mpr c4
  have c4b1 : (t124 != 0) = true := bne_iff_ne.mpr c4
  by_cases c8 : t124 = 1
  ·
   rw [if_pos c8] at H
   have c8b0 : (t124 == 1) = true := beq_iff_eq.mpr c8
   have c8b1 : (t124 != 1) = false := bne_eq_false_iff_eq.mpr c8
   clear c8
   obtain rfl := Option.some.inj H
   go_enter Tryz.func103, Tryz.ntmps103
   go_wp2_with (first | ((with_reducible refine gate_dst (N := 2) rfl ?_); refine box_event ?hg (N := 2) ?hd (cs := #[.slice A0_0 l0_0.length c0_0, .int .i64 a0_1]) (t := 30) ?hr ?_; (case hd => rfl); (case hg => rfl); (case hr => first | (go_simp; done) | (go_simp; rfl)); intro gb120 hg w9 hbox hb; have n0_ := qa (below_step (by repeat (first | (with_reducible first | exact HB.out | apply below_alloc | apply pw_below_drewN | apply below_drew1) | exact HB.out)) hb); have n1_ := qa (hbox); have n2_ := qa ((by rw [hg]; exact (below_size (by repeat (first | (with_reducible first | exact HB.out | apply below_alloc | apply pw_below_drewN | apply below_drew1) | exact HB.out))) : w.heap.size ≤ gb120)); have n3_ := qa ((by rw [hg]; exact (below_size (by repeat (first | (with_reducible first | exact HB.out | apply below_alloc | apply pw_below_drewN | apply below_drew1) | exact HB.out))) : w.heap.size ≤ gb120)); clear HB; have HB := n0_; have BK120 := n1_; have GW120 := n2_; have GE120 := n3_; clear n0_ n1_ n2_ n3_; clear hb hbox hg; have hcz10_0 : w9.cell? ⟨gb120, 0, none⟩ = some (.slice A0_0 l0_0.length c0_0) := (blk_cell BK120.out 0).trans rfl; have hcz10_1 : w9.cell? ⟨gb120, 1, none⟩ = some (.int .i64 a0_1) := (blk_cell BK120.out 1).trans rfl; have hfz10_0 := blk_frozen BK120.out 0; have hfz10_1 := blk_frozen BK120.out 1) | ((with_reducible refine gate_callee (f := 68) rfl ?_); refine goesL_ (some 8) rfl rfl Tryz.func68 (by kernel_rfl) rfl #[.agg #[.slice A0_0 l0_0.length c0_0, .int .i64 a0_1], .int .i64 a1] rfl (by (try simp only [List.map_toArray, List.map_cons, List.map_nil]); first | done | rfl | (simp only [List.length_drop, List.length_take]; rfl)) ?_; (with_reducible refine (linhayref07_At.calls k _ _ l0_0 a0_1 a1 t121 t122 t123 t124 t125 _ ?side1 ?side2 A3.out).mono ?_); (case side1 => repeat (first | exact (Kd.C_below HR0_0.out HB.out) | (with_reducible refine Kd.C_alloc ?_ _) | (with_reducible refine Kd.C_drewN ?_ _) | (with_reducible refine Kd.C_drew ?_))); (case side2 => exact HC0_0.out); rintro e w11 ⟨rfl, hb⟩; refine ⟨_, rfl, ?_⟩; have n0_ := qa (blk_below (g := gb120) (o := .cells #[.slice A0_0 l0_0.length c0_0, .int .i64 a0_1] 30 (0, 0)) (by (with_reducible repeat (first | refine blk_drewN ?_ _ | refine blk_drew ?_ | refine blk_alloc ?_ _)); exact BK120.out) hb); have n1_ := qa (below_step (by repeat (first | (with_reducible first | exact HB.out | apply below_alloc | apply pw_below_drewN | apply below_drew1 | refine below_set ?_ GE120.out) | exact HB.out)) hb); clear BK120; clear HB; have BK120 := n0_; have HB := n1_; clear n0_ n1_; (try clear hb); (try clear hb2); (try clear hk); (try clear hi)))
   go_ret
   exact ⟨by first | rfl | (simp [errW_none, errW_some] <;> rfl) | (simp [*, errW_none, errW_some] <;> rfl) | (simp [errW_none, errW_some, bne_nil]; done) | (simp [*, bne_nil]; done) | (simp [bne]; done), by repeat (first | (with_reducible first | exact HB.out | apply below_alloc | apply pw_below_drewN | apply below_drew1 | refine below_set ?_ GE120.out) | exact HB.out)⟩
  ·
   rw [if_neg c8] at H
   have c8b0 : (t124 == 1) = false := beq_eq_false_iff_ne.mpr c8
   have c8b1 : (t124 != 1) = true := bne_iff_ne.mpr c8
   obtain rfl := Option.some.inj H
   go_enter Tryz.func103, Tryz.ntmps103
   go_wp2_with (first | ((with_reducible refine gate_dst (N := 2) rfl ?_); refine box_event ?hg (N := 2) ?hd (cs := #[.slice A0_0 l0_0.length c0_0, .int .i64 a0_1]) (t := 30) ?hr ?_; (case hd => rfl); (case hg => rfl); (case hr => first | (go_simp; done) | (go_simp; rfl)); intro gb120 hg w12 hbox hb; have n0_ := qa (below_step (by repeat (first | (with_reducible first | exact HB.out | apply below_alloc | apply pw_below_drewN | apply below_drew1) | exact HB.out)) hb); have n1_ := qa (hbox); have n2_ := qa ((by rw [hg]; exact (below_size (by repeat (first | (with_reducible first | exact HB.out | apply below_alloc | apply pw_below_drewN | apply below_drew1) | exact HB.out))) : w.heap.size ≤ gb120)); have n3_ := qa ((by rw [hg]; exact (below_size (by repeat (first | (with_reducible first | exact HB.out | apply below_alloc | apply pw_below_drewN | apply below_drew1) | exact HB.out))) : w.heap.size ≤ gb120)); clear HB; have HB := n0_; have BK120 := n1_; have GW120 := n2_; have GE120 := n3_; clear n0_ n1_ n2_ n3_; clear hb hbox hg; have hcz13_0 : w12.cell? ⟨gb120, 0, none⟩ = some (.slice A0_0 l0_0.length c0_0) := (blk_cell BK120.out 0).trans rfl; have hcz13_1 : w12.cell? ⟨gb120, 1, none⟩ = some (.int .i64 a0_1) := (blk_cell BK120.out 1).trans rfl; have hfz13_0 := blk_frozen BK120.out 0; have hfz13_1 := blk_frozen BK120.out 1) | ((with_reducible refine gate_callee (f := 68) rfl ?_); refine goesL_ (some 8) rfl rfl Tryz.func68 (by kernel_rfl) rfl #[.agg #[.slice A0_0 l0_0.length c0_0, .int .i64 a0_1], .int .i64 a1] rfl (by (try simp only [List.map_toArray, List.map_cons, List.map_nil]); first | done | rfl | (simp only [List.length_drop, List.length_take]; rfl)) ?_; (with_reducible refine (linhayref07_At.calls k _ _ l0_0 a0_1 a1 t121 t122 t123 t124 t125 _ ?side1 ?side2 A3.out).mono ?_); (case side1 => repeat (first | exact (Kd.C_below HR0_0.out HB.out) | (with_reducible refine Kd.C_alloc ?_ _) | (with_reducible refine Kd.C_drewN ?_ _) | (with_reducible refine Kd.C_drew ?_))); (case side2 => exact HC0_0.out); rintro e w14 ⟨rfl, hb⟩; refine ⟨_, rfl, ?_⟩; have n0_ := qa (blk_below (g := gb120) (o := .cells #[.slice A0_0 l0_0.length c0_0, .int .i64 a0_1] 30 (0, 0)) (by (with_reducible repeat (first | refine blk_drewN ?_ _ | refine blk_drew ?_ | refine blk_alloc ?_ _)); exact BK120.out) hb); have n1_ := qa (below_step (by repeat (first | (with_reducible first | exact HB.out | apply below_alloc | apply pw_below_drewN | apply below_drew1 | refine below_set ?_ GE120.out) | exact HB.out)) hb); clear BK120; clear HB; have BK120 := n0_; have HB := n1_; clear n0_ n1_; (try clear hb); (try clear hb2); (try clear hk); (try clear hi)))
   go_ret
   exact ⟨by first | rfl | (simp [errW_none, errW_some] <;> rfl) | (simp [*, errW_none, errW_some] <;> rfl) | (simp [errW_none, errW_some, bne_nil]; done) | (simp [*, bne_nil]; done) | (simp [bne]; done), by repeat (first | (with_reducible first | exact HB.out | apply below_alloc | apply pw_below_drewN | apply below_drew1 | refine below_set ?_ GE120.out) | exact HB.out)⟩
def linhayref07_In.l0 : Nat → Int → ByteArray → Int → List (S106) → Int → Option (Int)
 | 0, _, _, _, _, _ => none
 | k + 1, x1, x2, x7, x127000, x127001 => if x7 < (x127000.length : Int) then (if 0 ≤ x7 then (if ((rd_T106 x127000 x7).f1) = x1 then (if ((rd_T106 x127000 x7).f2).toList = x2.toList then (if ((rd_T106 x127000 x7).f0) = 1 then (linhayref07_In.l0 k x1 x2 (wrap64 (x7 + 1)) x127000 x127001) else (some ((rd_T106 x127000 x7).f0))) else (linhayref07_In.l0 k x1 x2 (wrap64 (x7 + 1)) x127000 x127001)) else (linhayref07_In.l0 k x1 x2 (wrap64 (x7 + 1)) x127000 x127001)) else (none)) else (some 0)
def linhayref07_In.f (k : Nat) (l0_0 : List (S106)) (a0_1 : Int) (a1 : Int) (a2 : ByteArray) : Option (Int) := linhayref07_In.l0 k a1 a2 0 l0_0 a0_1
theorem linhayref07_In.calls (k : Nat) (A0_0 : Option Addr) (c0_0 : Nat) (l0_0 : List (S106)) (a0_1 : Int) (a1 : Int) (a2 : ByteArray) (r : Int) (w : World) (hr0_0 : Kd.C k106 w A0_0 l0_0.length l0_0) (hc0_0 : l0_0.length ≤ c0_0) (h : linhayref07_In.f k l0_0 a0_1 a1 a2 = some r) :
  Calls Tryz.prog 105 #[.agg #[.slice A0_0 l0_0.length c0_0, .int .i64 a0_1], .int .i64 a1, .string a2] w fun e w' => e = .returned (.int .i64 r) ∧ Below w.heap.size w w' := by
 have hu36 := Tryz.underlying36
 have hu49 := Tryz.underlying49
 have hu66 := Tryz.underlying66
 have hu93 := Tryz.underlying93
 have hu106 := Tryz.underlying106
 have hu115 := Tryz.underlying115
 have hu130 := Tryz.underlying130
 have hu162 := Tryz.underlying162
 have hu30 := Tryz.underlying30
 have HR0_0 := qa hr0_0
 have HC0_0 := qa hc0_0
 clear hr0_0 hc0_0
 have HB := qa (Below.refl w.heap.size w)
 have H : (linhayref07_In.l0 k a1 a2 0 l0_0 a0_1) = some r := h
 clear h
 have H' := qa H
 clear H
 go_enter Tryz.func105, Tryz.ntmps105
 go_wp2_with (first | ((with_reducible refine gate_dst (N := 3) rfl ?_); refine box_event ?hg (N := 3) ?hd (cs := #[.slice A0_0 l0_0.length c0_0, .int .i64 a0_1]) (t := 30) ?hr ?_; (case hd => rfl); (case hg => rfl); (case hr => first | (go_simp; done) | (go_simp; rfl)); intro gb126 hg w4 hbox hb; have n0_ := qa (below_step (by repeat (first | (with_reducible first | exact HB.out | apply below_alloc | apply pw_below_drewN | apply below_drew1) | exact HB.out)) hb); have n1_ := qa (hbox); have n2_ := qa ((by rw [hg]; exact (below_size (by repeat (first | (with_reducible first | exact HB.out | apply below_alloc | apply pw_below_drewN | apply below_drew1) | exact HB.out))) : w.heap.size ≤ gb126)); have n3_ := qa ((by rw [hg]; exact (below_size (by repeat (first | (with_reducible first | exact HB.out | apply below_alloc | apply pw_below_drewN | apply below_drew1) | exact HB.out))) : w.heap.size ≤ gb126)); clear HB; have HB := n0_; have BK126 := n1_; have GW126 := n2_; have GE126 := n3_; clear n0_ n1_ n2_ n3_; clear hb hbox hg))
 go_loopg [7] k (fun kq v7 w' => ∃ (x7_1 : Int), v7 = .int .i64 x7_1 ∧ Aside0 (linhayref07_In.l0 kq a1 a2 x7_1 l0_0 a0_1 = some r) ∧ Aside0 (kq ≤ k) ∧ Aside0 (w'.heap[gb126]? = some (.cells #[(.slice A0_0 l0_0.length c0_0), .int .i64 a0_1] 30 (0, 0))) ∧ Aside0 (Below w.heap.size w w'))
 case atStart => exact ⟨(0), (by first | rfl | (simp; done) | (simp [*]; done) | (simp [bne_nil]; done)), H', ⟨Nat.le_refl _⟩, ⟨by (with_reducible repeat (first | refine blk_drewN ?_ _ | refine blk_drew ?_ | refine blk_alloc ?_ _)); exact BK126.out⟩, ⟨by repeat (first | (with_reducible first | exact HB.out | apply below_alloc | apply pw_below_drewN | apply below_drew1 | refine below_set ?_ GE126.out) | exact HB.out)⟩⟩
 case round =>
  clear H'
  try clear c1
  try clear p2
  obtain ⟨x7_1, rfl, HA, HK1, BK126, HB⟩ := hrel
  cases gk with
  | zero => exact absurd HA.out (by simp [linhayref07_In.l0])
  | succ k1 =>
   have H := HA.out
   clear HA
   simp only [linhayref07_In.l0] at H
   by_cases c5 : x7_1 < (l0_0.length : Int)
   ·
    rw [if_pos c5] at H
    have c5b0 : decide (x7_1 < (l0_0.length : Int)) = true := decide_eq_true c5
    clear c5
    by_cases c6 : 0 ≤ x7_1
    ·
     rw [if_pos c6] at H
     have c6b0 : decide (0 ≤ x7_1) = true := decide_eq_true c6
     clear c6
     by_cases c7 : ((rd_T106 l0_0 x7_1).f1) = a1
     ·
      rw [if_pos c7] at H
      have c7b0 : (((rd_T106 l0_0 x7_1).f1) == a1) = true := beq_iff_eq.mpr c7
      have c7b1 : (((rd_T106 l0_0 x7_1).f1) != a1) = false := bne_eq_false_iff_eq.mpr c7
      clear c7
      by_cases c8 : ((rd_T106 l0_0 x7_1).f2).toList = a2.toList
      ·
       rw [if_pos c8] at H
       have c8b0 : (((rd_T106 l0_0 x7_1).f2).toList == a2.toList) = true := beq_iff_eq.mpr c8
       have c8b1 : (((rd_T106 l0_0 x7_1).f2).toList != a2.toList) = false := bne_eq_false_iff_eq.mpr c8
       clear c8
       by_cases c9 : ((rd_T106 l0_0 x7_1).f0) = 1
       ·
        rw [if_pos c9] at H
        have c9b0 : (((rd_T106 l0_0 x7_1).f0) == 1) = true := beq_iff_eq.mpr c9
        have c9b1 : (((rd_T106 l0_0 x7_1).f0) != 1) = false := bne_eq_false_iff_eq.mpr c9
        clear c9
        have H' := qa H
        clear H
        have hcz10_0 : wr.cell? ⟨gb126, 0, none⟩ = some (.slice A0_0 l0_0.length c0_0) := (blk_cell BK126.out 0).trans rfl
        have hcz10_1 : wr.cell? ⟨gb126, 1, none⟩ = some (.int .i64 a0_1) := (blk_cell BK126.out 1).trans rfl
        have hfz10_0 := blk_frozen BK126.out 0
        have hfz10_1 := blk_frozen BK126.out 1
        have p127 : 0 ≤ (x7_1 : Int) := of_decide_eq_true (by first | (with_reducible assumption) | assumption)
        have q127 : x7_1 < (l0_0.length : Int) := of_decide_eq_true (by first | (with_reducible assumption) | assumption)
        obtain ⟨ad127, e127, hx127_0, hx127_1, hx127_2, hx127_3, hx127_4⟩ := at_T106 HR0_0.out x7_1 p127 q127
        cases e127
        replace hx127_0 := (HB.out.cell (World.block_lt_of_cell? w _ hx127_0)).trans hx127_0
        replace hx127_1 := (HB.out.cell (World.block_lt_of_cell? w _ hx127_1)).trans hx127_1
        replace hx127_2 := (HB.out.cell (World.block_lt_of_cell? w _ hx127_2)).trans hx127_2
        replace hx127_3 := (HB.out.cell (World.block_lt_of_cell? w _ hx127_3)).trans hx127_3
        replace hx127_4 := (HB.out.cell (World.block_lt_of_cell? w _ hx127_4)).trans hx127_4
        replace p127 := eq_true p127
        replace q127 := eq_true q127
        have p128 : 0 ≤ (x7_1 : Int) := of_decide_eq_true (by first | (with_reducible assumption) | assumption)
        have q128 : x7_1 < (l0_0.length : Int) := of_decide_eq_true (by first | (with_reducible assumption) | assumption)
        obtain ⟨ad128, e128, hx128_0, hx128_1, hx128_2, hx128_3, hx128_4⟩ := at_T106 HR0_0.out x7_1 p128 q128
        obtain rfl : ad127 = ad128 := (by injection e128)
        replace hx128_0 := (HB.out.cell (World.block_lt_of_cell? w _ hx128_0)).trans hx128_0
        replace hx128_1 := (HB.out.cell (World.block_lt_of_cell? w _ hx128_1)).trans hx128_1
        replace hx128_2 := (HB.out.cell (World.block_lt_of_cell? w _ hx128_2)).trans hx128_2
        replace hx128_3 := (HB.out.cell (World.block_lt_of_cell? w _ hx128_3)).trans hx128_3
        replace hx128_4 := (HB.out.cell (World.block_lt_of_cell? w _ hx128_4)).trans hx128_4
        replace p128 := eq_true p128
        replace q128 := eq_true q128
        have p129 : 0 ≤ (x7_1 : Int) := of_decide_eq_true (by first | (with_reducible assumption) | assumption)
        have q129 : x7_1 < (l0_0.length : Int) := of_decide_eq_true (by first | (with_reducible assumption) | assumption)
        obtain ⟨ad129, e129, hx129_0, hx129_1, hx129_2, hx129_3, hx129_4⟩ := at_T106 HR0_0.out x7_1 p129 q129
        obtain rfl : ad127 = ad129 := (by injection e129)
        replace hx129_0 := (HB.out.cell (World.block_lt_of_cell? w _ hx129_0)).trans hx129_0
        replace hx129_1 := (HB.out.cell (World.block_lt_of_cell? w _ hx129_1)).trans hx129_1
        replace hx129_2 := (HB.out.cell (World.block_lt_of_cell? w _ hx129_2)).trans hx129_2
        replace hx129_3 := (HB.out.cell (World.block_lt_of_cell? w _ hx129_3)).trans hx129_3
        replace hx129_4 := (HB.out.cell (World.block_lt_of_cell? w _ hx129_4)).trans hx129_4
        replace p129 := eq_true p129
        replace q129 := eq_true q129
        go_wp2
        go_roundg k1
        case measure => have := HK1.out; omega
        case rel => exact ⟨(wrap64 (x7_1 + 1)), (by first | rfl | (simp; done) | (simp [*]; done) | (simp [bne_nil]; done)), H', ⟨by have := HK1.out; omega⟩, ⟨by (with_reducible repeat (first | refine blk_drewN ?_ _ | refine blk_drew ?_ | refine blk_alloc ?_ _)); exact BK126.out⟩, ⟨by repeat (first | (with_reducible first | exact HB.out | apply below_alloc | apply pw_below_drewN | apply below_drew1 | refine below_set ?_ GE126.out) | exact HB.out)⟩⟩
       ·
        rw [if_neg c9] at H
        have c9b0 : (((rd_T106 l0_0 x7_1).f0) == 1) = false := beq_eq_false_iff_ne.mpr c9
        have c9b1 : (((rd_T106 l0_0 x7_1).f0) != 1) = true := bne_iff_ne.mpr c9
        obtain rfl := Option.some.inj H
        have hcz11_0 : wr.cell? ⟨gb126, 0, none⟩ = some (.slice A0_0 l0_0.length c0_0) := (blk_cell BK126.out 0).trans rfl
        have hcz11_1 : wr.cell? ⟨gb126, 1, none⟩ = some (.int .i64 a0_1) := (blk_cell BK126.out 1).trans rfl
        have hfz11_0 := blk_frozen BK126.out 0
        have hfz11_1 := blk_frozen BK126.out 1
        have p127 : 0 ≤ (x7_1 : Int) := of_decide_eq_true (by first | (with_reducible assumption) | assumption)
        have q127 : x7_1 < (l0_0.length : Int) := of_decide_eq_true (by first | (with_reducible assumption) | assumption)
        obtain ⟨ad127, e127, hx127_0, hx127_1, hx127_2, hx127_3, hx127_4⟩ := at_T106 HR0_0.out x7_1 p127 q127
        cases e127
        replace hx127_0 := (HB.out.cell (World.block_lt_of_cell? w _ hx127_0)).trans hx127_0
        replace hx127_1 := (HB.out.cell (World.block_lt_of_cell? w _ hx127_1)).trans hx127_1
        replace hx127_2 := (HB.out.cell (World.block_lt_of_cell? w _ hx127_2)).trans hx127_2
        replace hx127_3 := (HB.out.cell (World.block_lt_of_cell? w _ hx127_3)).trans hx127_3
        replace hx127_4 := (HB.out.cell (World.block_lt_of_cell? w _ hx127_4)).trans hx127_4
        replace p127 := eq_true p127
        replace q127 := eq_true q127
        have p128 : 0 ≤ (x7_1 : Int) := of_decide_eq_true (by first | (with_reducible assumption) | assumption)
        have q128 : x7_1 < (l0_0.length : Int) := of_decide_eq_true (by first | (with_reducible assumption) | assumption)
        obtain ⟨ad128, e128, hx128_0, hx128_1, hx128_2, hx128_3, hx128_4⟩ := at_T106 HR0_0.out x7_1 p128 q128
        obtain rfl : ad127 = ad128 := (by injection e128)
        replace hx128_0 := (HB.out.cell (World.block_lt_of_cell? w _ hx128_0)).trans hx128_0
        replace hx128_1 := (HB.out.cell (World.block_lt_of_cell? w _ hx128_1)).trans hx128_1
        replace hx128_2 := (HB.out.cell (World.block_lt_of_cell? w _ hx128_2)).trans hx128_2
        replace hx128_3 := (HB.out.cell (World.block_lt_of_cell? w _ hx128_3)).trans hx128_3
        replace hx128_4 := (HB.out.cell (World.block_lt_of_cell? w _ hx128_4)).trans hx128_4
        replace p128 := eq_true p128
        replace q128 := eq_true q128
        have p129 : 0 ≤ (x7_1 : Int) := of_decide_eq_true (by first | (with_reducible assumption) | assumption)
        have q129 : x7_1 < (l0_0.length : Int) := of_decide_eq_true (by first | (with_reducible assumption) | assumption)
        obtain ⟨ad129, e129, hx129_0, hx129_1, hx129_2, hx129_3, hx129_4⟩ := at_T106 HR0_0.out x7_1 p129 q129
        obtain rfl : ad127 = ad129 := (by injection e129)
        replace hx129_0 := (HB.out.cell (World.block_lt_of_cell? w _ hx129_0)).trans hx129_0
        replace hx129_1 := (HB.out.cell (World.block_lt_of_cell? w _ hx129_1)).trans hx129_1
        replace hx129_2 := (HB.out.cell (World.block_lt_of_cell? w _ hx129_2)).trans hx129_2
        replace hx129_3 := (HB.out.cell (World.block_lt_of_cell? w _ hx129_3)).trans hx129_3
        replace hx129_4 := (HB.out.cell (World.block_lt_of_cell? w _ hx129_4)).trans hx129_4
        replace p129 := eq_true p129
        replace q129 := eq_true q129
        have p130 : 0 ≤ (x7_1 : Int) := of_decide_eq_true (by first | (with_reducible assumption) | assumption)
        have q130 : x7_1 < (l0_0.length : Int) := of_decide_eq_true (by first | (with_reducible assumption) | assumption)
        obtain ⟨ad130, e130, hx130_0, hx130_1, hx130_2, hx130_3, hx130_4⟩ := at_T106 HR0_0.out x7_1 p130 q130
        obtain rfl : ad127 = ad130 := (by injection e130)
        replace hx130_0 := (HB.out.cell (World.block_lt_of_cell? w _ hx130_0)).trans hx130_0
        replace hx130_1 := (HB.out.cell (World.block_lt_of_cell? w _ hx130_1)).trans hx130_1
        replace hx130_2 := (HB.out.cell (World.block_lt_of_cell? w _ hx130_2)).trans hx130_2
        replace hx130_3 := (HB.out.cell (World.block_lt_of_cell? w _ hx130_3)).trans hx130_3
        replace hx130_4 := (HB.out.cell (World.block_lt_of_cell? w _ hx130_4)).trans hx130_4
        replace p130 := eq_true p130
        replace q130 := eq_true q130
        go_wp2
        go_ret
        exact ⟨by first | rfl | (simp [errW_none, errW_some] <;> rfl) | (simp [*, errW_none, errW_some] <;> rfl) | (simp [errW_none, errW_some, bne_nil]; done) | (simp [*, bne_nil]; done) | (simp [bne]; done), by repeat (first | (with_reducible first | exact HB.out | apply below_alloc | apply pw_below_drewN | apply below_drew1 | refine below_set ?_ GE126.out) | exact HB.out)⟩
      ·
       rw [if_neg c8] at H
       have c8b0 : (((rd_T106 l0_0 x7_1).f2).toList == a2.toList) = false := beq_eq_false_iff_ne.mpr c8
       have c8b1 : (((rd_T106 l0_0 x7_1).f2).toList != a2.toList) = true := bne_iff_ne.mpr c8
       have H' := qa H
       clear H
       have hcz12_0 : wr.cell? ⟨gb126, 0, none⟩ = some (.slice A0_0 l0_0.length c0_0) := (blk_cell BK126.out 0).trans rfl
       have hcz12_1 : wr.cell? ⟨gb126, 1, none⟩ = some (.int .i64 a0_1) := (blk_cell BK126.out 1).trans rfl
       have hfz12_0 := blk_frozen BK126.out 0
       have hfz12_1 := blk_frozen BK126.out 1
       have p127 : 0 ≤ (x7_1 : Int) := of_decide_eq_true (by first | (with_reducible assumption) | assumption)
       have q127 : x7_1 < (l0_0.length : Int) := of_decide_eq_true (by first | (with_reducible assumption) | assumption)
       obtain ⟨ad127, e127, hx127_0, hx127_1, hx127_2, hx127_3, hx127_4⟩ := at_T106 HR0_0.out x7_1 p127 q127
       cases e127
       replace hx127_0 := (HB.out.cell (World.block_lt_of_cell? w _ hx127_0)).trans hx127_0
       replace hx127_1 := (HB.out.cell (World.block_lt_of_cell? w _ hx127_1)).trans hx127_1
       replace hx127_2 := (HB.out.cell (World.block_lt_of_cell? w _ hx127_2)).trans hx127_2
       replace hx127_3 := (HB.out.cell (World.block_lt_of_cell? w _ hx127_3)).trans hx127_3
       replace hx127_4 := (HB.out.cell (World.block_lt_of_cell? w _ hx127_4)).trans hx127_4
       replace p127 := eq_true p127
       replace q127 := eq_true q127
       have p128 : 0 ≤ (x7_1 : Int) := of_decide_eq_true (by first | (with_reducible assumption) | assumption)
       have q128 : x7_1 < (l0_0.length : Int) := of_decide_eq_true (by first | (with_reducible assumption) | assumption)
       obtain ⟨ad128, e128, hx128_0, hx128_1, hx128_2, hx128_3, hx128_4⟩ := at_T106 HR0_0.out x7_1 p128 q128
       obtain rfl : ad127 = ad128 := (by injection e128)
       replace hx128_0 := (HB.out.cell (World.block_lt_of_cell? w _ hx128_0)).trans hx128_0
       replace hx128_1 := (HB.out.cell (World.block_lt_of_cell? w _ hx128_1)).trans hx128_1
       replace hx128_2 := (HB.out.cell (World.block_lt_of_cell? w _ hx128_2)).trans hx128_2
       replace hx128_3 := (HB.out.cell (World.block_lt_of_cell? w _ hx128_3)).trans hx128_3
       replace hx128_4 := (HB.out.cell (World.block_lt_of_cell? w _ hx128_4)).trans hx128_4
       replace p128 := eq_true p128
       replace q128 := eq_true q128
       go_wp2
       go_roundg k1
       case measure => have := HK1.out; omega
       case rel => exact ⟨(wrap64 (x7_1 + 1)), (by first | rfl | (simp; done) | (simp [*]; done) | (simp [bne_nil]; done)), H', ⟨by have := HK1.out; omega⟩, ⟨by (with_reducible repeat (first | refine blk_drewN ?_ _ | refine blk_drew ?_ | refine blk_alloc ?_ _)); exact BK126.out⟩, ⟨by repeat (first | (with_reducible first | exact HB.out | apply below_alloc | apply pw_below_drewN | apply below_drew1 | refine below_set ?_ GE126.out) | exact HB.out)⟩⟩
     ·
      rw [if_neg c7] at H
      have c7b0 : (((rd_T106 l0_0 x7_1).f1) == a1) = false := beq_eq_false_iff_ne.mpr c7
      have c7b1 : (((rd_T106 l0_0 x7_1).f1) != a1) = true := bne_iff_ne.mpr c7
      have H' := qa H
      clear H
      have hcz13_0 : wr.cell? ⟨gb126, 0, none⟩ = some (.slice A0_0 l0_0.length c0_0) := (blk_cell BK126.out 0).trans rfl
      have hcz13_1 : wr.cell? ⟨gb126, 1, none⟩ = some (.int .i64 a0_1) := (blk_cell BK126.out 1).trans rfl
      have hfz13_0 := blk_frozen BK126.out 0
      have hfz13_1 := blk_frozen BK126.out 1
      have p127 : 0 ≤ (x7_1 : Int) := of_decide_eq_true (by first | (with_reducible assumption) | assumption)
      have q127 : x7_1 < (l0_0.length : Int) := of_decide_eq_true (by first | (with_reducible assumption) | assumption)
      obtain ⟨ad127, e127, hx127_0, hx127_1, hx127_2, hx127_3, hx127_4⟩ := at_T106 HR0_0.out x7_1 p127 q127
      cases e127
      replace hx127_0 := (HB.out.cell (World.block_lt_of_cell? w _ hx127_0)).trans hx127_0
      replace hx127_1 := (HB.out.cell (World.block_lt_of_cell? w _ hx127_1)).trans hx127_1
      replace hx127_2 := (HB.out.cell (World.block_lt_of_cell? w _ hx127_2)).trans hx127_2
      replace hx127_3 := (HB.out.cell (World.block_lt_of_cell? w _ hx127_3)).trans hx127_3
      replace hx127_4 := (HB.out.cell (World.block_lt_of_cell? w _ hx127_4)).trans hx127_4
      replace p127 := eq_true p127
      replace q127 := eq_true q127
      go_wp2
      go_roundg k1
      case measure => have := HK1.out; omega
      case rel => exact ⟨(wrap64 (x7_1 + 1)), (by first | rfl | (simp; done) | (simp [*]; done) | (simp [bne_nil]; done)), H', ⟨by have := HK1.out; omega⟩, ⟨by (with_reducible repeat (first | refine blk_drewN ?_ _ | refine blk_drew ?_ | refine blk_alloc ?_ _)); exact BK126.out⟩, ⟨by repeat (first | (with_reducible first | exact HB.out | apply below_alloc | apply pw_below_drewN | apply below_drew1 | refine below_set ?_ GE126.out) | exact HB.out)⟩⟩
    ·
     rw [if_neg c6] at H
     exact absurd H (by simp)
   ·
    rw [if_neg c5] at H
    have c5b0 : decide (x7_1 < (l0_0.length : Int)) = false := decide_eq_false c5
    clear c5
    obtain rfl := Option.some.inj H
    have hcz14_0 : wr.cell? ⟨gb126, 0, none⟩ = some (.slice A0_0 l0_0.length c0_0) := (blk_cell BK126.out 0).trans rfl
    have hcz14_1 : wr.cell? ⟨gb126, 1, none⟩ = some (.int .i64 a0_1) := (blk_cell BK126.out 1).trans rfl
    have hfz14_0 := blk_frozen BK126.out 0
    have hfz14_1 := blk_frozen BK126.out 1
    go_wp2
    go_ret
    exact ⟨by first | rfl | (simp [errW_none, errW_some] <;> rfl) | (simp [*, errW_none, errW_some] <;> rfl) | (simp [errW_none, errW_some, bne_nil]; done) | (simp [*, bne_nil]; done) | (simp [bne]; done), by repeat (first | (with_reducible first | exact HB.out | apply below_alloc | apply pw_below_drewN | apply below_drew1 | refine below_set ?_ GE126.out) | exact HB.out)⟩
mutual
def linhayref07_may.j0 : Nat → Int → ByteArray → Bool → Option (Int)
 | 0, _, _, _ => none
 | k + 1, x0, x1, x10 => if x10 = true then (some 2) else (if x0 = 1 then (if x1.toList = ([] : List UInt8) then (if x0 = 3 then (linhayref07_may.j1 k x1 (x1.toList == ([] : List UInt8))) else (linhayref07_may.j1 k x1 false)) else (linhayref07_may.j1 k x1 true)) else (if x0 = 3 then (linhayref07_may.j1 k x1 (x1.toList == ([] : List UInt8))) else (linhayref07_may.j1 k x1 false)))
def linhayref07_may.j1 : Nat → ByteArray → Bool → Option (Int)
 | 0, _, _ => none
 | k + 1, x1, x24 => if x24 = true then (some 3) else (if (x1.size : Int) > 65536 then (some 4) else (some 0))
end
def linhayref07_may.f (k : Nat) (a0 : Int) (a1 : ByteArray) : Option (Int) := if a0 < 1 then (linhayref07_may.j0 k a0 a1 true) else (linhayref07_may.j0 k a0 a1 (decide (a0 > 3)))
theorem linhayref07_may.calls (k : Nat) (a0 : Int) (a1 : ByteArray) (r : Int) (w : World) (h : linhayref07_may.f k a0 a1 = some r) :
  Calls Tryz.prog 106 #[.int .i64 a0, .string a1] w fun e w' => e = .returned (.int .i64 r) ∧ Drawn0 w w' := by
 have hu36 := Tryz.underlying36
 have hu49 := Tryz.underlying49
 have hu66 := Tryz.underlying66
 have hu93 := Tryz.underlying93
 have hu106 := Tryz.underlying106
 have hu115 := Tryz.underlying115
 have hu130 := Tryz.underlying130
 have hu162 := Tryz.underlying162
 have H : (if a0 < 1 then (linhayref07_may.j0 k a0 a1 true) else (linhayref07_may.j0 k a0 a1 (decide (a0 > 3)))) = some r := h
 clear h
 have HC3 := qa H
 clear H
 go_enter Tryz.func106, Tryz.ntmps106
 go_upto_region 1 with (fail)
 go_cut [10] (fun v10 wc => ∃ (kq : Nat) (x10_2 : Bool), v10 = .bool x10_2 ∧ Aside0 (linhayref07_may.j0 kq a0 a1 x10_2 = some r) ∧ Aside0 (kq ≤ k) ∧ Drawn0 w wc)
 case first =>
  have H := HC3.out
  clear HC3
  by_cases c4 : a0 < 1
  ·
   rw [if_pos c4] at H
   have c4b0 : decide (a0 < 1) = true := decide_eq_true c4
   clear c4
   (first | rw [c4b0] | (simp only [i64_w, i32_w]; rw [c4b0]) | skip)
   have H' := qa H
   clear H
   go_wp2
   go_meet
   case rel => exact ⟨_, (true), (by first | rfl | (simp; done) | (simp [*]; done) | (simp [bne_nil]; done)), H', ⟨by first | omega | exact Nat.le_refl _⟩, by repeat (first | exact Drawn0.refl _ | apply Drawn0.step)⟩
  ·
   rw [if_neg c4] at H
   have c4b0 : decide (a0 < 1) = false := decide_eq_false c4
   clear c4
   (first | rw [c4b0] | (simp only [i64_w, i32_w]; rw [c4b0]) | skip)
   have H' := qa H
   clear H
   go_wp2
   go_meet
   case rel => exact ⟨_, (decide (a0 > 3)), (by first | rfl | (simp; done) | (simp [*]; done) | (simp [bne_nil]; done)), H', ⟨by first | omega | exact Nat.le_refl _⟩, by repeat (first | exact Drawn0.refl _ | apply Drawn0.step)⟩
 case rest =>
  clear HC3
  try clear c1
  try clear p2
  try clear c4
  try clear c4b0
  obtain ⟨kq, x10_2, rfl, HA, HJ2, ⟨mc2, rfl⟩⟩ := hcut
  cases kq with
  | zero => exact absurd HA.out (by simp [linhayref07_may.j0])
  | succ kj2 =>
   have H := HA.out
   clear HA
   simp only [linhayref07_may.j0] at H
   by_cases c5 : x10_2 = true
   ·
    subst c5
    have H1 : (some 2) = some r := by rw [if_pos rfl] at H; exact H
    clear H
    have H := H1
    clear H1
    obtain rfl := Option.some.inj H
    go_wp2
    go_ret
    exact ⟨by first | rfl | (simp; done) | (simp [*]; done), by repeat (first | exact Drawn0.refl _ | apply Drawn0.step)⟩
   ·
    replace c5 := Bool.eq_false_iff.mpr c5
    subst c5
    have H1 : (if a0 = 1 then (if a1.toList = ([] : List UInt8) then (if a0 = 3 then (linhayref07_may.j1 kj2 a1 (a1.toList == ([] : List UInt8))) else (linhayref07_may.j1 kj2 a1 false)) else (linhayref07_may.j1 kj2 a1 true)) else (if a0 = 3 then (linhayref07_may.j1 kj2 a1 (a1.toList == ([] : List UInt8))) else (linhayref07_may.j1 kj2 a1 false))) = some r := by rw [if_neg (show ¬ (false = true) by decide)] at H; exact H
    clear H
    have H := H1
    clear H1
    have HC6 := qa H
    clear H
    go_upto_region 3 with (fail)
    go_cut [24] (fun v24 wc => ∃ (kq : Nat) (x24_5 : Bool), v24 = .bool x24_5 ∧ Aside0 (linhayref07_may.j1 kq a1 x24_5 = some r) ∧ Aside0 (kq ≤ kj2) ∧ Drawn0 w wc)
    case first =>
     have H := HC6.out
     clear HC6
     by_cases c7 : a0 = 1
     ·
      rw [if_pos c7] at H
      have c7b0 : (a0 == 1) = true := beq_iff_eq.mpr c7
      have c7b1 : (a0 != 1) = false := bne_eq_false_iff_eq.mpr c7
      clear c7
      (first | rw [c7b0] | (simp only [i64_w, i32_w]; rw [c7b0]) | skip)
      by_cases c8 : a1.toList = ([] : List UInt8)
      ·
       rw [if_pos c8] at H
       have c8b0 : (a1.toList == ([] : List UInt8)) = true := beq_iff_eq.mpr c8
       have c8b1 : (a1.toList != ([] : List UInt8)) = false := bne_eq_false_iff_eq.mpr c8
       clear c8
       by_cases c9 : a0 = 3
       ·
        rw [if_pos c9] at H
        have c9b0 : (a0 == 3) = true := beq_iff_eq.mpr c9
        have c9b1 : (a0 != 3) = false := bne_eq_false_iff_eq.mpr c9
        clear c9
        have H' := qa H
        clear H
        go_wp2
        go_meet
        case rel => exact ⟨_, ((a1.toList == ([] : List UInt8))), (by first | rfl | (simp; done) | (simp [*]; done) | (simp [bne_nil]; done)), H', ⟨by have := HJ2.out; first | omega | exact Nat.le_refl _⟩, by repeat (first | exact Drawn0.refl _ | apply Drawn0.step)⟩
       ·
        rw [if_neg c9] at H
        have c9b0 : (a0 == 3) = false := beq_eq_false_iff_ne.mpr c9
        have c9b1 : (a0 != 3) = true := bne_iff_ne.mpr c9
        have H' := qa H
        clear H
        go_wp2
        go_meet
        case rel => exact ⟨_, (false), (by first | rfl | (simp; done) | (simp [*]; done) | (simp [bne_nil]; done)), H', ⟨by have := HJ2.out; first | omega | exact Nat.le_refl _⟩, by repeat (first | exact Drawn0.refl _ | apply Drawn0.step)⟩
      ·
       rw [if_neg c8] at H
       have c8b0 : (a1.toList == ([] : List UInt8)) = false := beq_eq_false_iff_ne.mpr c8
       have c8b1 : (a1.toList != ([] : List UInt8)) = true := bne_iff_ne.mpr c8
       have H' := qa H
       clear H
       go_wp2
       go_meet
       case rel => exact ⟨_, (true), (by first | rfl | (simp; done) | (simp [*]; done) | (simp [bne_nil]; done)), H', ⟨by have := HJ2.out; first | omega | exact Nat.le_refl _⟩, by repeat (first | exact Drawn0.refl _ | apply Drawn0.step)⟩
     ·
      rw [if_neg c7] at H
      have c7b0 : (a0 == 1) = false := beq_eq_false_iff_ne.mpr c7
      have c7b1 : (a0 != 1) = true := bne_iff_ne.mpr c7
      (first | rw [c7b0] | (simp only [i64_w, i32_w]; rw [c7b0]) | skip)
      by_cases c10 : a0 = 3
      ·
       rw [if_pos c10] at H
       have c10b0 : (a0 == 3) = true := beq_iff_eq.mpr c10
       have c10b1 : (a0 != 3) = false := bne_eq_false_iff_eq.mpr c10
       clear c10
       have H' := qa H
       clear H
       go_wp2
       go_meet
       case rel => exact ⟨_, ((a1.toList == ([] : List UInt8))), (by first | rfl | (simp; done) | (simp [*]; done) | (simp [bne_nil]; done)), H', ⟨by have := HJ2.out; first | omega | exact Nat.le_refl _⟩, by repeat (first | exact Drawn0.refl _ | apply Drawn0.step)⟩
      ·
       rw [if_neg c10] at H
       have c10b0 : (a0 == 3) = false := beq_eq_false_iff_ne.mpr c10
       have c10b1 : (a0 != 3) = true := bne_iff_ne.mpr c10
       have H' := qa H
       clear H
       go_wp2
       go_meet
       case rel => exact ⟨_, (false), (by first | rfl | (simp; done) | (simp [*]; done) | (simp [bne_nil]; done)), H', ⟨by have := HJ2.out; first | omega | exact Nat.le_refl _⟩, by repeat (first | exact Drawn0.refl _ | apply Drawn0.step)⟩
    case rest =>
     clear HC6
     try clear c1
     try clear c2
     try clear p2
     try clear c4
     try clear c4b0
     try clear c5
     try clear c7
     try clear c7b0
     try clear c7b1
     try clear c8
     try clear c8b0
     try clear c8b1
     try clear c9
     try clear c9b0
     try clear c9b1
     try clear c10
     try clear c10b0
     try clear c10b1
     try clear p2
     obtain ⟨kq, x24_5, rfl, HA, HJ5, ⟨mc5, rfl⟩⟩ := hcut
     cases kq with
     | zero => exact absurd HA.out (by simp [linhayref07_may.j1])
     | succ kj5 =>
      have H := HA.out
      clear HA
      simp only [linhayref07_may.j1] at H
      by_cases c11 : x24_5 = true
      ·
       subst c11
       have H1 : (some 3) = some r := by rw [if_pos rfl] at H; exact H
       clear H
       have H := H1
       clear H1
       obtain rfl := Option.some.inj H
       go_wp2
       go_ret
       exact ⟨by first | rfl | (simp; done) | (simp [*]; done), by repeat (first | exact Drawn0.refl _ | apply Drawn0.step)⟩
      ·
       replace c11 := Bool.eq_false_iff.mpr c11
       subst c11
       have H1 : (if (a1.size : Int) > 65536 then (some 4) else (some 0)) = some r := by rw [if_neg (show ¬ (false = true) by decide)] at H; exact H
       clear H
       have H := H1
       clear H1
       by_cases c12 : (a1.size : Int) > 65536
       ·
        rw [if_pos c12] at H
        have c12b0 : decide (65536 < (a1.size : Int)) = true := decide_eq_true c12
        have c12b1 : decide (65536 < a1.size) = true := decide_eq_true (by omega)
        clear c12
        obtain rfl := Option.some.inj H
        go_wp2
        go_ret
        exact ⟨by first | rfl | (simp; done) | (simp [*]; done), by repeat (first | exact Drawn0.refl _ | apply Drawn0.step)⟩
       ·
        rw [if_neg c12] at H
        have c12b0 : decide (65536 < (a1.size : Int)) = false := decide_eq_false c12
        have c12b1 : decide (65536 < a1.size) = false := decide_eq_false (by omega)
        clear c12
        obtain rfl := Option.some.inj H
        go_wp2
        go_ret
        exact ⟨by first | rfl | (simp; done) | (simp [*]; done), by repeat (first | exact Drawn0.refl _ | apply Drawn0.step)⟩
-- NOT PRINTED: function 57 (linhayref07_Put)
end Go.Proofs.YtnpeeiikdcankaaGreat.X

namespace Go.Proofs.YtnpeeiikdcankaaGreat.Tw
open Go Go.RowKit Go.Shelf Go.Proofs Go.Proofs.YtnpeeiikdcankaaGreat Go.Proofs.YtnpeeiikdcankaaGreatW.PrintWords Go.Proofs.YtnpeeiikdcankaaGreat.Ext Go.Proofs.YtnpeeiikdcankaaGreat.X Go.Proofs.YtnpeeiikdcankaaGreat.Pu
abbrev RN := S106
def zR : RN := ⟨0, 0, ⟨#[]⟩, 0, ⟨#[]⟩⟩
def atR (L : List RN) (n : Int) : RN := (L.find? (fun r => r.f0 == n)).getD zR
def inQ (d : Int) (s : ByteArray) (r : RN) : Bool := r.f1 == d && (r.f2.toList == s.toList && !(r.f0 == 1))
def inR (L : List RN) (d : Int) (s : ByteArray) : Int := match L.find? (inQ d s) with | some r => r.f0 | none => 0
theorem rd_get {l : List RN} {i : Nat} (h : i < l.length) : rd_T106 l (i : Int) = l[i] := by simp [rd_T106, h]
theorem atR_pos {a : RN} {l : List RN} {n : Int} (h : a.f0 = n) : atR (a :: l) n = a := by
 unfold atR; rw [List.find?_cons, show (a.f0 == n) = true by simp [h]]; rfl
theorem atR_neg {a : RN} {l : List RN} {n : Int} (h : ¬ a.f0 = n) : atR (a :: l) n = atR l n := by
 unfold atR; rw [List.find?_cons, show (a.f0 == n) = false by simp [h]]
theorem r07_at (L : List RN) (n last : Int) (hl : L.length < 4294967296) : Ev (fun k => linhayref07_At.f k L last n) ((atR L n).f0, (atR L n).f1, (atR L n).f2, (atR L n).f3, (atR L n).f4) := by
 have key : ∀ (d i : Nat), i + d = L.length → Ev (fun k => linhayref07_At.l0 k n (i : Int) L last) ((atR (L.drop i) n).f0, (atR (L.drop i) n).f1, (atR (L.drop i) n).f2, (atR (L.drop i) n).f3, (atR (L.drop i) n).f4) := by
  intro d
  induction d with
  | zero =>
   intro i hi
   rw [List.drop_eq_nil_of_le (by omega)]
   refine Ev.step (fun k => by rw [linhayref07_At.l0]) ?_
   exact ev_neg (by omega) (Ev.now _)
  | succ d ih =>
   intro i hi
   have hlt : i < L.length := by omega
   refine Ev.step (fun k => by rw [linhayref07_At.l0]) (ev_pos (by omega) (ev_pos (by omega) ?_))
   rw [rd_get hlt, w1 (by omega), List.drop_eq_getElem_cons hlt]
   by_cases e : L[i].f0 = n
   ·
    have e2 : atR (L[i] :: L.drop (i + 1)) n = L[i] := atR_pos e
    rw [e2]
    exact ev_pos e (Ev.now _)
   ·
    have e2 : atR (L[i] :: L.drop (i + 1)) n = atR (L.drop (i + 1)) n := atR_neg e
    rw [e2]
    exact ev_neg e (ih (i + 1) (by omega))
 have := key L.length 0 (by omega)
 rw [List.drop_zero] at this
 exact this
theorem r07_in (L : List RN) (d last : Int) (s : ByteArray) (hl : L.length < 4294967296) : Ev (fun k => linhayref07_In.f k L last d s) (inR L d s) := by
 have key : ∀ (m i : Nat), i + m = L.length → Ev (fun k => linhayref07_In.l0 k d s (i : Int) L last) (inR (L.drop i) d s) := by
  intro m
  induction m with
  | zero =>
   intro i hi
   rw [List.drop_eq_nil_of_le (by omega)]
   refine Ev.step (fun k => by rw [linhayref07_In.l0]) ?_
   exact ev_neg (by omega) (Ev.now _)
  | succ m ih =>
   intro i hi
   have hlt : i < L.length := by omega
   refine Ev.step (fun k => by rw [linhayref07_In.l0]) (ev_pos (by omega) (ev_pos (by omega) ?_))
   rw [rd_get hlt, w1 (by omega), List.drop_eq_getElem_cons hlt]
   have hF : inQ d s L[i] = false → inR (L[i] :: L.drop (i + 1)) d s = inR (L.drop (i + 1)) d s := by
    intro h; unfold inR; rw [List.find?_cons, h]
   by_cases e : L[i].f1 = d
   ·
    by_cases e2 : L[i].f2.toList = s.toList
    ·
     by_cases e3 : L[i].f0 = 1
     ·
      rw [hF (by simp [inQ, e3])]
      exact ev_pos e (ev_pos e2 (ev_pos e3 (ih (i + 1) (by omega))))
     ·
      have : inR (L[i] :: L.drop (i + 1)) d s = L[i].f0 := by
       unfold inR; rw [List.find?_cons, show inQ d s L[i] = true by simp [inQ, e, e2, e3]]
      rw [this]
      exact ev_pos e (ev_pos e2 (ev_neg e3 (Ev.now _)))
    ·
     rw [hF (by simp [inQ, e2])]
     exact ev_pos e (ev_neg e2 (ih (i + 1) (by omega)))
   ·
    rw [hF (by simp [inQ, e])]
    exact ev_neg e (ih (i + 1) (by omega))
 have := key L.length 0 (by omega)
 rw [List.drop_zero] at this
 exact this
theorem r07_dir (L : List RN) (n last : Int) (hl : L.length < 4294967296) : Ev (fun k => linhayref07_dir.f k L last n) (dirE (atR L n).f3) := by
 unfold linhayref07_dir.f dirE
 refine Ev.bind (r07_at L n last hl) ?_
 show Ev (fun _ => if (atR L n).f3 = 0 then some 5 else if (atR L n).f3 = 1 then some 0 else some 7) _
 generalize (atR L n).f3 = k
 by_cases h0 : k = 0
 · simp only [if_pos h0]; exact Ev.now _
 ·
  by_cases h1 : k = 1
  · simp only [if_neg h0, if_pos h1]; exact Ev.now _
  · simp only [if_neg h0, if_neg h1]; exact Ev.now _
def isIn (n : Int) (r : RN) : Bool := r.f1 == n && !(r.f0 == 1)
def stepE (n : Int) (l : List En) (r : RN) : List En := if isIn n r = true then insE l ⟨r.f2, r.f0⟩ else l
def entsOf (L : List RN) (n : Int) : List En := L.foldl (stepE n) []
def ndOf (L : List RN) (r : RN) : Nd := ⟨r.f3, r.f1, r.f4, entsOf L r.f0⟩
def trOf (L : List RN) (last : Int) : Tr := ⟨fun n => (L.find? (fun r => r.f0 == n)).map (ndOf L), L.length, last⟩
theorem isIn_iff {n : Int} {r : RN} : isIn n r = true ↔ r.f1 = n ∧ r.f0 ≠ 1 := by simp [isIn]
theorem entsOf_snoc (L : List RN) (x : RN) (n : Int) : entsOf (L ++ [x]) n = if isIn n x = true then insE (entsOf L n) ⟨x.f2, x.f0⟩ else entsOf L n := by
 unfold entsOf; rw [List.foldl_append]; rfl
theorem fold_mem (n : Int) (e : En) : ∀ (L : List RN) (acc : List En), e ∈ L.foldl (stepE n) acc ↔ e ∈ acc ∨ ∃ r ∈ L, isIn n r = true ∧ e = ⟨r.f2, r.f0⟩
 | [], acc => by simp
 | a :: L, acc => by
  rw [List.foldl_cons, fold_mem n e L]
  unfold stepE
  split
  ·
   rename_i h
   rw [insE_mem]
   constructor
   ·
    rintro ((h1 | h1) | ⟨r, h1, h2⟩)
    · exact .inr ⟨a, List.mem_cons_self, h, h1⟩
    · exact .inl h1
    · exact .inr ⟨r, List.mem_cons_of_mem _ h1, h2⟩
   ·
    rintro (h1 | ⟨r, h1, h2, h3⟩)
    · exact .inl (.inr h1)
    ·
     rcases List.mem_cons.1 h1 with rfl | h1
     · exact .inl (.inl h3)
     · exact .inr ⟨r, h1, h2, h3⟩
  ·
   rename_i h
   constructor
   ·
    rintro (h1 | ⟨r, h1, h2⟩)
    · exact .inl h1
    · exact .inr ⟨r, List.mem_cons_of_mem _ h1, h2⟩
   ·
    rintro (h1 | ⟨r, h1, h2, h3⟩)
    · exact .inl h1
    ·
     rcases List.mem_cons.1 h1 with rfl | h1
     · exact absurd h2 h
     · exact .inr ⟨r, h1, h2, h3⟩
theorem mem_ents {L : List RN} {n : Int} {e : En} : e ∈ entsOf L n ↔ ∃ r ∈ L, isIn n r = true ∧ e = ⟨r.f2, r.f0⟩ := by
 unfold entsOf; rw [fold_mem]; simp
theorem fold_len (n : Int) : ∀ (L : List RN) (acc : List En), (L.foldl (stepE n) acc).length ≤ acc.length + L.length
 | [], acc => by simp
 | a :: L, acc => by
  rw [List.foldl_cons]
  have h := fold_len n L (stepE n acc a)
  have h2 : (stepE n acc a).length ≤ acc.length + 1 := by
   unfold stepE
   split
   · rw [insE_len]; exact Nat.le_refl _
   · omega
  simp only [List.length_cons]
  omega
theorem ents_len (L : List RN) (n : Int) : (entsOf L n).length ≤ L.length := by
 have := fold_len n L []
 simpa [entsOf] using this
theorem fold_rt (n : Int) : ∀ (L : List RN) (acc : List En), Rt acc → (∀ e ∈ acc, ∀ r ∈ L, isIn n r = true → e.f0 ≠ r.f2) → L.Pairwise (fun a b => a.f1 = b.f1 → a.f0 ≠ 1 → b.f0 ≠ 1 → a.f2 ≠ b.f2) → Rt (L.foldl (stepE n) acc)
 | [], acc, h, _, _ => h
 | a :: L, acc, h, hn, hp => by
  rw [List.foldl_cons]
  obtain ⟨h1, h2⟩ := List.pairwise_cons.1 hp
  refine fold_rt n L _ ?_ ?_ h2
  ·
   unfold stepE
   split
   ·
    rename_i hi
    exact insE_rt _ _ h (fun e he => hn e he a List.mem_cons_self hi)
   · exact h
  ·
   intro e he r hr hi
   unfold stepE at he
   split at he
   ·
    rename_i hj
    rcases (insE_mem _ _ _).1 he with rfl | he
    ·
     obtain ⟨i1, i2⟩ := isIn_iff.1 hi
     obtain ⟨j1, j2⟩ := isIn_iff.1 hj
     exact h1 r hr (j1.trans i1.symm) j2 i2
    · exact hn e he r (List.mem_cons_of_mem _ hr) hi
   · exact hn e he r (List.mem_cons_of_mem _ hr) hi
structure GoodL (L : List RN) (last : Int) : Prop where
 len : L.length ≤ 4096
 num : ∀ r ∈ L, 1 ≤ r.f0 ∧ r.f0 ≤ last
 uniq : L.Pairwise (fun a b => a.f0 ≠ b.f0)
 names : L.Pairwise (fun a b => a.f1 = b.f1 → a.f0 ≠ 1 → b.f0 ≠ 1 → a.f2 ≠ b.f2)
 data : ∀ r ∈ L, r.f4.size ≤ 65536
 up : ∀ r ∈ L, (atR L r.f1).f3 = 1
 root : ∃ r ∈ L, r.f0 = 1 ∧ r.f1 = 1 ∧ r.f3 = 1
theorem GoodL.rt {L : List RN} {last : Int} (h : GoodL L last) (n : Int) : Rt (entsOf L n) := fold_rt n L [] List.Pairwise.nil (by simp) h.names
theorem find_num {L : List RN} {r : RN} (hu : L.Pairwise (fun a b => a.f0 ≠ b.f0)) (hr : r ∈ L) : L.find? (fun q => q.f0 == r.f0) = some r := by
 induction L with
 | nil => cases hr
 | cons a L ih =>
  obtain ⟨h1, h2⟩ := List.pairwise_cons.1 hu
  rw [List.find?_cons]
  rcases List.mem_cons.1 hr with rfl | hr
  · simp
  ·
   have := h1 r hr
   rw [show (a.f0 == r.f0) = false by simpa using this]
   exact ih h2 hr
theorem at_mem {L : List RN} {last : Int} (h : GoodL L last) {r : RN} (hr : r ∈ L) : atR L r.f0 = r := by
 unfold atR; rw [find_num h.uniq hr]; rfl
theorem at_kind {L : List RN} {n : Int} (h : (atR L n).f3 ≠ 0) : ∃ r ∈ L, r.f0 = n ∧ atR L n = r := by
 unfold atR at h ⊢
 cases hf : L.find? (fun r => r.f0 == n) with
 | none => rw [hf] at h; exact absurd rfl h
 | some r =>
  refine ⟨r, List.mem_of_find?_eq_some hf, ?_, rfl⟩
  have := List.find?_some hf
  simpa using this
theorem GoodL.noEnts {L : List RN} {last : Int} (h : GoodL L last) {n : Int} (hn : L.find? (fun r => r.f0 == n) = none) : entsOf L n = [] := by
 cases he : entsOf L n with
 | nil => rfl
 | cons e l =>
  obtain ⟨r, hr, hi, _⟩ := mem_ents.1 (show e ∈ entsOf L n by rw [he]; exact List.mem_cons_self)
  obtain ⟨i1, i2⟩ := isIn_iff.1 hi
  have hk := h.up r hr
  rw [i1] at hk
  unfold atR at hk
  rw [hn] at hk
  cases hk
theorem node_of {L : List RN} {last : Int} (h : GoodL L last) (n : Int) : (trOf L last).node n = ⟨(atR L n).f3, (atR L n).f1, (atR L n).f4, entsOf L n⟩ := by
 unfold Tr.node trOf atR
 cases hf : L.find? (fun r => r.f0 == n) with
 | none => simp only [hf, Option.map_none, Option.getD_none, h.noEnts hf]; rfl
 | some r =>
  have := List.find?_some hf
  have : r.f0 = n := by simpa using this
  simp only [hf, Option.map_some, Option.getD_some, ndOf, this]
theorem find_ents {L : List RN} {last : Int} (h : GoodL L last) (n : Int) (s : ByteArray) : findE (entsOf L n) s = (inR L n s, decide (0 < inR L n s)) := by
 have hq : ∀ r : RN, inQ n s r = true ↔ isIn n r = true ∧ r.f2 = s := by
  intro r
  rw [isIn_iff]
  simp only [inQ, Bool.and_eq_true, beq_iff_eq, Bool.not_eq_true', beq_eq_false_iff_ne, toL_inj]
  constructor
  · rintro ⟨a, b, c⟩; exact ⟨⟨a, c⟩, b⟩
  · rintro ⟨⟨a, c⟩, b⟩; exact ⟨a, b, c⟩
 unfold findE inR
 cases hf : L.find? (inQ n s) with
 | none =>
  have : (entsOf L n).find? (fun e => e.f0.toList == s.toList) = none := by
   rw [List.find?_eq_none]
   intro e he
   obtain ⟨r, hr, hi, rfl⟩ := mem_ents.1 he
   have := List.find?_eq_none.1 hf r hr
   rw [hq] at this
   simp only [beq_iff_eq, toL_inj]
   exact fun e => this ⟨hi, e⟩
  rw [this]; rfl
 | some r =>
  have hr := List.mem_of_find?_eq_some hf
  have hrq := (hq r).1 (List.find?_some hf)
  have hm : (⟨r.f2, r.f0⟩ : En) ∈ entsOf L n := mem_ents.2 ⟨r, hr, hrq.1, rfl⟩
  cases hg : (entsOf L n).find? (fun e => e.f0.toList == s.toList) with
  | none =>
   have := List.find?_eq_none.1 hg _ hm
   simp [hrq.2] at this
  | some e =>
   have he := List.mem_of_find?_eq_some hg
   have hes := List.find?_some hg
   have hes : e.f0 = s := by simpa [toL_inj] using hes
   have hpos := (h.num r hr).1
   have : e = ⟨r.f2, r.f0⟩ := by
    apply Classical.byContradiction
    intro hne
    have hrt := h.rt n
    have key : bl e.f0 r.f2 = true ∨ bl r.f2 e.f0 = true := by
     obtain ⟨i, hi, rfl⟩ := List.getElem_of_mem he
     obtain ⟨j, hj, hj2⟩ := List.getElem_of_mem hm
     rcases Nat.lt_trichotomy i j with hlt | rfl | hgt
     ·
      have := List.pairwise_iff_getElem.1 hrt i j hi hj hlt
      rw [hj2] at this; exact .inl this
     · exact absurd hj2 hne
     ·
      have := List.pairwise_iff_getElem.1 hrt j i hj hi hgt
      rw [hj2] at this; exact .inr this
    rw [hes, hrq.2, bl_irr] at key
    rcases key with h | h <;> cases h
   subst this
   simp only []
   rw [decide_eq_true (by omega)]
theorem r07_may (kind : Int) (data : ByteArray) : linhayref07_may.f 5 kind data = some (mayE kind data) := by
 have hz : (data.toList = ([] : List UInt8)) ↔ data.size = 0 := by
  rw [toL]
  constructor
  ·
   intro h
   have := congrArg List.length h
   exact this
  ·
   intro h
   exact List.eq_nil_of_length_eq_zero h
 have hb : ∀ q : Bool, (data.toList == ([] : List UInt8)) = q → decide (data.size = 0) = q := by
  intro q h
  rw [← h]
  by_cases e : data.size = 0
  · rw [hz.2 e, decide_eq_true e]; rfl
  ·
   rw [decide_eq_false e]
   symm
   rw [beq_eq_false_iff_ne]
   exact fun h => e (hz.1 h)
 have hb := hb _ rfl
 unfold mayE linhayref07_may.f
 by_cases a1 : kind < 1
 · rw [if_pos a1, if_pos (.inl a1)]; rfl
 ·
  rw [if_neg a1]
  by_cases a2 : kind > 3
  · rw [decide_eq_true a2, if_pos (.inr a2)]; rfl
  ·
   have J1 : linhayref07_may.j1 4 data false = (if (data.size : Int) > 65536 then some 4 else some 0) := rfl
   rw [decide_eq_false a2, if_neg (show ¬ (kind < 1 ∨ kind > 3) by omega),
    show linhayref07_may.j0 5 kind data false = (if kind = 1 then (if data.toList = ([] : List UInt8) then (if kind = 3 then linhayref07_may.j1 4 data (data.toList == ([] : List UInt8)) else linhayref07_may.j1 4 data false) else linhayref07_may.j1 4 data true) else (if kind = 3 then linhayref07_may.j1 4 data (data.toList == ([] : List UInt8)) else linhayref07_may.j1 4 data false)) from rfl]
   by_cases a3 : kind = 1
   ·
    rw [if_pos a3]
    by_cases e : data.size = 0
    · rw [if_pos (hz.2 e), if_neg (show ¬ (kind = 3) by omega), if_neg (show ¬ ((kind = 1 ∧ data.size ≠ 0) ∨ (kind = 3 ∧ data.size = 0)) by omega), J1, if_neg (by omega), if_neg (by omega)]
    · rw [if_neg (fun h => e (hz.1 h)), if_pos (.inl ⟨a3, e⟩)]; rfl
   ·
    rw [if_neg a3]
    by_cases a4 : kind = 3
    ·
     rw [if_pos a4]
     by_cases e : data.size = 0
     ·
      rw [decide_eq_true e] at hb
      rw [← hb, if_pos (.inr ⟨a4, e⟩)]; rfl
     ·
      rw [decide_eq_false e] at hb
      rw [← hb, if_neg (show ¬ ((kind = 1 ∧ data.size ≠ 0) ∨ (kind = 3 ∧ data.size = 0)) by omega), J1]
      by_cases f : data.size > 65536
      · rw [if_pos f, if_pos (by omega)]
      · rw [if_neg f, if_neg (by omega)]
    ·
     rw [if_neg a4, if_neg (show ¬ ((kind = 1 ∧ data.size ≠ 0) ∨ (kind = 3 ∧ data.size = 0)) by omega), J1]
     by_cases f : data.size > 65536
     · rw [if_pos f, if_pos (by omega)]
     · rw [if_neg f, if_neg (by omega)]
def putRE (L : List RN) (d : Int) (s : ByteArray) (kind : Int) (data : ByteArray) : Int :=
 if dirE (atR L d).f3 ≠ 0 then dirE (atR L d).f3 else if Sp.check s.data.toList ≠ 0 then Sp.check s.data.toList else
  if 0 < inR L d s then 6 else if mayE kind data ≠ 0 then mayE kind data else if 4096 ≤ L.length then 12 else 0
def RAt (w : World) (v : Value) (L : List RN) (last : Int) : Prop := ∃ A c, v = .agg #[.slice A L.length c, .int .i64 last] ∧ L.length ≤ c ∧ Kd.C k106 w A L.length L
theorem RAt.below {w w' : World} {v : Value} {L : List RN} {last : Int} (h : RAt w v L last) (hb : Below w.heap.size w w') : RAt w' v L last := by
 obtain ⟨A, c, e, h1, h2⟩ := h
 exact ⟨A, c, e, h1, Kd.C_below h2 hb⟩
structure PB (w : World) (b : Nat) (A : Option Addr) (n c : Nat) (last : Int) : Prop where
 x : w.heap[b]? = some (.cells #[.slice A n c, .int .i64 last] 30 (0, 0))
 r : w.heap[b + 1]? = some (.cells #[.slice none 0 0, .int .i64 0] 30 (0, 0))
theorem PB.below {w w' : World} {b n c : Nat} {A : Option Addr} {last : Int} (h : PB w b A n c last) (hb : Below w.heap.size w w') : PB w' b A n c last :=
 ⟨(hb.block _ (blk_lt h.x)).trans h.x, (hb.block _ (blk_lt h.r)).trans h.r⟩
theorem PB.all {w : World} {b n c : Nat} {A : Option Addr} {last : Int} (h : PB w b A n c last) :
  w.cell? ⟨b, 0, none⟩ = some (.slice A n c) ∧ w.cell? ⟨b, 1, none⟩ = some (.int .i64 last) ∧ w.cell? ⟨b + 1, 0, none⟩ = some (.slice none 0 0) ∧ w.cell? ⟨b + 1, 1, none⟩ = some (.int .i64 0) ∧ w.frozen? ⟨b + 1, 0, none⟩ = false ∧ w.frozen? ⟨b + 1, 1, none⟩ = false :=
 ⟨by rw [blk_cell h.x]; rfl, by rw [blk_cell h.x]; rfl, by rw [blk_cell h.r]; rfl, by rw [blk_cell h.r]; rfl, blk_frozen h.r 0, blk_frozen h.r 1⟩
theorem PB.mk0 (w : World) (A : Option Addr) (n c : Nat) (last : Int) : PB ((w.alloc (.cells #[.slice A n c, .int .i64 last] 30)).alloc (.cells #[.slice none 0 0, .int .i64 0] 30)) w.heap.size A n c last := by
 refine ⟨?_, ?_⟩
 · exact (((Below.refl _ (w.alloc (.cells #[.slice A n c, .int .i64 last] 30))).alloc (Nat.le_refl _) (.cells #[.slice none 0 0, .int .i64 0] 30)).block w.heap.size (by simp)).trans (heap_alloc_new w _)
 ·
  have := heap_alloc_new (w.alloc (.cells #[.slice A n c, .int .i64 last] 30)) (.cells #[.slice none 0 0, .int .i64 0] 30)
  simpa using this
theorem below_two (w : World) (o1 o2 : Obj) : Below w.heap.size w ((w.alloc o1).alloc o2) := ((Below.refl _ w).alloc (Nat.le_refl _) _).alloc (by simp) _
theorem put_cells {w w2 : World} {n c : Nat} {A : Option Addr} {last : Int} {v0 v1 : Value} (h : PB w2 w.heap.size A n c last) (hb : Below w.heap.size w w2) :
  ((w2.setCell ⟨w.heap.size + 1, 0, none⟩ v0).setCell ⟨w.heap.size + 1, 1, none⟩ v1).cell? ⟨w.heap.size + 1, 0, none⟩ = some v0 ∧ ((w2.setCell ⟨w.heap.size + 1, 0, none⟩ v0).setCell ⟨w.heap.size + 1, 1, none⟩ v1).cell? ⟨w.heap.size + 1, 1, none⟩ = some v1 ∧
   Below w.heap.size w ((w2.setCell ⟨w.heap.size + 1, 0, none⟩ v0).setCell ⟨w.heap.size + 1, 1, none⟩ v1) := by
 have e1 := setCell_eq_setRow w2 (w.heap.size + 1) 0 _ _ _ v0 h.r
 have k1 : (w2.setCell ⟨w.heap.size + 1, 0, none⟩ v0).heap[w.heap.size + 1]? = some (.cells #[v0, .int .i64 0] 30 (0, 0)) := by rw [e1, setRow_heap w2 _ _ _ _ _ h.r]; rfl
 have e2 := setCell_eq_setRow _ (w.heap.size + 1) 1 _ _ _ v1 k1
 have k2 : ((w2.setCell ⟨w.heap.size + 1, 0, none⟩ v0).setCell ⟨w.heap.size + 1, 1, none⟩ v1).heap[w.heap.size + 1]? = some (.cells #[v0, v1] 30 (0, 0)) := by rw [e2, setRow_heap _ _ _ _ _ _ k1]; rfl
 exact ⟨by rw [blk_cell k2]; rfl, by rw [blk_cell k2]; rfl, (hb.setCell (by simp) _).setCell (by simp) _⟩
theorem rput_err (L : List RN) (last : Int) (v : Value) (d : Int) (s : ByteArray) (kind : Int) (data : ByteArray) (w : World) (h : RAt w v L last) (hl : L.length < 4294967296) (he : putRE L d s kind data ≠ 0) :
  Calls Tryz.prog 57 #[v, .int .i64 d, .string s, .int .i64 kind, .string data] w fun e w' => e = .returned (.tuple #[v, .int .i64 0, .int .i64 (putRE L d s kind data)]) ∧ Below w.heap.size w w' := by
 obtain ⟨A, c, rfl, hle, hC⟩ := h
 obtain ⟨k1, hk1⟩ := (r07_dir L d last hl).rounds
 obtain ⟨k2, hk2⟩ := (r03_check s).rounds
 obtain ⟨k3, hk3⟩ := (r07_in L d last s hl).rounds
 have HD := qh (fun W h h2 => linhayref07_dir.calls k1 A c L last d _ W h h2 hk1)
 have HC := qh (fun W => linhayref03_Check.calls k2 s _ W hk2)
 have HI := qh (fun W h h2 => linhayref07_In.calls k3 A c L last d s _ W h h2 hk3)
 have HM := qh (fun W => linhayref07_may.calls 5 kind data (mayE kind data) W (r07_may kind data))
 have HL := qh hC
 have HLE := qh hle
 clear hk1 hk2 hk3 hle hl hC
 unfold putRE at he ⊢
 generalize dirE (atR L d).f3 = q1 at *
 generalize Sp.check s.data.toList = q2 at *
 generalize inR L d s = q3 at *
 generalize mayE kind data = q4 at *
 generalize hn : L.length = n at *
 have P1 := qh (PB.mk0 w A n c last)
 have hb1 := below_two w (.cells #[.slice A n c, .int .i64 last] 30) (.cells #[.slice none 0 0, .int .i64 0] 30)
 have HL1 := qh (Kd.C_below HL.out hb1)
 obtain ⟨x0_1, x1_1, r0_1, r1_1, f0_1, f1_1⟩ := P1.out.all
 have HB1 := qh hb1
 clear hb1
 by_cases h1 : q1 = 0
 ·
  subst h1
  rw [if_neg (by simp)] at he ⊢
  by_cases h2 : q2 = 0
  ·
   subst h2
   rw [if_neg (by simp)] at he ⊢
   by_cases h3 : 0 < q3
   ·
    rw [if_pos h3]
    clear he
    go_enter Tryz.func57, Tryz.ntmps57
    go_wp2_with (first | (go_at_call 103; refine (HD.out _ HL1.out HLE.out).mono ?_; rintro e w2 ⟨rfl, hb2⟩; have P2 := qa (P1.out.below hb2); have HL2 := qa (Kd.C_below HL1.out hb2); obtain ⟨x0_2, x1_2, r0_2, r1_2, f0_2, f1_2⟩ := P2.out.all) | (go_at_call 104; refine (HC.out _).mono ?_; rintro e w3 ⟨rfl, hd3⟩; have hb3 := hd3.below; have P3 := qa (P2.out.below hb3); have HL3 := qa (Kd.C_below HL2.out hb3); obtain ⟨x0_3, x1_3, r0_3, r1_3, f0_3, f1_3⟩ := P3.out.all) | (go_at_call 105; refine (HI.out _ HL3.out HLE.out).mono ?_; rintro e w4 ⟨rfl, hb4⟩; have P4 := qa (P3.out.below hb4); have HL4 := qa (Kd.C_below HL3.out hb4); obtain ⟨x0_4, x1_4, r0_4, r1_4, f0_4, f1_4⟩ := P4.out.all) | (go_at_call 106; refine (HM.out _).mono ?_; rintro e w5 ⟨rfl, hd5⟩; have hb5 := hd5.below; have P5 := qa (P4.out.below hb5); have HL5 := qa (Kd.C_below HL4.out hb5); obtain ⟨x0_5, x1_5, r0_5, r1_5, f0_5, f1_5⟩ := P5.out.all))
    have hB := ((HB1.out.trans (hb2.mono (HB1.out.size))).trans (hb3.mono (Nat.le_trans (HB1.out.size) hb2.size))).trans (hb4.mono (Nat.le_trans (Nat.le_trans (HB1.out.size) hb2.size) hb3.size))
    obtain ⟨c0, c1, hB3⟩ := put_cells (v0 := .slice A n c) (v1 := .int .i64 last) P4.out hB
    generalize (w4.setCell ⟨w.heap.size + 1, 0, none⟩ (.slice A n c)).setCell ⟨w.heap.size + 1, 1, none⟩ (.int .i64 last) = w9 at c0 c1 hB3 ⊢
    have hu := Tryz.underlying30
    refine bodyPost_ret (v := .tuple #[.agg #[.slice A n c, .int .i64 last], .int .i64 0, .int .i64 6]) (by simp [results, Tryz.results57, go_sem, c0, c1, hu]) rfl ⟨rfl, hB3⟩
   ·
    rw [if_neg h3] at he ⊢
    by_cases h4 : q4 = 0
    ·
     subst h4
     rw [if_neg (by simp)] at he ⊢
     by_cases h5 : 4096 ≤ n
     ·
      rw [if_pos h5]
      have h5' : (4096 : Int) ≤ (n : Int) := by omega
      clear he
      go_enter Tryz.func57, Tryz.ntmps57
      go_wp2_with (first | (go_at_call 103; refine (HD.out _ HL1.out HLE.out).mono ?_; rintro e w2 ⟨rfl, hb2⟩; have P2 := qa (P1.out.below hb2); have HL2 := qa (Kd.C_below HL1.out hb2); obtain ⟨x0_2, x1_2, r0_2, r1_2, f0_2, f1_2⟩ := P2.out.all) | (go_at_call 104; refine (HC.out _).mono ?_; rintro e w3 ⟨rfl, hd3⟩; have hb3 := hd3.below; have P3 := qa (P2.out.below hb3); have HL3 := qa (Kd.C_below HL2.out hb3); obtain ⟨x0_3, x1_3, r0_3, r1_3, f0_3, f1_3⟩ := P3.out.all) | (go_at_call 105; refine (HI.out _ HL3.out HLE.out).mono ?_; rintro e w4 ⟨rfl, hb4⟩; have P4 := qa (P3.out.below hb4); have HL4 := qa (Kd.C_below HL3.out hb4); obtain ⟨x0_4, x1_4, r0_4, r1_4, f0_4, f1_4⟩ := P4.out.all) | (go_at_call 106; refine (HM.out _).mono ?_; rintro e w5 ⟨rfl, hd5⟩; have hb5 := hd5.below; have P5 := qa (P4.out.below hb5); have HL5 := qa (Kd.C_below HL4.out hb5); obtain ⟨x0_5, x1_5, r0_5, r1_5, f0_5, f1_5⟩ := P5.out.all))
      have hB := (((HB1.out.trans (hb2.mono (HB1.out.size))).trans (hb3.mono (Nat.le_trans (HB1.out.size) hb2.size))).trans (hb4.mono (Nat.le_trans (Nat.le_trans (HB1.out.size) hb2.size) hb3.size))).trans (hb5.mono (Nat.le_trans (Nat.le_trans (Nat.le_trans (HB1.out.size) hb2.size) hb3.size) hb4.size))
      obtain ⟨c0, c1, hB3⟩ := put_cells (v0 := .slice A n c) (v1 := .int .i64 last) P5.out hB
      generalize (w5.setCell ⟨w.heap.size + 1, 0, none⟩ (.slice A n c)).setCell ⟨w.heap.size + 1, 1, none⟩ (.int .i64 last) = w9 at c0 c1 hB3 ⊢
      have hu := Tryz.underlying30
      refine bodyPost_ret (v := .tuple #[.agg #[.slice A n c, .int .i64 last], .int .i64 0, .int .i64 12]) (by simp [results, Tryz.results57, go_sem, c0, c1, hu]) rfl ⟨rfl, hB3⟩
     ·
      rw [if_neg h5] at he
      exact absurd rfl he
    ·
     rw [if_pos h4]
     clear he
     go_enter Tryz.func57, Tryz.ntmps57
     go_wp2_with (first | (go_at_call 103; refine (HD.out _ HL1.out HLE.out).mono ?_; rintro e w2 ⟨rfl, hb2⟩; have P2 := qa (P1.out.below hb2); have HL2 := qa (Kd.C_below HL1.out hb2); obtain ⟨x0_2, x1_2, r0_2, r1_2, f0_2, f1_2⟩ := P2.out.all) | (go_at_call 104; refine (HC.out _).mono ?_; rintro e w3 ⟨rfl, hd3⟩; have hb3 := hd3.below; have P3 := qa (P2.out.below hb3); have HL3 := qa (Kd.C_below HL2.out hb3); obtain ⟨x0_3, x1_3, r0_3, r1_3, f0_3, f1_3⟩ := P3.out.all) | (go_at_call 105; refine (HI.out _ HL3.out HLE.out).mono ?_; rintro e w4 ⟨rfl, hb4⟩; have P4 := qa (P3.out.below hb4); have HL4 := qa (Kd.C_below HL3.out hb4); obtain ⟨x0_4, x1_4, r0_4, r1_4, f0_4, f1_4⟩ := P4.out.all) | (go_at_call 106; refine (HM.out _).mono ?_; rintro e w5 ⟨rfl, hd5⟩; have hb5 := hd5.below; have P5 := qa (P4.out.below hb5); have HL5 := qa (Kd.C_below HL4.out hb5); obtain ⟨x0_5, x1_5, r0_5, r1_5, f0_5, f1_5⟩ := P5.out.all))
     have hB := (((HB1.out.trans (hb2.mono (HB1.out.size))).trans (hb3.mono (Nat.le_trans (HB1.out.size) hb2.size))).trans (hb4.mono (Nat.le_trans (Nat.le_trans (HB1.out.size) hb2.size) hb3.size))).trans (hb5.mono (Nat.le_trans (Nat.le_trans (Nat.le_trans (HB1.out.size) hb2.size) hb3.size) hb4.size))
     obtain ⟨c0, c1, hB3⟩ := put_cells (v0 := .slice A n c) (v1 := .int .i64 last) P5.out hB
     generalize (w5.setCell ⟨w.heap.size + 1, 0, none⟩ (.slice A n c)).setCell ⟨w.heap.size + 1, 1, none⟩ (.int .i64 last) = w9 at c0 c1 hB3 ⊢
     have hu := Tryz.underlying30
     refine bodyPost_ret (v := .tuple #[.agg #[.slice A n c, .int .i64 last], .int .i64 0, .int .i64 q4]) (by simp [results, Tryz.results57, go_sem, c0, c1, hu]) rfl ⟨rfl, hB3⟩
  ·
   rw [if_pos h2]
   clear he
   go_enter Tryz.func57, Tryz.ntmps57
   go_wp2_with (first | (go_at_call 103; refine (HD.out _ HL1.out HLE.out).mono ?_; rintro e w2 ⟨rfl, hb2⟩; have P2 := qa (P1.out.below hb2); have HL2 := qa (Kd.C_below HL1.out hb2); obtain ⟨x0_2, x1_2, r0_2, r1_2, f0_2, f1_2⟩ := P2.out.all) | (go_at_call 104; refine (HC.out _).mono ?_; rintro e w3 ⟨rfl, hd3⟩; have hb3 := hd3.below; have P3 := qa (P2.out.below hb3); have HL3 := qa (Kd.C_below HL2.out hb3); obtain ⟨x0_3, x1_3, r0_3, r1_3, f0_3, f1_3⟩ := P3.out.all) | (go_at_call 105; refine (HI.out _ HL3.out HLE.out).mono ?_; rintro e w4 ⟨rfl, hb4⟩; have P4 := qa (P3.out.below hb4); have HL4 := qa (Kd.C_below HL3.out hb4); obtain ⟨x0_4, x1_4, r0_4, r1_4, f0_4, f1_4⟩ := P4.out.all) | (go_at_call 106; refine (HM.out _).mono ?_; rintro e w5 ⟨rfl, hd5⟩; have hb5 := hd5.below; have P5 := qa (P4.out.below hb5); have HL5 := qa (Kd.C_below HL4.out hb5); obtain ⟨x0_5, x1_5, r0_5, r1_5, f0_5, f1_5⟩ := P5.out.all))
   have hB := (HB1.out.trans (hb2.mono (HB1.out.size))).trans (hb3.mono (Nat.le_trans (HB1.out.size) hb2.size))
   obtain ⟨c0, c1, hB3⟩ := put_cells (v0 := .slice A n c) (v1 := .int .i64 last) P3.out hB
   generalize (w3.setCell ⟨w.heap.size + 1, 0, none⟩ (.slice A n c)).setCell ⟨w.heap.size + 1, 1, none⟩ (.int .i64 last) = w9 at c0 c1 hB3 ⊢
   have hu := Tryz.underlying30
   refine bodyPost_ret (v := .tuple #[.agg #[.slice A n c, .int .i64 last], .int .i64 0, .int .i64 q2]) (by simp [results, Tryz.results57, go_sem, c0, c1, hu]) rfl ⟨rfl, hB3⟩
 ·
  rw [if_pos h1]
  clear he
  go_enter Tryz.func57, Tryz.ntmps57
  go_wp2_with (first | (go_at_call 103; refine (HD.out _ HL1.out HLE.out).mono ?_; rintro e w2 ⟨rfl, hb2⟩; have P2 := qa (P1.out.below hb2); have HL2 := qa (Kd.C_below HL1.out hb2); obtain ⟨x0_2, x1_2, r0_2, r1_2, f0_2, f1_2⟩ := P2.out.all) | (go_at_call 104; refine (HC.out _).mono ?_; rintro e w3 ⟨rfl, hd3⟩; have hb3 := hd3.below; have P3 := qa (P2.out.below hb3); have HL3 := qa (Kd.C_below HL2.out hb3); obtain ⟨x0_3, x1_3, r0_3, r1_3, f0_3, f1_3⟩ := P3.out.all) | (go_at_call 105; refine (HI.out _ HL3.out HLE.out).mono ?_; rintro e w4 ⟨rfl, hb4⟩; have P4 := qa (P3.out.below hb4); have HL4 := qa (Kd.C_below HL3.out hb4); obtain ⟨x0_4, x1_4, r0_4, r1_4, f0_4, f1_4⟩ := P4.out.all) | (go_at_call 106; refine (HM.out _).mono ?_; rintro e w5 ⟨rfl, hd5⟩; have hb5 := hd5.below; have P5 := qa (P4.out.below hb5); have HL5 := qa (Kd.C_below HL4.out hb5); obtain ⟨x0_5, x1_5, r0_5, r1_5, f0_5, f1_5⟩ := P5.out.all))
  have hB := HB1.out.trans (hb2.mono (HB1.out.size))
  obtain ⟨c0, c1, hB3⟩ := put_cells (v0 := .slice A n c) (v1 := .int .i64 last) P2.out hB
  generalize (w2.setCell ⟨w.heap.size + 1, 0, none⟩ (.slice A n c)).setCell ⟨w.heap.size + 1, 1, none⟩ (.int .i64 last) = w9 at c0 c1 hB3 ⊢
  have hu := Tryz.underlying30
  refine bodyPost_ret (v := .tuple #[.agg #[.slice A n c, .int .i64 last], .int .i64 0, .int .i64 q1]) (by simp [results, Tryz.results57, go_sem, c0, c1, hu]) rfl ⟨rfl, hB3⟩
theorem putRE_zero {L : List RN} {d : Int} {s : ByteArray} {kind : Int} {data : ByteArray} (h : putRE L d s kind data = 0) :
  dirE (atR L d).f3 = 0 ∧ Sp.check s.data.toList = 0 ∧ ¬ (0 < inR L d s) ∧ mayE kind data = 0 ∧ L.length < 4096 := by
 unfold putRE at h
 split at h
 · rename_i g; exact absurd h g
 ·
  rename_i g1
  split at h
  · rename_i g; exact absurd h g
  ·
   rename_i g2
   split at h
   · cases h
   ·
    rename_i g3
    split at h
    · rename_i g; exact absurd h g
    ·
     rename_i g4
     split at h
     · cases h
     ·
      rename_i g5
      exact ⟨Decidable.byContradiction fun e => g1 e, Decidable.byContradiction fun e => g2 e, g3, Decidable.byContradiction fun e => g4 e, by omega⟩
theorem rfar2 {w : World} {base b : Nat} {v u u' : Value} {l : List RN} (h : Kd.R k106 106 w base (fun _ => True) v l) (hb : b < base) :
  Kd.R k106 106 ((w.setCell ⟨b, 0, none⟩ u).setCell ⟨b, 1, none⟩ u') base (fun _ => True) v l := by
 have h1 := Kd.R_mono (Kd.R_bound h) (ok' := fun k => k ≠ b) (fun k hk => by have := hk.2.1; omega)
 exact Kd.R_mono (Kd.R_far (p := ⟨b, 1, none⟩) (Kd.R_far (p := ⟨b, 0, none⟩) h1 (fun k hk => hk) u) (fun k hk => hk) u') (fun _ _ => trivial)
theorem rat_fin {w : World} {n c7 : Nat} {A7 : Option Addr} {L : List RN} {x : RN} {last : Int} (hn : L.length = n) (h : ∃ A c, Value.slice A7 ([] ++ L ++ [x]).length c7 = .slice A ([] ++ L ++ [x]).length c ∧ ([] ++ L ++ [x]).length ≤ c ∧ Kd.C k106 w A ([] ++ L ++ [x]).length ([] ++ L ++ [x])) :
  RAt w.drew (.agg #[.slice A7 (n + 1) c7, .int .i64 last]) (L ++ [x]) last := by
 obtain ⟨A, c, e, h1, h2⟩ := h
 cases e
 exact ⟨A7, c7, by simp [hn], h1, Kd.C_drew h2⟩
theorem alloc_below (w : World) (o : Obj) (w' : World) (h : Below (w.heap.size + 1) (w.drew.alloc o) w') : Below w.heap.size w w' :=
 (((Below.refl w.heap.size w).drew).alloc (Nat.le_refl _) o).trans (h.mono (Nat.le_succ _))
theorem oneR {w w' : World} {b : Nat} {x : RN} (h : w'.heap[b]? = w.heap[b]?) (hv : w.heap[b]? = some (.cells #[.int .i64 x.f0, .int .i64 x.f1, .string x.f2, .int .i64 x.f3, .string x.f4] 106 (0, 0))) : Kd.C k106 w' (some ⟨b, 0, none⟩) 1 [x] := by
 have hv := h.trans hv
 refine ⟨rfl, by omega, fun _ => ⟨_, rfl, fun j p hj => ?_⟩⟩
 obtain ⟨hl, rfl⟩ := List.getElem?_eq_some_iff.1 hj
 have : j = 0 := by simp at hl; exact hl
 subst this
 refine ⟨[.int .i64 x.f0, .int .i64 x.f1, .string x.f2, .int .i64 x.f3, .string x.f4], rfl, k106_mk w' x, fun i u hu => ?_⟩
 rw [show (⟨b, 0, none⟩ : Addr).add (0 * k106.sz + i) = ⟨b, i, none⟩ by rw [Addr.add_lit]; congr 1; omega]
 rw [cell_of_row w' b _ _ _ (0, 0) hv]
 simpa using hu
theorem rput_ok (L : List RN) (last : Int) (v : Value) (d : Int) (s : ByteArray) (kind : Int) (data : ByteArray) (w : World) (h : RAt w v L last) (hla : 0 ≤ last ∧ last < 1000000) (he : putRE L d s kind data = 0) :
  Calls Tryz.prog 57 #[v, .int .i64 d, .string s, .int .i64 kind, .string data] w fun e w' => ∃ v', e = .returned (.tuple #[v', .int .i64 (last + 1), .int .i64 0]) ∧ RAt w' v' (L ++ [⟨last + 1, d, s, kind, data⟩]) (last + 1) ∧ Below w.heap.size w w' := by
 obtain ⟨A, c, rfl, hle, hC⟩ := h
 obtain ⟨z1, z2, z3, z4, z5⟩ := putRE_zero he
 have hl : L.length < 4294967296 := by omega
 obtain ⟨k1, hk1⟩ := (r07_dir L d last hl).rounds
 obtain ⟨k2, hk2⟩ := (r03_check s).rounds
 obtain ⟨k3, hk3⟩ := (r07_in L d last s hl).rounds
 have HD := qh (fun W h h2 => linhayref07_dir.calls k1 A c L last d _ W h h2 hk1)
 have HC := qh (fun W => linhayref03_Check.calls k2 s _ W hk2)
 have HI := qh (fun W h h2 => linhayref07_In.calls k3 A c L last d s _ W h h2 hk3)
 have HM := qh (fun W => linhayref07_may.calls 5 kind data (mayE kind data) W (r07_may kind data))
 have HL := qh hC
 have HLE := qh hle
 have HZ5 := qh z5
 have hw1 : IntKind.i64.wrap (last + 1) = last + 1 := by obtain ⟨a, b⟩ := hla; rw [IntKind.wrap_i64]; omega
 rw [z1] at HD
 rw [z2] at HC
 rw [z4] at HM
 have h5' : ¬ ((4096 : Int) ≤ (L.length : Int)) := by omega
 have h5'' : (L.length : Int) < 4096 := by omega
 clear hk1 hk2 hk3 hle hl hC z1 z2 z4 z5 he hla
 generalize inR L d s = q3 at *
 generalize hn : L.length = n at *
 have P1 := qh (PB.mk0 w A n c last)
 have hb1 := below_two w (.cells #[.slice A n c, .int .i64 last] 30) (.cells #[.slice none 0 0, .int .i64 0] 30)
 have HL1 := qh (Kd.C_below HL.out hb1)
 obtain ⟨x0_1, x1_1, r0_1, r1_1, f0_1, f1_1⟩ := P1.out.all
 have HB1 := qh hb1
 clear hb1
 go_enter Tryz.func57, Tryz.ntmps57
 go_wp2_with (first | (go_at_call 103; refine (HD.out _ HL1.out HLE.out).mono ?_; rintro e w2 ⟨rfl, hb2⟩; have P2 := qa (P1.out.below hb2); have HL2 := qa (Kd.C_below HL1.out hb2); obtain ⟨x0_2, x1_2, r0_2, r1_2, f0_2, f1_2⟩ := P2.out.all) | (go_at_call 104; refine (HC.out _).mono ?_; rintro e w3 ⟨rfl, hd3⟩; have hb3 := hd3.below; have P3 := qa (P2.out.below hb3); have HL3 := qa (Kd.C_below HL2.out hb3); obtain ⟨x0_3, x1_3, r0_3, r1_3, f0_3, f1_3⟩ := P3.out.all) | (go_at_call 105; refine (HI.out _ HL3.out HLE.out).mono ?_; rintro e w4 ⟨rfl, hb4⟩; have P4 := qa (P3.out.below hb4); have HL4 := qa (Kd.C_below HL3.out hb4); obtain ⟨x0_4, x1_4, r0_4, r1_4, f0_4, f1_4⟩ := P4.out.all) | (go_at_call 106; refine (HM.out _).mono ?_; rintro e w5 ⟨rfl, hd5⟩; have hb5 := hd5.below; have P5 := qa (P4.out.below hb5); have HL5 := qa (Kd.C_below HL4.out hb5); obtain ⟨x0_5, x1_5, r0_5, r1_5, f0_5, f1_5⟩ := P5.out.all))
 have HB5 := qa ((((HB1.out.trans (hb2.mono (HB1.out.size))).trans (hb3.mono (Nat.le_trans (HB1.out.size) hb2.size))).trans (hb4.mono (Nat.le_trans (Nat.le_trans (HB1.out.size) hb2.size) hb3.size))).trans (hb5.mono (Nat.le_trans (Nat.le_trans (Nat.le_trans (HB1.out.size) hb2.size) hb3.size) hb4.size)))
 have PD := qa (P5.out.below (below_drew (Below.refl _ w5)))
 have HLD := qa (Kd.C_drew HL5.out)
 clear hb2 hb3 hb4 hb5 x0_1 x1_1 r0_1 r1_1 f0_1 f1_1 x0_2 x1_2 r0_2 r1_2 f0_2 f1_2 x0_3 x1_3 r0_3 r1_3 f0_3 f1_3 x0_4 x1_4 r0_4 r1_4 f0_4 f1_4 x0_5 x1_5 r0_5 r1_5 f0_5 f1_5 HL1 HL2 HL3 HL4 P1 P2 P3 P4 HD HC HI HM HB1
 have hlt5 := qa (blk_lt P5.out.r)
 obtain ⟨x0, x1, -, -, -, -⟩ := PD.out.all
 obtain ⟨xA0, xA1, -, -, -, -⟩ := (P5.out.below (below_drew (((Below.refl _ w5).alloc (Nat.le_refl _) (.cells #[.int .i64 (last + 1), .int .i64 d, .string s, .int .i64 kind, .string data] 106))))).all
 go_region_law (first | (refine Kd.R_append_rows_step k106 (w0 := w5) w5.heap.size (by simp [Region.wanted]) (.const (.slice none 0 0)) (.tmp 49) 28 106 _ 56 rfl Tryz.underlying28 info106 rfl (by decide) (by omega) _ [] L A n c (fun _ => True) (fun _ => False) (by rfl) (by rfl) (Kd.R_nil _ _ _ _ _) HLD.out (fun _ _ h => by obtain rfl := k106_open h; exact k106_mkM _ _ _ _) (fun _ h => h.elim) (fun _ _ => trivial) (below_drew (Below.refl _ _)) (by simp) (by have := HZ5.out; simp; omega) ?_; intro v6 w6 ho6 hb6 hg6 hat6; have P6 := qa (P5.out.below hb6); have x6 := P6.out.all.1; have y6 := P6.out.all.2.1) | (refine Kd.R_append_rows_step k106 (w0 := (w5.alloc (.cells #[.int .i64 (last + 1), .int .i64 d, .string s, .int .i64 kind, .string data] 106)).drew) (w5.heap.size + 1) (by simp [Region.wanted]) (.const (.slice none 0 0)) (.tmp 49) 28 106 _ 56 rfl Tryz.underlying28 info106 rfl (by decide) (by omega) _ [] L A n c (fun _ => True) (fun _ => False) (by rfl) (by rfl) (Kd.R_nil _ _ _ _ _) (Kd.C_drew (Kd.C_alloc HL5.out _)) (fun _ _ h => by obtain rfl := k106_open h; exact k106_mkM _ _ _ _) (fun _ h => h.elim) (fun _ _ => trivial) (Below.refl _ _) (by simp) (by have := HZ5.out; simp; omega) ?_; intro v6 w6 ho6 hb6' hg6 hat6; have hb6 := alloc_below w5 (.cells #[.int .i64 (last + 1), .int .i64 d, .string s, .int .i64 kind, .string data] 106) w6 hb6'; have HV6 := qa (oneR (x := ⟨last + 1, d, s, kind, data⟩) (hb6'.block w5.heap.size (by simp)) (heap_alloc_new w5 _)); have P6 := qa (P5.out.below hb6); have x6 := P6.out.all.1; have y6 := P6.out.all.2.1) | (refine Kd.R_append_step k106 (w0 := w5) w5.heap.size (by simp [Region.wanted]) (.tmp 50) (.tmp 59) 28 106 _ 56 rfl Tryz.underlying28 info106 rfl (by decide) (by omega) v6 ([] ++ L) ⟨last + 1, d, s, kind, data⟩ _ (fun _ => True) (fun _ => False) (by rfl) (by rfl) (k106_mkM _ _ _ _) (fun _ h => h.elim) (fun _ _ => trivial) ho6 hb6 hb6.size (by have := HZ5.out; simp; omega) ?_; intro v7 w7 ho7 hbb7 hg7 hat7; obtain ⟨A7, c7, rfl, hle7, hC7⟩ := Kd.R_reads ho7; have P7 := qa (P5.out.below hbb7); obtain ⟨x7, y7, r7, s7, f7, g7⟩ := P7.out.all; have HL7 := qa (And.intro hle7 hC7); have HB7 := qa hbb7) | (refine Kd.R_append_rows_step k106 (w0 := w6) (w5.heap.size + 1) (by simp [Region.wanted]) (.tmp 50) (.tmp 59) 28 106 _ 56 rfl Tryz.underlying28 info106 rfl (by decide) (by omega) v6 ([] ++ L) [⟨last + 1, d, s, kind, data⟩] _ 1 1 (fun _ => True) (fun _ => False) (by rfl) (by rfl) ho6 HV6.out (fun _ _ h => by obtain rfl := k106_open h; exact k106_mkM _ _ _ _) (fun _ h => h.elim) (fun _ _ => trivial) (Below.refl _ _) (Nat.le_trans (by simp) hb6'.size) (by have := HZ5.out; simp; omega) ?_; intro v7 w7 ho7 hb7 hg7 hat7; have hbb7 := hb6.trans (hb7.mono (Nat.le_succ _)); obtain ⟨A7, c7, rfl, hle7, hC7⟩ := Kd.R_reads ho7; have P7 := qa (P5.out.below hbb7); obtain ⟨x7, y7, r7, s7, f7, g7⟩ := P7.out.all; have HL7 := qa (And.intro hle7 hC7); have HB7 := qa hbb7))
 all_goals clear x0 x1 xA0 xA1 HLD PD HL5 P5
 all_goals go_wp2
 all_goals go_region
 all_goals go_wp2
 all_goals have hB := HB5.out.trans (HB7.out.mono HB5.out.size)
 all_goals obtain ⟨c0, c1, hB3⟩ := put_cells (v0 := .slice A7 (n + 1) c7) (v1 := .int .i64 (last + 1)) P7.out hB
 all_goals have hR9 := Kd.R_reads (rfar2 (u := .slice A7 (n + 1) c7) (u' := .int .i64 (last + 1)) ho7 (show w.heap.size + 1 < _ by have := hlt5.out; omega))
 all_goals generalize (w7.setCell ⟨w.heap.size + 1, 0, none⟩ (.slice A7 (n + 1) c7)).setCell ⟨w.heap.size + 1, 1, none⟩ (.int .i64 (last + 1)) = w9 at c0 c1 hB3 hR9 ⊢
 all_goals have hu := Tryz.underlying30
 all_goals refine bodyPost_ret (v := .tuple #[.agg #[.slice A7 (n + 1) c7, .int .i64 (last + 1)], .int .i64 (last + 1), .int .i64 0]) (by simp [results, Tryz.results57, go_sem, c0, c1, hu, Act.put]) (by simp [Act.put]) ⟨_, rfl, ?_, ?_⟩
 all_goals first | exact rat_fin hn (hR9) | exact (below_drew hB3) | exact hB3
theorem putE_eq {L : List RN} {last : Int} (h : GoodL L last) (d : Int) (s : ByteArray) (kind : Int) (data : ByteArray) : putE (trOf L last) d s kind data = putRE L d s kind data := by
 unfold putE putRE
 rw [node_of h d]
 simp only [find_ents h d s, decide_eq_true_eq]
 rfl
theorem find_snoc (L : List RN) (x : RN) (n : Int) : (L ++ [x]).find? (fun r => r.f0 == n) = match L.find? (fun r => r.f0 == n) with | some r => some r | none => if x.f0 = n then some x else none := by
 rw [List.find?_append]
 cases L.find? (fun r => r.f0 == n) with
 | some r => rfl
 | none =>
  by_cases e : x.f0 = n
  · simp [List.find?_cons, e]
  · simp [List.find?_cons, e]
theorem at_snoc {L : List RN} {x : RN} {n : Int} (h : (atR L n).f3 ≠ 0) : atR (L ++ [x]) n = atR L n := by
 unfold atR at h ⊢
 rw [find_snoc]
 cases hf : L.find? (fun r => r.f0 == n) with
 | some r => rfl
 | none => rw [hf] at h; exact absurd rfl h
theorem fresh {L : List RN} {last : Int} (h : GoodL L last) {n : Int} (hn : last < n) : L.find? (fun r => r.f0 == n) = none := by
 rw [List.find?_eq_none]
 intro r hr e
 have := (h.num r hr).2
 have e : r.f0 = n := by simpa using e
 omega
theorem mayE_zero {kind : Int} {data : ByteArray} (h : mayE kind data = 0) : (kind = 1 ∨ kind = 2 ∨ kind = 3) ∧ data.size ≤ 65536 := by
 unfold mayE at h
 split at h
 · cases h
 ·
  split at h
  · cases h
  ·
   split at h
   · cases h
   ·
    rename_i h1 _ h3
    exact ⟨by omega, by omega⟩
theorem inR_none {L : List RN} {last d : Int} {s : ByteArray} (h : GoodL L last) (hn : ¬ 0 < inR L d s) : ∀ r ∈ L, r.f1 = d → r.f0 ≠ 1 → r.f2 ≠ s := by
 intro r hr h1 h2 h3
 apply hn
 unfold inR
 cases hf : L.find? (inQ d s) with
 | none =>
  have := List.find?_eq_none.1 hf r hr
  simp [inQ, h1, h2, h3] at this
 | some q =>
  have := (h.num q (List.mem_of_find?_eq_some hf)).1
  show 0 < q.f0
  omega
theorem GoodL.last1 {L : List RN} {last : Int} (h : GoodL L last) : 1 ≤ last := by
 obtain ⟨r, hr, h1, _⟩ := h.root
 have := (h.num r hr).2
 omega
theorem GoodL.put {L : List RN} {last : Int} (h : GoodL L last) {d : Int} {s : ByteArray} {kind : Int} {data : ByteArray} (he : putRE L d s kind data = 0) : GoodL (L ++ [⟨last + 1, d, s, kind, data⟩]) (last + 1) := by
 obtain ⟨z1, z2, z3, z4, z5⟩ := putRE_zero he
 have hk := dirE_zero z1
 have hla := h.last1
 refine ⟨by simp; omega, ?_, ?_, ?_, ?_, ?_, ?_⟩
 ·
  intro r hr
  rcases List.mem_append.1 hr with hr | hr
  · have := h.num r hr; omega
  ·
   have : r = _ := List.mem_singleton.1 hr
   subst this
   exact ⟨by show 1 ≤ last + 1; omega, Int.le_refl _⟩
 ·
  rw [List.pairwise_append]
  refine ⟨h.uniq, List.pairwise_singleton _ _, ?_⟩
  intro a ha b hb
  have : b = _ := List.mem_singleton.1 hb
  subst this
  have := (h.num a ha).2
  show a.f0 ≠ last + 1
  omega
 ·
  rw [List.pairwise_append]
  refine ⟨h.names, List.pairwise_singleton _ _, ?_⟩
  intro a ha b hb
  have : b = _ := List.mem_singleton.1 hb
  subst this
  intro h1 h2 _
  exact inR_none h z3 a ha h1 h2
 ·
  intro r hr
  rcases List.mem_append.1 hr with hr | hr
  · exact h.data r hr
  ·
   have : r = _ := List.mem_singleton.1 hr
   subst this
   exact (mayE_zero z4).2
 ·
  intro r hr
  rcases List.mem_append.1 hr with hr | hr
  · rw [at_snoc (by rw [h.up r hr]; decide)]; exact h.up r hr
  ·
   have : r = _ := List.mem_singleton.1 hr
   subst this
   show (atR _ d).f3 = 1
   rw [at_snoc (by rw [hk]; decide)]; exact hk
 ·
  obtain ⟨r, hr, q⟩ := h.root
  exact ⟨r, List.mem_append_left _ hr, q⟩
theorem putT_eq {L : List RN} {last : Int} (h : GoodL L last) {d : Int} {s : ByteArray} {kind : Int} {data : ByteArray} (he : putRE L d s kind data = 0) :
  putT (trOf L last) d s kind data = trOf (L ++ [⟨last + 1, d, s, kind, data⟩]) (last + 1) := by
 obtain ⟨z1, z2, z3, z4, z5⟩ := putRE_zero he
 have hk := dirE_zero z1
 have hla := h.last1
 have hk0 : (atR L d).f3 ≠ 0 := by rw [hk]; decide
 obtain ⟨q, hq, hqd, hqe⟩ := at_kind hk0
 have hqn := (h.num q hq).2
 have hdl : d ≠ last + 1 := by omega
 have hnode := node_of h d
 have hf0 := fresh h (show last < last + 1 by omega)
 have hents : ∀ n, entsOf (L ++ [⟨last + 1, d, s, kind, data⟩]) n = if n = d then insE (entsOf L d) ⟨s, last + 1⟩ else entsOf L n := by
  intro n
  rw [entsOf_snoc]
  by_cases e : n = d
  ·
   subst e
   rw [if_pos (show isIn n ⟨last + 1, n, s, kind, data⟩ = true from isIn_iff.2 ⟨rfl, by show last + 1 ≠ 1; omega⟩), if_pos rfl]
  · rw [if_neg (fun hi => e (isIn_iff.1 hi).1.symm), if_neg e]
 unfold putT Tr.enter
 have hn2 : ((trOf L last).bump.set ((trOf L last).last + 1) ⟨kind, d, data, []⟩).node d = (trOf L last).node d := node_set_ne hdl
 rw [hn2, hnode]
 unfold Tr.set Tr.bump trOf
 simp only [Tr.mk.injEq]
 refine ⟨?_, ?_, by trivial⟩
 ·
  funext n
  rw [find_snoc]
  by_cases e : n = d
  ·
   subst e
   rw [if_pos rfl]
   have hfd : L.find? (fun r => r.f0 == n) = some q := by
    have := find_num h.uniq hq
    rw [hqd] at this
    exact this
   rw [hfd, hqe]
   simp only [Option.map_some, ndOf, hqd, hents, if_true]
  ·
   rw [if_neg e]
   by_cases e2 : n = last + 1
   ·
    subst e2
    rw [if_pos rfl, hf0]
    simp only [if_true, Option.map_some, ndOf, hents, if_neg e]
    rw [h.noEnts hf0]
   ·
    rw [if_neg e2]
    cases hf : L.find? (fun r => r.f0 == n) with
    | none =>
     simp only [Option.map_none]
     rw [if_neg (fun e3 => e2 e3.symm)]
     rfl
    | some r =>
     have hrn : r.f0 = n := by simpa using List.find?_some hf
     simp only [Option.map_some, ndOf, hents, hrn, if_neg e]
 ·
  simp only [hf0, Option.map_none, Option.isSome_none]
  have hfd : L.find? (fun r => r.f0 == d) = some q := by
   have := find_num h.uniq hq
   rw [hqd] at this
   exact this
  simp [hdl, hfd]
theorem good0 : GoodL [⟨1, 1, ⟨#[]⟩, 1, ⟨#[]⟩⟩] 1 := by
 refine ⟨by simp, by simp, List.pairwise_singleton _ _, List.pairwise_singleton _ _, (fun r hr => by rw [List.mem_singleton.1 hr]; exact Nat.zero_le _), (fun r hr => by rw [List.mem_singleton.1 hr]; rfl), ⟨_, List.mem_singleton.2 rfl, rfl, rfl, rfl⟩⟩
theorem T0_eq : T0 = trOf [⟨1, 1, ⟨#[]⟩, 1, ⟨#[]⟩⟩] 1 := by
 unfold T0 trOf
 simp only [Tr.mk.injEq]
 refine ⟨?_, by trivial, by trivial⟩
 funext n
 by_cases e : n = 1
 · subst e; rfl
 · rw [if_neg e, List.find?_cons, show ((1 : Int) == n) = false by simpa using (fun h => e h.symm)]; rfl
theorem TreeB.two {w : World} {p B : Nat} {T : Tr} (h : TreeB w p B T) : w.heap[p]? = some (.cells #[.map (some B), .int .i64 T.last] 156 (0, 0)) ∧ ∃ es clock, w.heap[B]? = some (.map es clock) := by
 obtain ⟨sv, D, h⟩ := h
 exact ⟨h.ptr, h.mapB⟩
theorem RAt.frm {w w' : World} {p B : Nat} {T : Tr} {v : Value} {L : List RN} {last : Int} (h : RAt w v L last) (hT : TreeB w p B T) (hf : Frm w w' p B) : RAt w' v L last := by
 obtain ⟨hp, es, clock, hB⟩ := hT.two
 obtain ⟨A, c, e1, e2, hC⟩ := h
 refine ⟨A, c, e1, e2, hC.1, hC.2.1, fun hn => ?_⟩
 obtain ⟨ad, eA, hc⟩ := hC.2.2 hn
 have key : ∀ (q : List Value) (x : RN) (j : Nat), k106.K w x q → (∀ i u, q[i]? = some u → w.cell? (ad.add (j * k106.sz + i)) = some u) → ad.block < w.heap.size ∧ ad.block ≠ p ∧ ad.block ≠ B := by
  intro q x j hK hq
  obtain rfl := k106_open hK
  have h0 := hq 2 _ rfl
  have hbl : (ad.add (j * k106.sz + 2)).block = ad.block := by unfold Addr.add; split <;> rfl
  generalize ad.add (j * k106.sz + 2) = a0 at h0 hbl
  refine ⟨?_, ?_, ?_⟩
  · rw [← hbl]; exact block_lt_of_cell h0
  ·
   intro e
   rw [e] at hbl
   obtain ⟨b, o, sp⟩ := a0
   subst hbl
   simp [World.cell?, hp] at h0
   cases sp with
   | none =>
    simp at h0
    match o, h0 with
    | 0, h0 => simp at h0
    | 1, h0 => simp at h0
    | n + 2, h0 => simp at h0
   | some q => simp at h0
  ·
   intro e
   rw [e] at hbl
   obtain ⟨b, o, sp⟩ := a0
   subst hbl
   simp [World.cell?, hB] at h0
 refine ⟨ad, eA, fun j q hj => ?_⟩
 obtain ⟨cs, hl, hK, hq⟩ := hc j q hj
 obtain ⟨k1, k2, k3⟩ := key cs q j hK hq
 refine ⟨cs, hl, ?_, fun i u hu => ?_⟩
 ·
  obtain rfl := k106_open hK
  exact k106_mk _ _
 ·
  have := hq i u hu
  have hbl : (ad.add (j * k106.sz + i)).block = ad.block := by unfold Addr.add; split <;> rfl
  rw [← this]
  generalize ad.add (j * k106.sz + i) = a at hbl
  unfold World.cell?
  rw [hbl, hf.block _ k1 k2 k3]
theorem cells_frm {w w' : World} {p B k : Nat} {T : Tr} {cs : Array Value} {t : TypeId} {fr : Nat × Nat} (h : w.heap[k]? = some (.cells cs t fr)) (ht : t ≠ 156) (hT : TreeB w p B T) (hf : Frm w w' p B) : w'.heap[k]? = some (.cells cs t fr) := by
 obtain ⟨hp, es, clock, hB⟩ := hT.two
 refine (hf.block k (Array.getElem?_eq_some_iff.1 h).1 ?_ ?_).trans h
 ·
  rintro rfl
  rw [hp] at h
  injection h with h
  injection h with _ h
  exact ht h.symm
 ·
  rintro rfl
  rw [hB] at h
  cases h
def putL (L : List RN) (last d : Int) (s : ByteArray) (kind : Int) (data : ByteArray) : List RN := if putRE L d s kind data = 0 then L ++ [⟨last + 1, d, s, kind, data⟩] else L
def putN (L : List RN) (last d : Int) (s : ByteArray) (kind : Int) (data : ByteArray) : Int := if putRE L d s kind data = 0 then last + 1 else last
def putA (L : List RN) (last d : Int) (s : ByteArray) (kind : Int) (data : ByteArray) : Int := if putRE L d s kind data = 0 then last + 1 else 0
theorem tput_calls (p B : Nat) (L : List RN) (last d : Int) (s : ByteArray) (kind : Int) (data : ByteArray) (w : World) (h : TreeB w p B (trOf L last)) (hG : GoodL L last) (hn : wf d) (hs : s.size < 4294967281) (hla : last < 1000000) :
  Calls Tryz.prog 56 #[pT p, .int .i64 d, .string s, .int .i64 kind, .string data] w fun e w' => e = .returned (.tuple #[.int .i64 (putA L last d s kind data), .int .i64 (putRE L d s kind data)]) ∧ TreeB w' p B (trOf (putL L last d s kind data) (putN L last d s kind data)) ∧ Frm w w' p B := by
 have hl : ((trOf L last).node d).ents.length < 4294967296 := by
  rw [node_of hG]
  have := ents_len L d
  have := hG.len
  show (entsOf L d).length < _
  omega
 have hR : Rt ((trOf L last).node d).ents := by rw [node_of hG]; exact hG.rt d
 have hq := putE_eq hG d s kind data
 by_cases he : putRE L d s kind data = 0
 ·
  refine (put_ok p B (trOf L last) d s kind data w h hn hl hR hs ⟨by have := hG.last1; show 0 ≤ last; omega, hla⟩ (by
   show ((L.find? _).map _) = none
   rw [show (trOf L last).last = last from rfl, fresh hG (show last < last + 1 by omega)]; rfl) (hq.trans he)).mono ?_
  rintro e w' ⟨rfl, hT, hf⟩
  rw [putT_eq hG he] at hT
  unfold putA putL putN
  rw [if_pos he, if_pos he, if_pos he, he]
  exact ⟨rfl, hT, hf⟩
 ·
  refine (put_err p B (trOf L last) d s kind data w h hn hl hR hs (by rw [hq]; exact he)).mono ?_
  rintro e w' ⟨rfl, hb⟩
  unfold putA putL putN
  rw [if_neg he, if_neg he, if_neg he, hq]
  exact ⟨rfl, h.below hb, Frm.ofBelow hb⟩
theorem rput_calls (L : List RN) (last d : Int) (v : Value) (s : ByteArray) (kind : Int) (data : ByteArray) (w : World) (h : RAt w v L last) (hG : GoodL L last) (hla : last < 1000000) :
  Calls Tryz.prog 57 #[v, .int .i64 d, .string s, .int .i64 kind, .string data] w fun e w' => ∃ v', e = .returned (.tuple #[v', .int .i64 (putA L last d s kind data), .int .i64 (putRE L d s kind data)]) ∧ RAt w' v' (putL L last d s kind data) (putN L last d s kind data) ∧ Below w.heap.size w w' := by
 by_cases he : putRE L d s kind data = 0
 ·
  refine (rput_ok L last v d s kind data w h ⟨by have := hG.last1; omega, hla⟩ he).mono ?_
  rintro e w' ⟨v', rfl, hT, hf⟩
  unfold putA putL putN
  rw [if_pos he, if_pos he, if_pos he, he]
  exact ⟨v', rfl, hT, hf⟩
 ·
  refine (rput_err L last v d s kind data w h (by have := hG.len; omega) he).mono ?_
  rintro e w' ⟨rfl, hb⟩
  unfold putA putL putN
  rw [if_neg he, if_neg he, if_neg he]
  exact ⟨v, rfl, h.below hb, hb⟩
theorem good_put {L : List RN} {last d : Int} {s : ByteArray} {kind : Int} {data : ByteArray} (hG : GoodL L last) : GoodL (putL L last d s kind data) (putN L last d s kind data) := by
 unfold putL putN
 by_cases he : putRE L d s kind data = 0
 · rw [if_pos he, if_pos he]; exact hG.put he
 · rw [if_neg he, if_neg he]; exact hG
abbrev MN := S93
def dirAt (nums : List Int) (x : MN) : Int := if 0 ≤ x.f0 ∧ x.f0 < (nums.length : Int) then nums.getD x.f0.toNat 0 else 1
structure MSt where
 L : List RN
 last : Int
 nums : List Int
def madeStep (st : MSt) (x : MN) : MSt :=
 ⟨putL st.L st.last (dirAt st.nums x) x.f1 x.f2 x.f3, putN st.L st.last (dirAt st.nums x) x.f1 x.f2 x.f3, st.nums ++ [putA st.L st.last (dirAt st.nums x) x.f1 x.f2 x.f3]⟩
def made0 : MSt := ⟨[⟨1, 1, ⟨#[]⟩, 1, ⟨#[]⟩⟩], 1, []⟩
def madeF (l : List MN) : MSt := l.foldl madeStep made0
structure MInv (st : MSt) (i : Nat) : Prop where
 good : GoodL st.L st.last
 len : st.nums.length = i
 last : st.last ≤ (i : Int) + 1
 nums : ∀ n ∈ st.nums, 0 ≤ n ∧ n ≤ st.last
theorem minv0 : MInv made0 0 := ⟨good0, rfl, by decide, by simp [made0]⟩
theorem dirAt_in {st : MSt} {i : Nat} (h : MInv st i) (x : MN) : 0 ≤ dirAt st.nums x ∧ dirAt st.nums x ≤ st.last := by
 unfold dirAt
 have h1 := h.good.last1
 split
 ·
  rename_i hx
  have hlt : x.f0.toNat < st.nums.length := by omega
  rw [List.getD_eq_getElem?_getD, List.getElem?_eq_getElem hlt]
  exact h.nums _ (List.getElem_mem hlt)
 · omega
theorem minv_step {st : MSt} {i : Nat} (h : MInv st i) (x : MN) : MInv (madeStep st x) (i + 1) := by
 have h1 := h.good.last1
 have h2 := h.last
 have hle : st.last ≤ (madeStep st x).last ∧ (madeStep st x).last ≤ st.last + 1 := by
  show st.last ≤ putN _ _ _ _ _ _ ∧ putN _ _ _ _ _ _ ≤ st.last + 1
  unfold putN
  split <;> omega
 refine ⟨good_put h.good, by show (st.nums ++ [_]).length = i + 1; rw [List.length_append, h.len]; rfl, by omega, ?_⟩
 intro n hn
 rcases List.mem_append.1 hn with hn | hn
 · have := h.nums n hn; omega
 ·
  have hn := List.mem_singleton.1 hn
  subst hn
  have : (madeStep st x).last = putN st.L st.last (dirAt st.nums x) x.f1 x.f2 x.f3 := rfl
  rw [this] at hle ⊢
  revert hle
  unfold putN putA
  split <;> omega
structure GoodM (L : List RN) : Prop where
 nm : ∀ r ∈ L, r.f0 ≠ 1 → Sp.check r.f2.data.toList = 0
 link : ∀ r ∈ L, r.f3 = 3 → 0 < r.f4.size
 kind : ∀ r ∈ L, 1 ≤ r.f3 ∧ r.f3 ≤ 3
 dirs : ∀ r ∈ L, r.f3 = 1 → r.f4.size = 0
 rank : ∃ d : Int → Nat, (∀ n, d n ≤ L.length) ∧ ∀ r ∈ L, r.f0 ≠ 1 → d r.f1 < d r.f0
theorem mayE_more {kind : Int} {data : ByteArray} (h : mayE kind data = 0) : (1 ≤ kind ∧ kind ≤ 3) ∧ (kind = 3 → 0 < data.size) ∧ (kind = 1 → data.size = 0) := by
 unfold mayE at h
 split at h
 · cases h
 ·
  split at h
  · cases h
  ·
   rename_i h1 h2
   exact ⟨by omega, by omega, by omega⟩
theorem GoodM.put {L : List RN} {last : Int} (hG : GoodL L last) (h : GoodM L) {d : Int} {s : ByteArray} {kind : Int} {data : ByteArray} (he : putRE L d s kind data = 0) : GoodM (L ++ [⟨last + 1, d, s, kind, data⟩]) := by
 obtain ⟨z1, z2, z3, z4, z5⟩ := putRE_zero he
 have hk := dirE_zero z1
 have hm := mayE_more z4
 have old : ∀ n, (atR L n).f3 = 1 → n ≤ last := by
  intro n hn
  obtain ⟨q, hq, hqn, _⟩ := at_kind (L := L) (n := n) (by rw [hn]; decide)
  have := (hG.num q hq).2
  omega
 refine ⟨?_, ?_, ?_, ?_, ?_⟩
 ·
  intro r hr h1
  rcases List.mem_append.1 hr with hr | hr
  · exact h.nm r hr h1
  ·
   have : r = _ := List.mem_singleton.1 hr
   subst this
   exact z2
 ·
  intro r hr h1
  rcases List.mem_append.1 hr with hr | hr
  · exact h.link r hr h1
  ·
   have : r = _ := List.mem_singleton.1 hr
   subst this
   exact hm.2.1 h1
 ·
  intro r hr
  rcases List.mem_append.1 hr with hr | hr
  · exact h.kind r hr
  ·
   have : r = _ := List.mem_singleton.1 hr
   subst this
   exact hm.1
 ·
  intro r hr h1
  rcases List.mem_append.1 hr with hr | hr
  · exact h.dirs r hr h1
  ·
   have : r = _ := List.mem_singleton.1 hr
   subst this
   exact hm.2.2 h1
 ·
  obtain ⟨rk, hb, hd⟩ := h.rank
  refine ⟨fun n => if n = last + 1 then rk d + 1 else rk n, fun n => ?_, ?_⟩
  ·
   have h1 := hb n
   have h2 := hb d
   simp only [List.length_append, List.length_singleton]
   split <;> omega
  ·
   intro r hr h1
   rcases List.mem_append.1 hr with hr | hr
   ·
    have h2 := (hG.num r hr).2
    have h3 := old r.f1 (hG.up r hr)
    simp only []
    rw [if_neg (by omega), if_neg (by omega)]
    exact hd r hr h1
   ·
    have : r = _ := List.mem_singleton.1 hr
    subst this
    have h3 := old d hk
    simp only []
    rw [if_neg (by omega), if_pos trivial]
    omega
theorem goodM0 : GoodM [⟨1, 1, ⟨#[]⟩, 1, ⟨#[]⟩⟩] := by
 refine ⟨fun r hr h => ?_, fun r hr h => ?_, fun r hr => ?_, fun r hr h => ?_, ⟨fun _ => 0, fun _ => Nat.zero_le _, fun r hr h => ?_⟩⟩ <;> rw [List.mem_singleton.1 hr] at *
 · exact absurd rfl h
 · cases h
 · decide
 · rfl
 · exact absurd rfl h
theorem goodM_put {L : List RN} {last d : Int} {s : ByteArray} {kind : Int} {data : ByteArray} (hG : GoodL L last) (h : GoodM L) : GoodM (putL L last d s kind data) := by
 unfold putL
 by_cases he : putRE L d s kind data = 0
 · rw [if_pos he]; exact h.put hG he
 · rw [if_neg he]; exact h
theorem fold_good : ∀ (l : List MN) (st : MSt) (i : Nat), MInv st i → GoodM st.L → MInv (l.foldl madeStep st) (i + l.length) ∧ GoodM (l.foldl madeStep st).L
 | [], st, i, h, m => ⟨h, m⟩
 | x :: l, st, i, h, m => by
  have := fold_good l (madeStep st x) (i + 1) (minv_step h x) (goodM_put h.good m)
  rw [List.foldl_cons, List.length_cons, show i + (l.length + 1) = i + 1 + l.length by omega]
  exact this
theorem made_good (l : List MN) : GoodL (madeF l).L (madeF l).last ∧ GoodM (madeF l).L ∧ (madeF l).last ≤ (l.length : Int) + 1 ∧ (madeF l).L.length ≤ l.length + 1 := by
 have h := fold_good l made0 0 minv0 goodM0
 rw [Nat.zero_add] at h
 refine ⟨h.1.good, h.2, h.1.last, ?_⟩
 have key : ∀ (l : List MN) (st : MSt), (l.foldl madeStep st).L.length ≤ st.L.length + l.length := by
  intro l
  induction l with
  | nil => intro st; simp
  | cons x l ih =>
   intro st
   have h1 := ih (madeStep st x)
   have h2 : (madeStep st x).L.length ≤ st.L.length + 1 := by
    show (putL _ _ _ _ _ _).length ≤ _
    unfold putL
    split <;> simp
   simp only [List.foldl_cons, List.length_cons]
   omega
 have := key l made0
 have h0 : made0.L.length = 1 := rfl
 unfold madeF
 omega
theorem inR_le {L : List RN} {last : Int} (h : GoodL L last) (d : Int) (s : ByteArray) : 0 ≤ inR L d s ∧ inR L d s ≤ last := by
 unfold inR
 cases hf : L.find? (inQ d s) with
 | none => have := h.last1; exact ⟨Int.le_refl _, by show (0 : Int) ≤ last; omega⟩
 | some r =>
  have := h.num r (List.mem_of_find?_eq_some hf)
  show 0 ≤ r.f0 ∧ r.f0 ≤ last
  omega
theorem inR_mem {L : List RN} {last : Int} (h : GoodL L last) {d : Int} {s : ByteArray} (hn : inR L d s ≠ 0) : ∃ r ∈ L, r.f0 = inR L d s ∧ r.f1 = d ∧ r.f2 = s ∧ r.f0 ≠ 1 ∧ atR L (inR L d s) = r := by
 unfold inR at hn ⊢
 cases hf : L.find? (inQ d s) with
 | none => rw [hf] at hn; exact absurd rfl hn
 | some r =>
  have hr := List.mem_of_find?_eq_some hf
  have hq := List.find?_some hf
  simp only [inQ, Bool.and_eq_true, beq_iff_eq, Bool.not_eq_true', beq_eq_false_iff_ne, toL_inj] at hq
  exact ⟨r, hr, rfl, hq.1, hq.2.1, hq.2.2, at_mem h hr⟩
theorem downT_of {L : List RN} {last : Int} (h : GoodL L last) (a : Int) (s : ByteArray) :
  downT (trOf L last) a s = if Sp.check s.data.toList = 0 then (if inR L a s = 0 then (0, 5) else (inR L a s, 0)) else (0, Sp.check s.data.toList) := by
 have h1 := inR_le h a s
 unfold downT
 rw [node_of h a]
 simp only [find_ents h a s, decide_eq_true_eq]
 by_cases h0 : inR L a s = 0
 · rw [if_neg (show ¬ 0 < inR L a s by omega), if_pos h0]
 · rw [if_pos (show 0 < inR L a s by omega), if_neg h0]
theorem rt_ext : ∀ {a b : List En}, Rt a → Rt b → (∀ e, e ∈ a ↔ e ∈ b) → a = b
 | [], [], _, _, _ => rfl
 | [], y :: b, _, _, h => absurd ((h y).2 List.mem_cons_self) (by simp)
 | x :: a, [], _, _, h => absurd ((h x).1 List.mem_cons_self) (by simp)
 | x :: a, y :: b, ha, hb, h => by
  obtain ⟨a1, a2⟩ := List.pairwise_cons.1 ha
  obtain ⟨b1, b2⟩ := List.pairwise_cons.1 hb
  have hxy : x = y := by
   rcases List.mem_cons.1 ((h x).1 List.mem_cons_self) with e | e
   · exact e
   ·
    rcases List.mem_cons.1 ((h y).2 List.mem_cons_self) with e2 | e2
    · exact e2.symm
    ·
     have h1 := b1 x e
     have h2 := a1 y e2
     rw [bl_asym h1] at h2
     cases h2
  subst hxy
  rw [rt_ext a2 b2 (fun e => ⟨fun he => ?_, fun he => ?_⟩)]
  ·
   rcases List.mem_cons.1 ((h e).1 (List.mem_cons_of_mem _ he)) with rfl | h3
   · have := a1 e he; rw [bl_irr] at this; cases this
   · exact h3
  ·
   rcases List.mem_cons.1 ((h e).2 (List.mem_cons_of_mem _ he)) with rfl | h3
   · have := b1 e he; rw [bl_irr] at this; cases this
   · exact h3
theorem cutEn_mem {l : List En} {s : ByteArray} {e : En} : e ∈ cutEn l s ↔ e ∈ l ∧ e.f0 ≠ s := by
 unfold cutEn
 rw [List.mem_filter]
 simp [toL_inj]
theorem cutEn_rt {l : List En} (h : Rt l) (s : ByteArray) : Rt (cutEn l s) := h.filter _
theorem cutEn_len (l : List En) (s : ByteArray) : (cutEn l s).length ≤ l.length := List.length_filter_le _ _
theorem findE_some {l : List En} {s : ByteArray} {e : En} (he : e ∈ l) (hs : e.f0 = s) : (findE l s).2 = true := by
 unfold findE
 cases hq : l.find? (fun e => e.f0.toList == s.toList) with
 | none => exact absurd (List.find?_eq_none.1 hq e he) (by simp [hs])
 | some q => rfl
theorem findE_nil' {l : List En} {s : ByteArray} (h : ∀ e ∈ l, e.f0 ≠ s) : (findE l s).2 = false := by
 unfold findE
 cases hq : l.find? (fun e => e.f0.toList == s.toList) with
 | none => rfl
 | some q => exact absurd (toL_inj.1 (by simpa using List.find?_some hq)) (h q (List.mem_of_find?_eq_some hq))
theorem Tr.ext {T U : Tr} (h1 : ∀ n, T.get n = U.get n) (h2 : T.cnt = U.cnt) (h3 : T.last = U.last) : T = U := by
 obtain ⟨g, c, l⟩ := T
 obtain ⟨g', c', l'⟩ := U
 simp only [Tr.mk.injEq]
 exact ⟨funext h1, h2, h3⟩
def cutL (L : List RN) (n : Int) : List RN := L.filter (fun r => !(r.f0 == n))
def withL (L : List RN) (x : RN) : List RN := L.map (fun r => if r.f0 = x.f0 then x else r)
theorem cutL_mem {L : List RN} {n : Int} {r : RN} : r ∈ cutL L n ↔ r ∈ L ∧ r.f0 ≠ n := by unfold cutL; rw [List.mem_filter]; simp
theorem cutL_find (L : List RN) (n m : Int) : (cutL L n).find? (fun r => r.f0 == m) = if m = n then none else L.find? (fun r => r.f0 == m) := by
 induction L with
 | nil => simp [cutL]
 | cons a L ih =>
  unfold cutL at ih ⊢
  rw [List.filter_cons]
  by_cases h : a.f0 = n
  ·
   rw [show (!(a.f0 == n)) = false by simp [h], if_neg (by simp), ih]
   by_cases e : m = n
   · rw [if_pos e, if_pos e]
   · rw [if_neg e, if_neg e, List.find?_cons, show (a.f0 == m) = false by rw [h]; simpa using fun e2 => e e2.symm]
  ·
   rw [show (!(a.f0 == n)) = true by simp [h], if_pos rfl, List.find?_cons, List.find?_cons, ih]
   by_cases e2 : a.f0 = m
   ·
    have hmn : ¬ m = n := by rw [← e2]; exact h
    rw [show (a.f0 == m) = true by simp [e2]]
    simp only [hmn, if_false]
   · rw [show (a.f0 == m) = false by simp [e2]]
theorem cutL_at {L : List RN} {n m : Int} (h : m ≠ n) : atR (cutL L n) m = atR L m := by unfold atR; rw [cutL_find, if_neg h]
theorem cutL_len {L : List RN} {n : Int} (hu : L.Pairwise (fun a b => a.f0 ≠ b.f0)) (hn : ∃ r ∈ L, r.f0 = n) : (cutL L n).length + 1 = L.length := by
 induction L with
 | nil => obtain ⟨r, hr, _⟩ := hn; cases hr
 | cons a L ih =>
  obtain ⟨h1, h2⟩ := List.pairwise_cons.1 hu
  unfold cutL at ih ⊢
  rw [List.filter_cons]
  by_cases h : a.f0 = n
  ·
   rw [show (!(a.f0 == n)) = false by simp [h], if_neg (by simp)]
   have : L.filter (fun r => !(r.f0 == n)) = L := by
    rw [List.filter_eq_self]
    intro r hr
    have := h1 r hr
    rw [h] at this
    simpa using fun e => this e.symm
   rw [this, List.length_cons]
  ·
   rw [show (!(a.f0 == n)) = true by simp [h], if_pos rfl, List.length_cons, List.length_cons]
   obtain ⟨r, hr, hrn⟩ := hn
   rcases List.mem_cons.1 hr with rfl | hr
   · exact absurd hrn h
   · rw [ih h2 ⟨r, hr, hrn⟩]
theorem withL_f0 (x r : RN) : (if r.f0 = x.f0 then x else r).f0 = r.f0 := by
 split
 · rename_i h; exact h.symm
 · rfl
theorem withL_find (L : List RN) (x : RN) (m : Int) : (withL L x).find? (fun r => r.f0 == m) = (L.find? (fun r => r.f0 == m)).map (fun r => if r.f0 = x.f0 then x else r) := by
 unfold withL
 rw [List.find?_map]
 congr 1
 congr 1
 funext r
 show ((if r.f0 = x.f0 then x else r).f0 == m) = _
 rw [withL_f0]
theorem withL_mem {L : List RN} {x r : RN} (h : r ∈ withL L x) : r = x ∨ (r ∈ L ∧ r.f0 ≠ x.f0) := by
 unfold withL at h
 obtain ⟨q, hq, rfl⟩ := List.mem_map.1 h
 by_cases e : q.f0 = x.f0
 · rw [if_pos e]; exact .inl rfl
 · rw [if_neg e]; exact .inr ⟨hq, e⟩
theorem withL_mem1 {L : List RN} {x r : RN} (h : r ∈ L) (hn : r.f0 ≠ x.f0) : r ∈ withL L x := List.mem_map.2 ⟨r, h, by rw [if_neg hn]⟩
theorem withL_mem2 {L : List RN} {x r : RN} (h : r ∈ L) (hn : r.f0 = x.f0) : x ∈ withL L x := List.mem_map.2 ⟨r, h, by rw [if_pos hn]⟩
theorem withL_len (L : List RN) (x : RN) : (withL L x).length = L.length := List.length_map _
theorem withL_at1 {L : List RN} {x : RN} (h : ∃ r ∈ L, r.f0 = x.f0) : atR (withL L x) x.f0 = x := by
 unfold atR
 rw [withL_find]
 obtain ⟨r, hr, hrx⟩ := h
 cases hf : L.find? (fun r => r.f0 == x.f0) with
 | none => exact absurd (List.find?_eq_none.1 hf r hr) (by simp [hrx])
 | some q =>
  have : q.f0 = x.f0 := by simpa using List.find?_some hf
  simp [this]
theorem withL_at2 {L : List RN} {x : RN} {m : Int} (h : m ≠ x.f0) : atR (withL L x) m = atR L m := by
 unfold atR
 rw [withL_find]
 cases hf : L.find? (fun r => r.f0 == m) with
 | none => rfl
 | some q =>
  have : q.f0 = m := by simpa using List.find?_some hf
  simp [this, h]
theorem withL_kind {L : List RN} {x : RN} (hk : (atR L x.f0).f3 = x.f3) (h : ∃ r ∈ L, r.f0 = x.f0) (m : Int) : (atR (withL L x) m).f3 = (atR L m).f3 := by
 by_cases e : m = x.f0
 · subst e; rw [withL_at1 h, hk]
 · rw [withL_at2 e]
theorem GoodL.root_at {L : List RN} {last : Int} (h : GoodL L last) : (atR L 1).f3 = 1 ∧ (atR L 1).f1 = 1 := by
 obtain ⟨r, hr, h1, h2, h3⟩ := h.root
 have := at_mem h hr
 rw [h1] at this
 rw [this]
 exact ⟨h3, h2⟩
theorem GoodL.cut {L : List RN} {last : Int} (h : GoodL L last) {n : Int} (hn1 : n ≠ 1) (hne : entsOf L n = []) : GoodL (cutL L n) last := by
 refine ⟨Nat.le_trans (List.length_filter_le _ _) h.len, fun r hr => h.num r (cutL_mem.1 hr).1, h.uniq.filter _, h.names.filter _, fun r hr => h.data r (cutL_mem.1 hr).1, fun r hr => ?_, ?_⟩
 ·
  obtain ⟨h1, h2⟩ := cutL_mem.1 hr
  have hu := h.up r h1
  rw [cutL_at ?_]
  · exact hu
  ·
   intro e
   by_cases h3 : r.f0 = 1
   ·
    have h4 := at_mem h h1
    rw [h3] at h4
    have := h.root_at.2
    rw [h4, e] at this
    exact hn1 this
   ·
    have hm : (⟨r.f2, r.f0⟩ : En) ∈ entsOf L n := mem_ents.2 ⟨r, h1, isIn_iff.2 ⟨e, h3⟩, rfl⟩
    rw [hne] at hm
    cases hm
 ·
  obtain ⟨r, hr, h1, h2⟩ := h.root
  exact ⟨r, cutL_mem.2 ⟨hr, by rw [h1]; exact fun e => hn1 e.symm⟩, h1, h2⟩
theorem rank_norm {L : List RN} {last : Int} (h : GoodL L last) {d : Int → Nat} (hd : ∀ r ∈ L, r.f0 ≠ 1 → d r.f1 < d r.f0) :
  ∃ d : Int → Nat, (∀ n, d n ≤ L.length) ∧ ∀ r ∈ L, r.f0 ≠ 1 → d r.f1 < d r.f0 := by
 refine ⟨fun n => (L.filter (fun r => decide (d r.f0 < d n))).length, fun n => List.length_filter_le _ _, fun r hr h1 => ?_⟩
 obtain ⟨q, hq, hqn, _⟩ := at_kind (L := L) (n := r.f1) (by rw [h.up r hr]; decide)
 have hlt := hd r hr h1
 have key : ∀ M : List RN, (M.filter (fun x => decide (d x.f0 < d r.f1))).length ≤ (M.filter (fun x => decide (d x.f0 < d r.f0))).length ∧ (q ∈ M → (M.filter (fun x => decide (d x.f0 < d r.f1))).length < (M.filter (fun x => decide (d x.f0 < d r.f0))).length) := by
  intro M
  induction M with
  | nil => exact ⟨Nat.le_refl _, fun h => by cases h⟩
  | cons a M ih =>
   obtain ⟨i1, i2⟩ := ih
   rw [List.filter_cons, List.filter_cons]
   by_cases c1 : d a.f0 < d r.f1
   ·
    have c2 : d a.f0 < d r.f0 := Nat.lt_trans c1 hlt
    rw [decide_eq_true c1, decide_eq_true c2, if_pos rfl, if_pos rfl, List.length_cons, List.length_cons]
    refine ⟨by omega, fun hm => ?_⟩
    rcases List.mem_cons.1 hm with rfl | hm
    · rw [hqn] at c1; omega
    · have := i2 hm; omega
   ·
    rw [decide_eq_false c1, if_neg (by simp)]
    by_cases c2 : d a.f0 < d r.f0
    ·
     rw [decide_eq_true c2, if_pos rfl, List.length_cons]
     exact ⟨by omega, fun _ => by omega⟩
    ·
     rw [decide_eq_false c2, if_neg (by simp)]
     refine ⟨i1, fun hm => ?_⟩
     rcases List.mem_cons.1 hm with rfl | hm
     · rw [hqn] at c2; exact absurd hlt c2
     · exact i2 hm
 exact (key L).2 hq
theorem GoodM.cut {L : List RN} {last : Int} (h : GoodL L last) (hM : GoodM L) {n : Int} (hn1 : n ≠ 1) (hne : entsOf L n = []) : GoodM (cutL L n) := by
 obtain ⟨d, -, hd⟩ := hM.rank
 exact ⟨fun r hr => hM.nm r (cutL_mem.1 hr).1, fun r hr => hM.link r (cutL_mem.1 hr).1, fun r hr => hM.kind r (cutL_mem.1 hr).1, fun r hr => hM.dirs r (cutL_mem.1 hr).1, rank_norm (h.cut hn1 hne) (fun r hr => hd r (cutL_mem.1 hr).1)⟩
theorem GoodL.with {L : List RN} {last : Int} (h : GoodL L last) {x : RN} (hx1 : x.f0 ≠ 1) (hmem : ∃ r ∈ L, r.f0 = x.f0) (hk : (atR L x.f0).f3 = x.f3) (hdata : x.f4.size ≤ 65536) (hup : (atR L x.f1).f3 = 1)
  (hnm : ∀ r ∈ L, r.f0 ≠ x.f0 → r.f1 = x.f1 → r.f0 ≠ 1 → r.f2 ≠ x.f2) : GoodL (withL L x) last := by
 refine ⟨by rw [withL_len]; exact h.len, fun r hr => ?_, ?_, ?_, fun r hr => ?_, fun r hr => ?_, ?_⟩
 ·
  rcases withL_mem hr with rfl | hr
  ·
   obtain ⟨q, hq, hqn⟩ := hmem
   rw [← hqn]
   exact h.num q hq
  · exact h.num r hr.1
 ·
  unfold withL
  rw [List.pairwise_map]
  refine h.uniq.imp (fun {a b} hab => ?_)
  rw [withL_f0, withL_f0]
  exact hab
 ·
  unfold withL
  rw [List.pairwise_map]
  refine (h.uniq.and h.names).imp_of_mem (fun {a b} ha hb hab => ?_)
  intro h1 h2 h3
  rw [withL_f0] at h2 h3
  by_cases ea : a.f0 = x.f0
  ·
   have eb : ¬ b.f0 = x.f0 := fun e => hab.1 (ea.trans e.symm)
   rw [if_pos ea, if_neg eb] at h1 ⊢
   exact (hnm b hb eb h1.symm h3).symm
  ·
   by_cases eb : b.f0 = x.f0
   ·
    rw [if_neg ea, if_pos eb] at h1 ⊢
    exact hnm a ha ea h1 h2
   ·
    rw [if_neg ea, if_neg eb] at h1 ⊢
    exact hab.2 h1 h2 h3
 ·
  rcases withL_mem hr with rfl | hr
  · exact hdata
  · exact h.data r hr.1
 ·
  rw [withL_kind hk hmem]
  rcases withL_mem hr with rfl | hr
  · exact hup
  · exact h.up r hr.1
 ·
  obtain ⟨r, hr, h1, h2⟩ := h.root
  exact ⟨r, withL_mem1 hr (by rw [h1]; exact fun e => hx1 e.symm), h1, h2⟩
theorem GoodM.with {L : List RN} {last : Int} {x : RN} (hG : GoodL (withL L x) last) (hM : GoodM L) (hn : Sp.check x.f2.data.toList = 0) (hl : x.f3 = 3 → 0 < x.f4.size) (hk : 1 ≤ x.f3 ∧ x.f3 ≤ 3) (hd : x.f3 = 1 → x.f4.size = 0)
  (hr : ∃ d : Int → Nat, ∀ r ∈ withL L x, r.f0 ≠ 1 → d r.f1 < d r.f0) : GoodM (withL L x) := by
 obtain ⟨d, hd'⟩ := hr
 refine ⟨fun r hr h1 => ?_, fun r hr h1 => ?_, fun r hr => ?_, fun r hr h1 => ?_, rank_norm hG hd'⟩
 ·
  rcases withL_mem hr with rfl | hr
  · exact hn
  · exact hM.nm r hr.1 h1
 ·
  rcases withL_mem hr with rfl | hr
  · exact hl h1
  · exact hM.link r hr.1 h1
 ·
  rcases withL_mem hr with rfl | hr
  · exact hk
  · exact hM.kind r hr.1
 ·
  rcases withL_mem hr with rfl | hr
  · exact hd h1
  · exact hM.dirs r hr.1 h1
def cutRE (L : List RN) (d : Int) (s : ByteArray) : Int :=
 if dirE (atR L d).f3 ≠ 0 then dirE (atR L d).f3 else if inR L d s = 0 then 5 else if 0 < (entsOf L (inR L d s)).length then 9 else 0
theorem in_dec {L : List RN} {last : Int} (h : GoodL L last) (d : Int) (s : ByteArray) : (decide (0 < inR L d s) = false) = (inR L d s = 0) := by
 have := (inR_le h d s).1
 rw [decide_eq_false_iff_not]
 exact propext ⟨fun e => by omega, fun e => by omega⟩
theorem cutE_eq {L : List RN} {last : Int} (h : GoodL L last) (d : Int) (s : ByteArray) : cutE (trOf L last) d s = cutRE L d s := by
 unfold cutE cutRE
 rw [node_of h d]
 simp only [find_ents h d s]
 rw [node_of h (inR L d s)]
 simp only [in_dec h]
theorem cutRE_zero {L : List RN} {d : Int} {s : ByteArray} (h : cutRE L d s = 0) : (atR L d).f3 = 1 ∧ inR L d s ≠ 0 ∧ entsOf L (inR L d s) = [] := by
 unfold cutRE at h
 split at h
 · rename_i g; exact absurd h g
 ·
  rename_i g1
  split at h
  · cases h
  ·
   rename_i g2
   split at h
   · cases h
   ·
    rename_i g3
    exact ⟨dirE_zero (Decidable.byContradiction fun e => g1 e), g2, List.eq_nil_of_length_eq_zero (by omega)⟩
theorem find_of {L : List RN} {last : Int} (h : GoodL L last) {r : RN} (hr : r ∈ L) : L.find? (fun q => q.f0 == r.f0) = some r := find_num h.uniq hr
theorem ents_cut {L : List RN} {last : Int} (h : GoodL L last) {r : RN} (hr : r ∈ L) (h1 : r.f0 ≠ 1) (hne : entsOf L r.f0 = []) (m : Int) : entsOf (cutL L r.f0) m = if m = r.f1 then cutEn (entsOf L r.f1) r.f2 else entsOf L m := by
 have hrt := (h.cut h1 hne).rt m
 by_cases e : m = r.f1
 ·
  subst e
  rw [if_pos rfl]
  refine rt_ext hrt (cutEn_rt (h.rt _) _) (fun x => ?_)
  rw [cutEn_mem, mem_ents, mem_ents]
  constructor
  ·
   rintro ⟨q, hq, hi, rfl⟩
   obtain ⟨q1, q2⟩ := cutL_mem.1 hq
   refine ⟨⟨q, q1, hi, rfl⟩, fun e => ?_⟩
   obtain ⟨i1, i2⟩ := isIn_iff.1 hi
   have hin := find_ents h r.f1 r.f2
   have hA : (⟨q.f2, q.f0⟩ : En) ∈ entsOf L r.f1 := mem_ents.2 ⟨q, q1, hi, rfl⟩
   have hB : (⟨r.f2, r.f0⟩ : En) ∈ entsOf L r.f1 := mem_ents.2 ⟨r, hr, isIn_iff.2 ⟨rfl, h1⟩, rfl⟩
   have hpw := h.names
   have := List.pairwise_iff_getElem.1 hpw
   obtain ⟨i, hi', rfl⟩ := List.mem_iff_getElem.1 q1
   obtain ⟨j, hj, rfl⟩ := List.mem_iff_getElem.1 hr
   rcases Nat.lt_trichotomy i j with c | c | c
   · exact this i j hi' hj c i1 i2 h1 e
   · subst c; exact q2 rfl
   · exact this j i hj hi' c i1.symm h1 i2 e.symm
  ·
   rintro ⟨⟨q, q1, hi, rfl⟩, hn⟩
   refine ⟨q, cutL_mem.2 ⟨q1, fun e => ?_⟩, hi, rfl⟩
   have e1 := find_of h q1
   have e2 := find_of h hr
   rw [e] at e1
   rw [e1] at e2
   have := Option.some.inj e2
   rw [this] at hn
   exact hn rfl
 ·
  rw [if_neg e]
  refine rt_ext hrt (h.rt _) (fun x => ?_)
  rw [mem_ents, mem_ents]
  constructor
  ·
   rintro ⟨q, hq, hi, rfl⟩
   exact ⟨q, (cutL_mem.1 hq).1, hi, rfl⟩
  ·
   rintro ⟨q, q1, hi, rfl⟩
   refine ⟨q, cutL_mem.2 ⟨q1, fun e2 => ?_⟩, hi, rfl⟩
   have e1 := find_of h q1
   have e3 := find_of h hr
   rw [e2] at e1
   rw [e1] at e3
   have := Option.some.inj e3
   rw [this] at hi
   exact e (isIn_iff.1 hi).1.symm
theorem tr_get {L : List RN} {last : Int} (m : Int) : (trOf L last).get m = (L.find? (fun r => r.f0 == m)).map (ndOf L) := rfl
theorem tr_get_live {L : List RN} {last : Int} (h : GoodL L last) {m : Int} (hk : (atR L m).f3 ≠ 0) : (trOf L last).get m = some ((trOf L last).node m) := by
 unfold Tr.node
 obtain ⟨q, hq, hqm, _⟩ := at_kind hk
 have := find_of h hq
 rw [hqm] at this
 rw [tr_get, this]
 rfl
theorem live_ents {L : List RN} {last : Int} (h : GoodL L last) {r : RN} (hr : r ∈ L) (h1 : r.f0 ≠ 1) : entsOf L r.f1 ≠ [] := by
 intro e
 have hm : (⟨r.f2, r.f0⟩ : En) ∈ entsOf L r.f1 := mem_ents.2 ⟨r, hr, isIn_iff.2 ⟨rfl, h1⟩, rfl⟩
 rw [e] at hm
 cases hm
theorem cutT_eq {L : List RN} {last : Int} (h : GoodL L last) {d : Int} {s : ByteArray} (he : cutRE L d s = 0) : cutT (trOf L last) d s = trOf (cutL L (inR L d s)) last := by
 obtain ⟨z1, z2, z3⟩ := cutRE_zero he
 obtain ⟨r, hr, hrn, hrd, hrs, hr1, _⟩ := inR_mem h z2
 unfold cutT
 rw [node_of h d]
 simp only [find_ents h d s]
 rw [← hrn] at z3 ⊢
 subst hrd hrs
 have hdn : r.f1 ≠ r.f0 := fun e => live_ents h hr hr1 (by rw [e]; exact z3)
 have hlive : (trOf L last).get r.f1 = some ((trOf L last).node r.f1) := tr_get_live h (by rw [z1]; decide)
 have hgr : (trOf L last).get r.f0 = some (ndOf L r) := by rw [tr_get, find_of h hr]; rfl
 have hents := ents_cut h hr hr1 z3
 refine Tr.ext (fun m => ?_) ?_ rfl
 ·
  show (if m = r.f1 then some { ((trOf L last).del r.f0).node r.f1 with ents := cutEn (entsOf L r.f1) r.f2 } else (if m = r.f0 then none else (trOf L last).get m)) = _
  rw [node_del_ne hdn, tr_get (L := cutL L r.f0), cutL_find]
  by_cases e : m = r.f1
  ·
   subst e
   rw [if_pos rfl, if_neg hdn, node_of h]
   obtain ⟨q, hq, hqm, hqa⟩ := at_kind (L := L) (n := r.f1) (by rw [z1]; decide)
   have := find_of h hq
   rw [hqm] at this
   rw [this, hqa]
   simp only [Option.map_some, ndOf, hqm, hents, if_true]
  ·
   rw [if_neg e]
   by_cases e2 : m = r.f0
   · rw [if_pos e2, if_pos e2]; rfl
   ·
    rw [if_neg e2, if_neg e2, tr_get]
    cases hf : L.find? (fun r => r.f0 == m) with
    | none => rfl
    | some q =>
     have hqm : q.f0 = m := by simpa using List.find?_some hf
     simp only [Option.map_some, ndOf, hqm, hents, if_neg e]
 ·
  have h1 : (((trOf L last).del r.f0).get r.f1).isSome = true := by
   show (if r.f1 = r.f0 then none else (trOf L last).get r.f1).isSome = true
   rw [if_neg hdn, hlive]; rfl
  show (if (((trOf L last).del r.f0).get r.f1).isSome then ((trOf L last).del r.f0).cnt else ((trOf L last).del r.f0).cnt + 1) = (cutL L r.f0).length
  rw [h1, if_pos rfl]
  show (if ((trOf L last).get r.f0).isSome then L.length - 1 else L.length) = _
  rw [hgr, Option.isSome_some, if_pos rfl]
  have := cutL_len h.uniq ⟨r, hr, rfl⟩
  omega
theorem cut_good {L : List RN} {last : Int} (h : GoodL L last) (hM : GoodM L) {d : Int} {s : ByteArray} (he : cutRE L d s = 0) : GoodL (cutL L (inR L d s)) last ∧ GoodM (cutL L (inR L d s)) := by
 obtain ⟨z1, z2, z3⟩ := cutRE_zero he
 obtain ⟨r, hr, hrn, hrd, hrs, hr1, _⟩ := inR_mem h z2
 rw [hrn] at hr1
 exact ⟨h.cut hr1 z3, GoodM.cut h hM hr1 z3⟩
theorem ents_with {L : List RN} {x : RN} (hm : ∃ r ∈ L, r.f0 = x.f0) (m : Int) (e : En) : e ∈ entsOf (withL L x) m ↔ (isIn m x = true ∧ e = ⟨x.f2, x.f0⟩) ∨ ∃ r ∈ L, r.f0 ≠ x.f0 ∧ isIn m r = true ∧ e = ⟨r.f2, r.f0⟩ := by
 rw [mem_ents]
 constructor
 ·
  rintro ⟨q, hq, hi, rfl⟩
  rcases withL_mem hq with rfl | hq
  · exact .inl ⟨hi, rfl⟩
  · exact .inr ⟨q, hq.1, hq.2, hi, rfl⟩
 ·
  rintro (⟨hi, rfl⟩ | ⟨q, hq, hn, hi, rfl⟩)
  ·
   obtain ⟨r, hr, hrx⟩ := hm
   exact ⟨x, withL_mem2 hr hrx, hi, rfl⟩
  · exact ⟨q, withL_mem1 hq hn, hi, rfl⟩
def setRE (L : List RN) (n : Int) (data : ByteArray) : Int := if (atR L n).f3 = 0 then 5 else if (atR L n).f3 = 1 then 8 else mayE (atR L n).f3 data
def setX (L : List RN) (n : Int) (data : ByteArray) : RN := { atR L n with f4 := data }
theorem setE_eq {L : List RN} {last : Int} (h : GoodL L last) (n : Int) (data : ByteArray) : setE (trOf L last) n data = setRE L n data := by
 unfold setE setRE
 rw [node_of h n]
theorem setRE_zero {L : List RN} {n : Int} {data : ByteArray} (h : setRE L n data = 0) : (atR L n).f3 ≠ 0 ∧ (atR L n).f3 ≠ 1 ∧ mayE (atR L n).f3 data = 0 := by
 unfold setRE at h
 split at h
 · cases h
 ·
  split at h
  · cases h
  · exact ⟨by assumption, by assumption, h⟩
theorem set_row {L : List RN} {last : Int} (h : GoodL L last) {n : Int} {data : ByteArray} (hk : (atR L n).f3 ≠ 0) : ∃ r ∈ L, r.f0 = n ∧ atR L n = r ∧ (setX L n data).f0 = n := by
 obtain ⟨r, hr, hrn, hra⟩ := at_kind hk
 exact ⟨r, hr, hrn, hra, by show (atR L n).f0 = n; rw [hra]; exact hrn⟩
theorem set_good {L : List RN} {last : Int} (h : GoodL L last) (hM : GoodM L) {n : Int} {data : ByteArray} (he : setRE L n data = 0) : GoodL (withL L (setX L n data)) last ∧ GoodM (withL L (setX L n data)) := by
 obtain ⟨z1, z2, z3⟩ := setRE_zero he
 obtain ⟨r, hr, hrn, hra, hx0⟩ := set_row h (data := data) z1
 have hm := mayE_more z3
 have hx1 : (setX L n data).f0 ≠ 1 := by
  rw [hx0]
  intro e
  rw [e] at z2
  exact z2 h.root_at.1
 have hmem : ∃ r ∈ L, r.f0 = (setX L n data).f0 := ⟨r, hr, by rw [hx0]; exact hrn⟩
 have hk : (atR L (setX L n data).f0).f3 = (setX L n data).f3 := by rw [hx0]; rfl
 have hup : (atR L (setX L n data).f1).f3 = 1 := by
  show (atR L (atR L n).f1).f3 = 1
  rw [hra]; exact h.up r hr
 have hG : GoodL (withL L (setX L n data)) last := by
  refine h.with hx1 hmem hk (mayE_zero z3).2 hup (fun q hq hn h1 h2 h3 => ?_)
  have e1 : (setX L n data).f1 = r.f1 := by show (atR L n).f1 = _; rw [hra]
  have e2 : (setX L n data).f2 = r.f2 := by show (atR L n).f2 = _; rw [hra]
  rw [e1] at h1
  rw [e2] at h3
  rw [hx0, ← hrn] at hn
  have hr1 : r.f0 ≠ 1 := by rw [hrn, ← hx0]; exact hx1
  have := List.pairwise_iff_getElem.1 h.names
  obtain ⟨i, hi, rfl⟩ := List.mem_iff_getElem.1 hq
  obtain ⟨j, hj, rfl⟩ := List.mem_iff_getElem.1 hr
  rcases Nat.lt_trichotomy i j with c | c | c
  · exact this i j hi hj c h1 h2 hr1 h3
  · subst c; exact hn rfl
  · exact this j i hj hi c h1.symm hr1 h2 h3.symm
 refine ⟨hG, hM.with hG ?_ hm.2.1 hm.1 hm.2.2 ?_⟩
 ·
  show Sp.check (atR L n).f2.data.toList = 0
  rw [hra]
  exact hM.nm r hr (by rw [hrn, ← hx0]; exact hx1)
 ·
  obtain ⟨d, -, hd⟩ := hM.rank
  refine ⟨d, fun q hq h1 => ?_⟩
  rcases withL_mem hq with rfl | hq
  ·
   have := hd r hr (by rw [hrn, ← hx0]; exact hx1)
   show d (atR L n).f1 < d (atR L n).f0
   rw [hra]; exact this
  · exact hd q hq.1 h1
theorem setT_eq {L : List RN} {last : Int} (h : GoodL L last) (hM : GoodM L) {n : Int} {data : ByteArray} (he : setRE L n data = 0) : setT (trOf L last) n data = trOf (withL L (setX L n data)) last := by
 obtain ⟨z1, z2, z3⟩ := setRE_zero he
 obtain ⟨r, hr, hrn, hra, hx0⟩ := set_row h (data := data) z1
 have hG := (set_good h hM he).1
 have hmem : ∃ r ∈ L, r.f0 = (setX L n data).f0 := ⟨r, hr, by rw [hx0]; exact hrn⟩
 have hents : ∀ m, entsOf (withL L (setX L n data)) m = entsOf L m := by
  intro m
  refine rt_ext (hG.rt m) (h.rt m) (fun e => ?_)
  rw [ents_with hmem, mem_ents]
  have hi : isIn m (setX L n data) = isIn m r := by
   show ((atR L n).f1 == m && !((atR L n).f0 == 1)) = _
   rw [hra]; rfl
  have h2 : (⟨(setX L n data).f2, (setX L n data).f0⟩ : En) = ⟨r.f2, r.f0⟩ := by
   show (⟨(atR L n).f2, (atR L n).f0⟩ : En) = _
   rw [hra]
  constructor
  ·
   rintro (⟨h3, rfl⟩ | ⟨q, hq, _, h3, rfl⟩)
   · exact ⟨r, hr, by rw [← hi]; exact h3, h2⟩
   · exact ⟨q, hq, h3, rfl⟩
  ·
   rintro ⟨q, hq, h3, rfl⟩
   by_cases e : q.f0 = (setX L n data).f0
   ·
    have e1 := find_of h hq
    have e2 := find_of h hr
    rw [e, hx0] at e1
    rw [hrn] at e2
    rw [e1] at e2
    have := Option.some.inj e2
    subst this
    exact .inl ⟨by rw [hi]; exact h3, h2.symm⟩
   · exact .inr ⟨q, hq, e, h3, rfl⟩
 have hlive := tr_get_live h z1
 refine Tr.ext (fun m => ?_) ?_ rfl
 ·
  show (if m = n then some { (trOf L last).node n with data := data } else (trOf L last).get m) = _
  rw [tr_get (L := withL L _), withL_find]
  by_cases e : m = n
  ·
   subst e
   have := find_of h hr
   rw [hrn] at this
   rw [if_pos rfl, node_of h, this]
   simp only [Option.map_some, ndOf, hx0, hrn, if_true, hents]
   rfl
  ·
   rw [if_neg e, tr_get]
   cases hf : L.find? (fun r => r.f0 == m) with
   | none => rfl
   | some q =>
    have hqm : q.f0 = m := by simpa using List.find?_some hf
    have hne : ¬ q.f0 = (setX L n data).f0 := by rw [hqm, hx0]; exact e
    simp only [Option.map_some, ndOf, hents, if_neg hne]
 ·
  show (if ((trOf L last).get n).isSome then L.length else L.length + 1) = (withL L _).length
  rw [hlive, Option.isSome_some, if_pos rfl, withL_len]
end Go.Proofs.YtnpeeiikdcankaaGreat.Tw
