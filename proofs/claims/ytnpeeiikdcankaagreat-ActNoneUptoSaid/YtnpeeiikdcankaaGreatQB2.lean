/- Texts of this session, merged: Tmove, TmoveOk, Rel, RelPut, Frm, MadeF, Good, RelOps, RelCut, RelMove, TrOf, Tops, Rset, ActA, Copy, Find, Spot, X9, X10, GoBoth, Real, RealC, Straight, Chain, KeepC, NoStr, Made, Rspot, Lives08, Law08, PosA, PosB, PosC, PosD, X8, PosP, PosQ, PosL. -/
import Derived.Test.YtnpeeiikdcankaaGreatQB0
import Derived.Test.YtnpeeiikdcankaaGreatQB1
import Derived.LoopN
import Derived.Deep.RegionHeld3
import Derived.Deep.RegionLaw
import Derived.Maps.OwnSet
import Derived.Deep.QuietTactic
import Derived.BigQuiet
import Derived.Maps.AppendAt
set_option linter.unusedVariables false
set_option linter.unusedSimpArgs false

set_option maxHeartbeats 8000000
set_option maxRecDepth 1000000
namespace Go.Proofs.YtnpeeiikdcankaaGreat.Tw
open Go Go.RowKit Go.Shelf Go.Proofs Go.Proofs.YtnpeeiikdcankaaGreat Go.Proofs.YtnpeeiikdcankaaGreatW.PrintWords Go.Proofs.YtnpeeiikdcankaaGreat.Ext Go.Proofs.YtnpeeiikdcankaaGreat.X Go.Proofs.YtnpeeiikdcankaaGreat.Pu
def movE (T : Tr) (fr : Int) (s : ByteArray) (td : Int) (z : ByteArray) (ins : Bool) : Int :=
 if dirE (T.node fr).kind ≠ 0 then dirE (T.node fr).kind else if dirE (T.node td).kind ≠ 0 then dirE (T.node td).kind else
  if (findE (T.node fr).ents s).2 = false then 5 else if Sp.check z.data.toList ≠ 0 then Sp.check z.data.toList else
   if (T.node (findE (T.node fr).ents s).1).kind = 1 ∧ ins = true then 14 else
    if (roomE T (findE (T.node fr).ents s).1 td z).1 = true then 0 else (roomE T (findE (T.node fr).ents s).1 td z).2
def movS (T : Tr) (fr : Int) (s : ByteArray) (td : Int) (z : ByteArray) (ins : Bool) : Prop :=
 movE T fr s td z ins ≠ 0 ∨ (roomE T (findE (T.node fr).ents s).1 td z).1 = true
theorem roomE_true {T : Tr} {n td : Int} {z : ByteArray} (h : (roomE T n td z).1 = true) : (roomE T n td z).2 = 0 := by
 unfold roomE at h ⊢
 by_cases h1 : (findE (T.node td).ents z).2 = false
 · rw [if_pos h1] at h; cases h
 ·
  rw [if_neg h1] at h ⊢
  by_cases h2 : (findE (T.node td).ents z).1 = n
  · rw [if_pos h2]
  ·
   rw [if_neg h2] at h
   split at h
   · cases h
   ·
    split at h
    · cases h
    · cases h
theorem move_stay (p B : Nat) (T : Tr) (fr : Int) (s : ByteArray) (td : Int) (z : ByteArray) (ins : Bool) (k : Nat) (w : World) (h : TreeB w p B T) (hO : TrOK T) (hfr : wf fr) (htd : wf td) (hz : z.size < 4294967281)
  (hins : dirE (T.node td).kind = 0 → (T.node (findE (T.node fr).ents s).1).kind = 1 → insF T k td (findE (T.node fr).ents s).1 = some ins) (he : movS T fr s td z ins) :
  Calls Tryz.prog 115 #[pT p, .int .i64 fr, .string s, .int .i64 td, .string z] w fun e w' => e = .returned (.int .i64 (movE T fr s td z ins)) ∧ Below w.heap.size w w' := by
 have HD1 := qh (fun W h => dir_calls p T fr W h hfr)
 have HD2 := qh (fun W h => dir_calls p T td W h htd)
 have HT := qh h
 have HLF := qh (fun W (h : TreeB W p B T) => h.look fr hfr)
 have HF := qh (fun W A c h hc => find_calls A c (T.node fr).ents s W h hc (hO.small.node fr) (hO.sorted.node fr))
 have hwn := hO.wf_find fr s
 have HRM := qh (fun W h hne => room_stay p B T (findE (T.node fr).ents s).1 td z W h hwn htd (hO.small.node td) (hO.sorted.node td) (hO.wf_find td z) (.inl hne))
 have HLN := qh (fun W (h : TreeB W p B T) => h.look _ hwn)
 have HIN := qh (fun W h r hr => inside_calls p B T td (findE (T.node fr).ents s).1 k r W h hO htd hr)
 have HCK := qh (fun W => name_Check.calls z (Sp.check z.data.toList) W (by rw [name_Check.f, if_pos hz]))
 have HRE := qh (fun h => roomE_true (T := T) (n := (findE (T.node fr).ents s).1) (td := td) (z := z) h)
 clear h hO hwn hfr htd hz
 unfold movS at he
 unfold movE at he ⊢
 generalize roomE T (findE (T.node fr).ents s).1 td z = re at *
 generalize dirE (T.node fr).kind = e1 at *
 generalize dirE (T.node td).kind = e2 at *
 generalize Sp.check z.data.toList = ck at *
 generalize insF T k td (findE (T.node fr).ents s).1 = iq at *
 generalize T.node (findE (T.node fr).ents s).1 = yn at *
 generalize T.node fr = xf at *
 obtain ⟨kf, uf, df, lf⟩ := xf
 obtain ⟨kn, un, dn, ln⟩ := yn
 simp only [] at *
 generalize findE lf s = fe at *
 obtain ⟨n, fb⟩ := fe
 simp only [] at *
 by_cases h1 : e1 = 0
 ·
  subst h1
  rw [if_neg (by simp)] at he ⊢
  by_cases h2 : e2 = 0
  ·
   subst h2
   have hins := hins rfl
   rw [if_neg (by simp)] at he ⊢
   cases fb with
   | false =>
    rw [if_pos rfl]
    clear he hins HRM HLN HIN HCK
    go_enter Tryz.func115, Tryz.ntmps115
    go_wp2
    have hh1 := heap_alloc_new w (.cells #[.int .i64 fr, .int .i64 td] 3)
    have hb1 := (Below.refl _ w).alloc (Nat.le_refl _) (.cells #[.int .i64 fr, .int .i64 td] 3)
    generalize w.alloc (.cells #[.int .i64 fr, .int .i64 td] 3) = w1 at hh1 hb1 ⊢
    have HB1 := qh hb1
    have HT1 := qh (HT.out.below hb1)
    generalize hge : w.heap.size = g at hh1 HB1 ⊢
    have HGE := qh hge
    have HH1 := qh hh1
    have x0 : w1.cell? ⟨g, 0, none⟩ = some (.int .i64 fr) := by rw [blk_cell hh1]; rfl
    clear hge hh1 hb1 HT
    refine wp_loop_rounds 3 ?_
    rw [rounds_succ]
    go_wp2_with (go_at_call 97; refine (HD1.out _ HT1.out.at_).mono ?_; rintro e w2 ⟨rfl, hb2⟩; have HT2 := qh (HT1.out.below hb2); have HB2 := qh (HB1.out.trans (hb2.mono (by rw [← HGE.out]; exact HB1.out.size))); have hh2 := (hb2.block g (blk_lt HH1.out)).trans HH1.out; have x1 : w2.cell? ⟨g, 1, none⟩ = some (.int .i64 td) := (by rw [blk_cell hh2]; rfl); clear hh2 hb2)
    clear x0
    rw [rounds_succ]
    go_wp2_with (go_at_call 97; refine (HD2.out _ HT2.out.at_).mono ?_; rintro e w3 ⟨rfl, hb3⟩; have HT3 := qh (HT2.out.below hb3); have HB3 := qh (HB2.out.trans (hb3.mono (by rw [← HGE.out]; exact HB2.out.size))); clear hb3)
    have c3 := HT3.out.cell0
    obtain ⟨A3, m3, hle3, hC3, hrun⟩ := HLF.out _ HT3.out
    have hrun3 := hrun _ (Below.refl _ _)
    have HC3 := qh hC3
    clear hrun hC3 x1
    rw [rounds_succ]
    go_wp2_with (go_at_call 94; refine (HF.out _ _ _ HC3.out hle3).mono ?_; rintro e w4 ⟨rfl, hb4⟩; have HT4 := qh (HT3.out.below hb4); have HB4 := qh (HB3.out.trans (hb4.mono (by rw [← HGE.out]; exact HB3.out.size))); clear hb4)
    go_ret
    exact ⟨rfl, by rw [HGE.out]; exact HB4.out⟩
   | true =>
    rw [if_neg (by simp)] at he ⊢
    by_cases h3 : ck = 0
    ·
     subst h3
     rw [if_neg (by simp)] at he ⊢
     by_cases hkn : kn = 1
     ·
      subst hkn
      have hins := hins rfl
      cases ins with
      | true =>
       rw [if_pos ⟨rfl, rfl⟩]
       have HIN := qh (fun W h => HIN.out W h true hins)
       clear he HRM hins
       go_enter Tryz.func115, Tryz.ntmps115
       go_wp2
       have hh1 := heap_alloc_new w (.cells #[.int .i64 fr, .int .i64 td] 3)
       have hb1 := (Below.refl _ w).alloc (Nat.le_refl _) (.cells #[.int .i64 fr, .int .i64 td] 3)
       generalize w.alloc (.cells #[.int .i64 fr, .int .i64 td] 3) = w1 at hh1 hb1 ⊢
       have HB1 := qh hb1
       have HT1 := qh (HT.out.below hb1)
       generalize hge : w.heap.size = g at hh1 HB1 ⊢
       have HGE := qh hge
       have HH1 := qh hh1
       have x0 : w1.cell? ⟨g, 0, none⟩ = some (.int .i64 fr) := by rw [blk_cell hh1]; rfl
       clear hge hh1 hb1 HT
       refine wp_loop_rounds 3 ?_
       rw [rounds_succ]
       go_wp2_with (go_at_call 97; refine (HD1.out _ HT1.out.at_).mono ?_; rintro e w2 ⟨rfl, hb2⟩; have HT2 := qh (HT1.out.below hb2); have HB2 := qh (HB1.out.trans (hb2.mono (by rw [← HGE.out]; exact HB1.out.size))); have hh2 := (hb2.block g (blk_lt HH1.out)).trans HH1.out; have x1 : w2.cell? ⟨g, 1, none⟩ = some (.int .i64 td) := (by rw [blk_cell hh2]; rfl); clear hh2 hb2)
       clear x0
       rw [rounds_succ]
       go_wp2_with (go_at_call 97; refine (HD2.out _ HT2.out.at_).mono ?_; rintro e w3 ⟨rfl, hb3⟩; have HT3 := qh (HT2.out.below hb3); have HB3 := qh (HB2.out.trans (hb3.mono (by rw [← HGE.out]; exact HB2.out.size))); clear hb3)
       have c3 := HT3.out.cell0
       obtain ⟨A3, m3, hle3, hC3, hrun⟩ := HLF.out _ HT3.out
       have hrun3 := hrun _ (Below.refl _ _)
       have HC3 := qh hC3
       clear hrun hC3 x1
       rw [rounds_succ]
       go_wp2_with (first | (go_at_call 94; refine (HF.out _ _ _ HC3.out hle3).mono ?_; rintro e w4 ⟨rfl, hb4⟩; have HT4 := qh (HT3.out.below hb4); have HB4 := qh (HB3.out.trans (hb4.mono (by rw [← HGE.out]; exact HB3.out.size))); clear hb4) | (go_at_call 98; refine (HCK.out _).mono ?_; rintro e w5 ⟨rfl, hb5⟩; have HT5 := qh (HT4.out.below hb5); have HB5 := qh (HB4.out.trans (hb5.mono (by rw [← HGE.out]; exact HB4.out.size))); have c5 := HT5.out.cell0; obtain ⟨A5, m5, hle5, hC5, hrun⟩ := HLN.out _ HT5.out; have hrun5 := hrun _ (Below.refl _ _); clear hrun hC5 hb5) | (go_at_call 147; refine (HIN.out _ HT5.out).mono ?_; rintro e w6 ⟨rfl, rfl⟩))
       go_ret
       exact ⟨rfl, by rw [HGE.out]; exact HB5.out⟩
      | false =>
       rw [if_neg (by simp)] at he ⊢
       have HIN := qh (fun W h => HIN.out W h false hins)
       have hne : re ≠ (false, 0) := by
        rintro rfl
        rcases he with he | he
        · exact he rfl
        · cases he
       have HRM := qh (fun W h => HRM.out W h hne)
       clear he hins
       obtain ⟨rb, rq⟩ := re
       cases rb with
       | true =>
        rw [if_pos rfl]
        clear hne
        have hq0 := HRE.out rfl
        simp only [] at hq0
        subst hq0
        simp only [] at HRM
        go_enter Tryz.func115, Tryz.ntmps115
        go_wp2
        have hh1 := heap_alloc_new w (.cells #[.int .i64 fr, .int .i64 td] 3)
        have hb1 := (Below.refl _ w).alloc (Nat.le_refl _) (.cells #[.int .i64 fr, .int .i64 td] 3)
        generalize w.alloc (.cells #[.int .i64 fr, .int .i64 td] 3) = w1 at hh1 hb1 ⊢
        have HB1 := qh hb1
        have HT1 := qh (HT.out.below hb1)
        generalize hge : w.heap.size = g at hh1 HB1 ⊢
        have HGE := qh hge
        have HH1 := qh hh1
        have x0 : w1.cell? ⟨g, 0, none⟩ = some (.int .i64 fr) := by rw [blk_cell hh1]; rfl
        clear hge hh1 hb1 HT
        refine wp_loop_rounds 3 ?_
        rw [rounds_succ]
        go_wp2_with (go_at_call 97; refine (HD1.out _ HT1.out.at_).mono ?_; rintro e w2 ⟨rfl, hb2⟩; have HT2 := qh (HT1.out.below hb2); have HB2 := qh (HB1.out.trans (hb2.mono (by rw [← HGE.out]; exact HB1.out.size))); have hh2 := (hb2.block g (blk_lt HH1.out)).trans HH1.out; have x1 : w2.cell? ⟨g, 1, none⟩ = some (.int .i64 td) := (by rw [blk_cell hh2]; rfl); clear hh2 hb2)
        clear x0
        rw [rounds_succ]
        go_wp2_with (go_at_call 97; refine (HD2.out _ HT2.out.at_).mono ?_; rintro e w3 ⟨rfl, hb3⟩; have HT3 := qh (HT2.out.below hb3); have HB3 := qh (HB2.out.trans (hb3.mono (by rw [← HGE.out]; exact HB2.out.size))); clear hb3)
        have c3 := HT3.out.cell0
        obtain ⟨A3, m3, hle3, hC3, hrun⟩ := HLF.out _ HT3.out
        have hrun3 := hrun _ (Below.refl _ _)
        have HC3 := qh hC3
        clear hrun hC3 x1
        rw [rounds_succ]
        go_wp2_with (first | (go_at_call 94; refine (HF.out _ _ _ HC3.out hle3).mono ?_; rintro e w4 ⟨rfl, hb4⟩; have HT4 := qh (HT3.out.below hb4); have HB4 := qh (HB3.out.trans (hb4.mono (by rw [← HGE.out]; exact HB3.out.size))); clear hb4) | (go_at_call 98; refine (HCK.out _).mono ?_; rintro e w5 ⟨rfl, hb5⟩; have HT5 := qh (HT4.out.below hb5); have HB5 := qh (HB4.out.trans (hb5.mono (by rw [← HGE.out]; exact HB4.out.size))); have c5 := HT5.out.cell0; obtain ⟨A5, m5, hle5, hC5, hrun⟩ := HLN.out _ HT5.out; have hrun5 := hrun _ (Below.refl _ _); clear hrun hC5 hb5) | (go_at_call 147; refine (HIN.out _ HT5.out).mono ?_; rintro e w6 ⟨rfl, rfl⟩) | (go_at_call 148; refine (HRM.out _ HT5.out).mono ?_; rintro e w7 ⟨rfl, hb7⟩; have HB7 := qh (HB5.out.trans (hb7.mono (by rw [← HGE.out]; exact HB5.out.size))); clear hb7))
        go_ret
        exact ⟨rfl, by rw [HGE.out]; exact HB7.out⟩
       | false =>
        rw [if_neg (by simp)]
        have b4 : (rq != 0) = true := bne_iff_ne.2 (fun e => hne (by rw [e]))
        clear hne
        simp only [] at HRM
        go_enter Tryz.func115, Tryz.ntmps115
        go_wp2
        have hh1 := heap_alloc_new w (.cells #[.int .i64 fr, .int .i64 td] 3)
        have hb1 := (Below.refl _ w).alloc (Nat.le_refl _) (.cells #[.int .i64 fr, .int .i64 td] 3)
        generalize w.alloc (.cells #[.int .i64 fr, .int .i64 td] 3) = w1 at hh1 hb1 ⊢
        have HB1 := qh hb1
        have HT1 := qh (HT.out.below hb1)
        generalize hge : w.heap.size = g at hh1 HB1 ⊢
        have HGE := qh hge
        have HH1 := qh hh1
        have x0 : w1.cell? ⟨g, 0, none⟩ = some (.int .i64 fr) := by rw [blk_cell hh1]; rfl
        clear hge hh1 hb1 HT
        refine wp_loop_rounds 3 ?_
        rw [rounds_succ]
        go_wp2_with (go_at_call 97; refine (HD1.out _ HT1.out.at_).mono ?_; rintro e w2 ⟨rfl, hb2⟩; have HT2 := qh (HT1.out.below hb2); have HB2 := qh (HB1.out.trans (hb2.mono (by rw [← HGE.out]; exact HB1.out.size))); have hh2 := (hb2.block g (blk_lt HH1.out)).trans HH1.out; have x1 : w2.cell? ⟨g, 1, none⟩ = some (.int .i64 td) := (by rw [blk_cell hh2]; rfl); clear hh2 hb2)
        clear x0
        rw [rounds_succ]
        go_wp2_with (go_at_call 97; refine (HD2.out _ HT2.out.at_).mono ?_; rintro e w3 ⟨rfl, hb3⟩; have HT3 := qh (HT2.out.below hb3); have HB3 := qh (HB2.out.trans (hb3.mono (by rw [← HGE.out]; exact HB2.out.size))); clear hb3)
        have c3 := HT3.out.cell0
        obtain ⟨A3, m3, hle3, hC3, hrun⟩ := HLF.out _ HT3.out
        have hrun3 := hrun _ (Below.refl _ _)
        have HC3 := qh hC3
        clear hrun hC3 x1
        rw [rounds_succ]
        go_wp2_with (first | (go_at_call 94; refine (HF.out _ _ _ HC3.out hle3).mono ?_; rintro e w4 ⟨rfl, hb4⟩; have HT4 := qh (HT3.out.below hb4); have HB4 := qh (HB3.out.trans (hb4.mono (by rw [← HGE.out]; exact HB3.out.size))); clear hb4) | (go_at_call 98; refine (HCK.out _).mono ?_; rintro e w5 ⟨rfl, hb5⟩; have HT5 := qh (HT4.out.below hb5); have HB5 := qh (HB4.out.trans (hb5.mono (by rw [← HGE.out]; exact HB4.out.size))); have c5 := HT5.out.cell0; obtain ⟨A5, m5, hle5, hC5, hrun⟩ := HLN.out _ HT5.out; have hrun5 := hrun _ (Below.refl _ _); clear hrun hC5 hb5) | (go_at_call 147; refine (HIN.out _ HT5.out).mono ?_; rintro e w6 ⟨rfl, rfl⟩) | (go_at_call 148; refine (HRM.out _ HT5.out).mono ?_; rintro e w7 ⟨rfl, hb7⟩; have HB7 := qh (HB5.out.trans (hb7.mono (by rw [← HGE.out]; exact HB5.out.size))); clear hb7))
        go_ret
        exact ⟨rfl, by rw [HGE.out]; exact HB7.out⟩
     ·
      rw [if_neg (fun h => hkn h.1)] at he ⊢
      have b5 : (kn == 1) = false := beq_eq_false_iff_ne.2 hkn
      have hne : re ≠ (false, 0) := by
       rintro rfl
       rcases he with he | he
       · exact he rfl
       · cases he
      have HRM := qh (fun W h => HRM.out W h hne)
      clear he hins HIN hkn
      obtain ⟨rb, rq⟩ := re
      cases rb with
      | true =>
       rw [if_pos rfl]
       clear hne
       have hq0 := HRE.out rfl
       simp only [] at hq0
       subst hq0
       simp only [] at HRM
       go_enter Tryz.func115, Tryz.ntmps115
       go_wp2
       have hh1 := heap_alloc_new w (.cells #[.int .i64 fr, .int .i64 td] 3)
       have hb1 := (Below.refl _ w).alloc (Nat.le_refl _) (.cells #[.int .i64 fr, .int .i64 td] 3)
       generalize w.alloc (.cells #[.int .i64 fr, .int .i64 td] 3) = w1 at hh1 hb1 ⊢
       have HB1 := qh hb1
       have HT1 := qh (HT.out.below hb1)
       generalize hge : w.heap.size = g at hh1 HB1 ⊢
       have HGE := qh hge
       have HH1 := qh hh1
       have x0 : w1.cell? ⟨g, 0, none⟩ = some (.int .i64 fr) := by rw [blk_cell hh1]; rfl
       clear hge hh1 hb1 HT
       refine wp_loop_rounds 3 ?_
       rw [rounds_succ]
       go_wp2_with (go_at_call 97; refine (HD1.out _ HT1.out.at_).mono ?_; rintro e w2 ⟨rfl, hb2⟩; have HT2 := qh (HT1.out.below hb2); have HB2 := qh (HB1.out.trans (hb2.mono (by rw [← HGE.out]; exact HB1.out.size))); have hh2 := (hb2.block g (blk_lt HH1.out)).trans HH1.out; have x1 : w2.cell? ⟨g, 1, none⟩ = some (.int .i64 td) := (by rw [blk_cell hh2]; rfl); clear hh2 hb2)
       clear x0
       rw [rounds_succ]
       go_wp2_with (go_at_call 97; refine (HD2.out _ HT2.out.at_).mono ?_; rintro e w3 ⟨rfl, hb3⟩; have HT3 := qh (HT2.out.below hb3); have HB3 := qh (HB2.out.trans (hb3.mono (by rw [← HGE.out]; exact HB2.out.size))); clear hb3)
       have c3 := HT3.out.cell0
       obtain ⟨A3, m3, hle3, hC3, hrun⟩ := HLF.out _ HT3.out
       have hrun3 := hrun _ (Below.refl _ _)
       have HC3 := qh hC3
       clear hrun hC3 x1
       rw [rounds_succ]
       go_wp2_with (first | (go_at_call 94; refine (HF.out _ _ _ HC3.out hle3).mono ?_; rintro e w4 ⟨rfl, hb4⟩; have HT4 := qh (HT3.out.below hb4); have HB4 := qh (HB3.out.trans (hb4.mono (by rw [← HGE.out]; exact HB3.out.size))); clear hb4) | (go_at_call 98; refine (HCK.out _).mono ?_; rintro e w5 ⟨rfl, hb5⟩; have HT5 := qh (HT4.out.below hb5); have HB5 := qh (HB4.out.trans (hb5.mono (by rw [← HGE.out]; exact HB4.out.size))); have c5 := HT5.out.cell0; obtain ⟨A5, m5, hle5, hC5, hrun⟩ := HLN.out _ HT5.out; have hrun5 := hrun _ (Below.refl _ _); clear hrun hC5 hb5) | (go_at_call 148; refine (HRM.out _ HT5.out).mono ?_; rintro e w7 ⟨rfl, hb7⟩; have HB7 := qh (HB5.out.trans (hb7.mono (by rw [← HGE.out]; exact HB5.out.size))); clear hb7))
       go_ret
       exact ⟨rfl, by rw [HGE.out]; exact HB7.out⟩
      | false =>
       rw [if_neg (by simp)]
       have b4 : (rq != 0) = true := bne_iff_ne.2 (fun e => hne (by rw [e]))
       clear hne
       simp only [] at HRM
       go_enter Tryz.func115, Tryz.ntmps115
       go_wp2
       have hh1 := heap_alloc_new w (.cells #[.int .i64 fr, .int .i64 td] 3)
       have hb1 := (Below.refl _ w).alloc (Nat.le_refl _) (.cells #[.int .i64 fr, .int .i64 td] 3)
       generalize w.alloc (.cells #[.int .i64 fr, .int .i64 td] 3) = w1 at hh1 hb1 ⊢
       have HB1 := qh hb1
       have HT1 := qh (HT.out.below hb1)
       generalize hge : w.heap.size = g at hh1 HB1 ⊢
       have HGE := qh hge
       have HH1 := qh hh1
       have x0 : w1.cell? ⟨g, 0, none⟩ = some (.int .i64 fr) := by rw [blk_cell hh1]; rfl
       clear hge hh1 hb1 HT
       refine wp_loop_rounds 3 ?_
       rw [rounds_succ]
       go_wp2_with (go_at_call 97; refine (HD1.out _ HT1.out.at_).mono ?_; rintro e w2 ⟨rfl, hb2⟩; have HT2 := qh (HT1.out.below hb2); have HB2 := qh (HB1.out.trans (hb2.mono (by rw [← HGE.out]; exact HB1.out.size))); have hh2 := (hb2.block g (blk_lt HH1.out)).trans HH1.out; have x1 : w2.cell? ⟨g, 1, none⟩ = some (.int .i64 td) := (by rw [blk_cell hh2]; rfl); clear hh2 hb2)
       clear x0
       rw [rounds_succ]
       go_wp2_with (go_at_call 97; refine (HD2.out _ HT2.out.at_).mono ?_; rintro e w3 ⟨rfl, hb3⟩; have HT3 := qh (HT2.out.below hb3); have HB3 := qh (HB2.out.trans (hb3.mono (by rw [← HGE.out]; exact HB2.out.size))); clear hb3)
       have c3 := HT3.out.cell0
       obtain ⟨A3, m3, hle3, hC3, hrun⟩ := HLF.out _ HT3.out
       have hrun3 := hrun _ (Below.refl _ _)
       have HC3 := qh hC3
       clear hrun hC3 x1
       rw [rounds_succ]
       go_wp2_with (first | (go_at_call 94; refine (HF.out _ _ _ HC3.out hle3).mono ?_; rintro e w4 ⟨rfl, hb4⟩; have HT4 := qh (HT3.out.below hb4); have HB4 := qh (HB3.out.trans (hb4.mono (by rw [← HGE.out]; exact HB3.out.size))); clear hb4) | (go_at_call 98; refine (HCK.out _).mono ?_; rintro e w5 ⟨rfl, hb5⟩; have HT5 := qh (HT4.out.below hb5); have HB5 := qh (HB4.out.trans (hb5.mono (by rw [← HGE.out]; exact HB4.out.size))); have c5 := HT5.out.cell0; obtain ⟨A5, m5, hle5, hC5, hrun⟩ := HLN.out _ HT5.out; have hrun5 := hrun _ (Below.refl _ _); clear hrun hC5 hb5) | (go_at_call 148; refine (HRM.out _ HT5.out).mono ?_; rintro e w7 ⟨rfl, hb7⟩; have HB7 := qh (HB5.out.trans (hb7.mono (by rw [← HGE.out]; exact HB5.out.size))); clear hb7))
       go_ret
       exact ⟨rfl, by rw [HGE.out]; exact HB7.out⟩
    ·
     rw [if_pos h3]
     have b3 : (ck != 0) = true := bne_iff_ne.2 h3
     clear he hins HRM HLN HIN h3
     go_enter Tryz.func115, Tryz.ntmps115
     go_wp2
     have hh1 := heap_alloc_new w (.cells #[.int .i64 fr, .int .i64 td] 3)
     have hb1 := (Below.refl _ w).alloc (Nat.le_refl _) (.cells #[.int .i64 fr, .int .i64 td] 3)
     generalize w.alloc (.cells #[.int .i64 fr, .int .i64 td] 3) = w1 at hh1 hb1 ⊢
     have HB1 := qh hb1
     have HT1 := qh (HT.out.below hb1)
     generalize hge : w.heap.size = g at hh1 HB1 ⊢
     have HGE := qh hge
     have HH1 := qh hh1
     have x0 : w1.cell? ⟨g, 0, none⟩ = some (.int .i64 fr) := by rw [blk_cell hh1]; rfl
     clear hge hh1 hb1 HT
     refine wp_loop_rounds 3 ?_
     rw [rounds_succ]
     go_wp2_with (go_at_call 97; refine (HD1.out _ HT1.out.at_).mono ?_; rintro e w2 ⟨rfl, hb2⟩; have HT2 := qh (HT1.out.below hb2); have HB2 := qh (HB1.out.trans (hb2.mono (by rw [← HGE.out]; exact HB1.out.size))); have hh2 := (hb2.block g (blk_lt HH1.out)).trans HH1.out; have x1 : w2.cell? ⟨g, 1, none⟩ = some (.int .i64 td) := (by rw [blk_cell hh2]; rfl); clear hh2 hb2)
     clear x0
     rw [rounds_succ]
     go_wp2_with (go_at_call 97; refine (HD2.out _ HT2.out.at_).mono ?_; rintro e w3 ⟨rfl, hb3⟩; have HT3 := qh (HT2.out.below hb3); have HB3 := qh (HB2.out.trans (hb3.mono (by rw [← HGE.out]; exact HB2.out.size))); clear hb3)
     have c3 := HT3.out.cell0
     obtain ⟨A3, m3, hle3, hC3, hrun⟩ := HLF.out _ HT3.out
     have hrun3 := hrun _ (Below.refl _ _)
     have HC3 := qh hC3
     clear hrun hC3 x1
     rw [rounds_succ]
     go_wp2_with (first | (go_at_call 94; refine (HF.out _ _ _ HC3.out hle3).mono ?_; rintro e w4 ⟨rfl, hb4⟩; have HT4 := qh (HT3.out.below hb4); have HB4 := qh (HB3.out.trans (hb4.mono (by rw [← HGE.out]; exact HB3.out.size))); clear hb4) | (go_at_call 98; refine (HCK.out _).mono ?_; rintro e w5 ⟨rfl, hb5⟩; have HB5 := qh (HB4.out.trans (hb5.mono (by rw [← HGE.out]; exact HB4.out.size)))))
     go_ret
     exact ⟨rfl, by rw [HGE.out]; exact HB5.out⟩
  ·
   rw [if_pos h2]
   have b2 : (e2 != 0) = true := bne_iff_ne.2 h2
   clear hins he h2 HF HRM HLN HIN HCK HLF
   go_enter Tryz.func115, Tryz.ntmps115
   go_wp2
   have hh1 := heap_alloc_new w (.cells #[.int .i64 fr, .int .i64 td] 3)
   have hb1 := (Below.refl _ w).alloc (Nat.le_refl _) (.cells #[.int .i64 fr, .int .i64 td] 3)
   generalize w.alloc (.cells #[.int .i64 fr, .int .i64 td] 3) = w1 at hh1 hb1 ⊢
   have HB1 := qh hb1
   have HT1 := qh (HT.out.below hb1)
   generalize hge : w.heap.size = g at hh1 HB1 ⊢
   have HGE := qh hge
   have HH1 := qh hh1
   have x0 : w1.cell? ⟨g, 0, none⟩ = some (.int .i64 fr) := by rw [blk_cell hh1]; rfl
   clear hge hh1 hb1 HT
   refine wp_loop_rounds 3 ?_
   rw [rounds_succ]
   go_wp2_with (go_at_call 97; refine (HD1.out _ HT1.out.at_).mono ?_; rintro e w2 ⟨rfl, hb2⟩; have HT2 := qh (HT1.out.below hb2); have HB2 := qh (HB1.out.trans (hb2.mono (by rw [← HGE.out]; exact HB1.out.size))); have hh2 := (hb2.block g (blk_lt HH1.out)).trans HH1.out; have x1 : w2.cell? ⟨g, 1, none⟩ = some (.int .i64 td) := (by rw [blk_cell hh2]; rfl); clear hh2 hb2)
   clear x0
   rw [rounds_succ]
   go_wp2_with (go_at_call 97; refine (HD2.out _ HT2.out.at_).mono ?_; rintro e w3 ⟨rfl, hb3⟩; have HT3 := qh (HT2.out.below hb3); have HB3 := qh (HB2.out.trans (hb3.mono (by rw [← HGE.out]; exact HB2.out.size))); clear hb3)
   go_ret
   exact ⟨rfl, by rw [HGE.out]; exact HB3.out⟩
 ·
  rw [if_pos h1]
  have b1 : (e1 != 0) = true := bne_iff_ne.2 h1
  clear hins he h1 HF HRM HLN HIN HCK HLF HD2
  go_enter Tryz.func115, Tryz.ntmps115
  go_wp2
  have hh1 := heap_alloc_new w (.cells #[.int .i64 fr, .int .i64 td] 3)
  have hb1 := (Below.refl _ w).alloc (Nat.le_refl _) (.cells #[.int .i64 fr, .int .i64 td] 3)
  generalize w.alloc (.cells #[.int .i64 fr, .int .i64 td] 3) = w1 at hh1 hb1 ⊢
  have HB1 := qh hb1
  have HT1 := qh (HT.out.below hb1)
  generalize hge : w.heap.size = g at hh1 HB1 ⊢
  have HGE := qh hge
  have HH1 := qh hh1
  have x0 : w1.cell? ⟨g, 0, none⟩ = some (.int .i64 fr) := by rw [blk_cell hh1]; rfl
  clear hge hh1 hb1 HT
  refine wp_loop_rounds 3 ?_
  rw [rounds_succ]
  go_wp2_with (go_at_call 97; refine (HD1.out _ HT1.out.at_).mono ?_; rintro e w2 ⟨rfl, hb2⟩; have HT2 := qh (HT1.out.below hb2); have HB2 := qh (HB1.out.trans (hb2.mono (by rw [← HGE.out]; exact HB1.out.size))); have hh2 := (hb2.block g (blk_lt HH1.out)).trans HH1.out; have x1 : w2.cell? ⟨g, 1, none⟩ = some (.int .i64 td) := (by rw [blk_cell hh2]; rfl); clear hh2 hb2)
  go_ret
  exact ⟨rfl, by rw [HGE.out]; exact HB2.out⟩
def mvA (T : Tr) (td : Int) (z : ByteArray) : Tr := roomT T td z
def mvB (T1 : Tr) (n td : Int) : Tr := T1.set n { T1.node n with up := td }
def mvC (T2 : Tr) (fr : Int) (s : ByteArray) : Tr := T2.enter fr (cutEn (T2.node fr).ents s)
def mvD (T3 : Tr) (td n : Int) (z : ByteArray) : Tr := T3.enter td (insE (T3.node td).ents ⟨z, n⟩)
theorem move_ok (p B : Nat) (T T1 T2 T3 : Tr) (fr : Int) (s : ByteArray) (td : Int) (z : ByteArray) (n : Int) (ins : Bool) (k : Nat) (w : World) (h : TreeB w p B T) (hO : TrOK T) (hfr : wf fr) (htd : wf td) (hz : z.size < 4294967281)
  (hfind : findE (T.node fr).ents s = (n, true)) (h1 : (T.node fr).kind = 1) (h2 : (T.node td).kind = 1) (hck : Sp.check z.data.toList = 0)
  (hins : (T.node n).kind = 1 → insF T k td n = some false) (hrm : roomE T n td z = (false, 0)) (hcnt : T.cnt < 1000000)
  (e1 : T1 = mvA T td z) (e2 : T2 = mvB T1 n td) (e3 : T3 = mvC T2 fr s)
  (c1 : T1.cnt < 1000000) (c2 : T2.cnt < 1000000) (c3 : T3.cnt < 1000000)
  (f1 : (T2.node fr).ents.length < 4294967296) (f2 : Rt (T2.node fr).ents) (f3 : (findE (T2.node fr).ents s).2 = true)
  (t1 : (T3.node td).ents.length < 4294967296) (t2 : Rt (T3.node td).ents) (t3 : (findE (T3.node td).ents z).2 = false) :
  Calls Tryz.prog 115 #[pT p, .int .i64 fr, .string s, .int .i64 td, .string z] w fun e w' => e = .returned (.int .i64 0) ∧ TreeB w' p B (mvD T3 td n z) ∧ Frm w w' p B := by
 have HD1 := qh (fun W h => dir_calls p T fr W h hfr)
 have HD2 := qh (fun W h => dir_calls p T td W h htd)
 rw [h1] at HD1
 rw [h2] at HD2
 rw [show dirE 1 = 0 from rfl] at HD1 HD2
 have HT := qh h
 have HLF := qh (fun W (h : TreeB W p B T) => h.look fr hfr)
 have HF := qh (fun W A c h hc => find_calls A c (T.node fr).ents s W h hc (hO.small.node fr) (hO.sorted.node fr))
 have hwn := hO.wf_find fr s
 rw [hfind] at HF hwn
 have hwn : wf n := hwn
 have HRM := qh (show ∀ W, TreeB W p B T → Calls Tryz.prog 148 #[pT p, .int .i64 n, .int .i64 td, .string z] W fun e w' => e = .returned (.tuple #[.bool false, .int .i64 0]) ∧ TreeB w' p B T1 ∧ Frm W w' p B from by
  intro W hW
  cases hq : (findE (T.node td).ents z).2 with
  | false =>
   have hT1 : T1 = T := by rw [e1, mvA, roomT, if_pos hq]
   refine (room_stay p B T n td z W hW hwn htd (hO.small.node td) (hO.sorted.node td) (hO.wf_find td z) (.inr hq)).mono ?_
   rintro e w' ⟨rfl, hb⟩
   rw [hrm, hT1]
   exact ⟨rfl, hW.below hb, Frm.ofBelow hb⟩
  | true =>
   have hT1 : T1 = cutT T td z := by rw [e1, mvA, roomT, if_neg (by rw [hq]; simp)]
   rw [hT1]
   exact room_cut p B T n td z W hW hwn htd (hO.small.node td) (hO.sorted.node td) (hO.wf_find td z) hcnt hrm hq)
 have HLN := qh (fun W (h : TreeB W p B T) => h.look _ hwn)
 have HIN := qh (fun W h hr => inside_calls p B T td n k false W h hO htd (hins hr))
 have HCK := qh (fun W => name_Check.calls z (Sp.check z.data.toList) W (by rw [name_Check.f, if_pos hz]))
 rw [hck] at HCK
 have HL1 := qh (fun W (h : TreeB W p B T1) => h.look _ hwn)
 have HST := qh (fun W v (h : TreeB W p B T1) (hs : EntsAt W v (T1.node n).ents) => h.store n hwn { T1.node n with up := td } v hs c1)
 have HL2 := qh (fun W (h : TreeB W p B T2) => h.look fr hfr)
 have HCU := qh (fun W A c h hc => entsCut_calls A c (T2.node fr).ents s W h hc f1 f2 f3)
 have HEN2 := qh (fun v W h hv => enter_calls p B T2 fr v (cutEn (T2.node fr).ents s) W h hfr hv c2)
 rw [show T2.enter fr (cutEn (T2.node fr).ents s) = T3 from e3.symm] at HEN2
 have HL3 := qh (fun W (h : TreeB W p B T3) => h.look td htd)
 have HPU := qh (fun W A c h hc => entsPut_calls A c (T3.node td).ents ⟨z, n⟩ W h hc t1 t2 t3)
 have HEN3 := qh (fun v W h hv => enter_calls p B T3 td v (insE (T3.node td).ents ⟨z, n⟩) W h htd hv c3)
 rw [show T3.enter td (insE (T3.node td).ents ⟨z, n⟩) = mvD T3 td n z from rfl] at HEN3
 rw [show T1.set n { T1.node n with up := td } = T2 from e2.symm] at HST
 clear h hO hfr htd hz hfind h1 h2 hck hins hrm hcnt e1 e2 e3 c1 c2 c3 f1 f2 f3 t1 t2 t3 hwn
 generalize mvD T3 td n z = T4 at *
 generalize T1.node n = y1 at *
 obtain ⟨k1, u1, d1, l1⟩ := y1
 generalize T2.node fr = x2 at *
 obtain ⟨k2, u2, d2, l2⟩ := x2
 generalize T3.node td = x3 at *
 obtain ⟨k3, u3, d3, l3⟩ := x3
 generalize T.node n = yn at *
 obtain ⟨kn, un, dn, ln⟩ := yn
 generalize T.node fr = xf at *
 obtain ⟨kf, uf, df, lf⟩ := xf
 simp only [] at *
 by_cases hkn : kn = 1
 ·
  subst hkn
  have HIN2 := qh (fun W h => HIN.out W h rfl)
  clear HIN
  go_enter Tryz.func115, Tryz.ntmps115
  go_wp2
  have hh1 := heap_alloc_new w (.cells #[.int .i64 fr, .int .i64 td] 3)
  have hb1 := (Below.refl _ w).alloc (Nat.le_refl _) (.cells #[.int .i64 fr, .int .i64 td] 3)
  generalize w.alloc (.cells #[.int .i64 fr, .int .i64 td] 3) = w1 at hh1 hb1 ⊢
  have HB1 := qh hb1
  have HT1 := qh (HT.out.below hb1)
  generalize hge : w.heap.size = g at hh1 HB1 ⊢
  have HGE := qh hge
  have HH1 := qh hh1
  have x0 : w1.cell? ⟨g, 0, none⟩ = some (.int .i64 fr) := by rw [blk_cell hh1]; rfl
  clear hge hh1 hb1 HT
  refine wp_loop_rounds 3 ?_
  rw [rounds_succ]
  go_wp2_with (go_at_call 97; refine (HD1.out _ HT1.out.at_).mono ?_; rintro e w2 ⟨rfl, hb2⟩; have HT2 := qh (HT1.out.below hb2); have HB2 := qh (HB1.out.trans (hb2.mono (by rw [← HGE.out]; exact HB1.out.size))); have hh2 := (hb2.block g (blk_lt HH1.out)).trans HH1.out; have x1 : w2.cell? ⟨g, 1, none⟩ = some (.int .i64 td) := (by rw [blk_cell hh2]; rfl); clear hh2 hb2)
  clear x0
  rw [rounds_succ]
  go_wp2_with (go_at_call 97; refine (HD2.out _ HT2.out.at_).mono ?_; rintro e w3 ⟨rfl, hb3⟩; have HT3 := qh (HT2.out.below hb3); have HB3 := qh (HB2.out.trans (hb3.mono (by rw [← HGE.out]; exact HB2.out.size))); clear hb3)
  have c3 := HT3.out.cell0
  obtain ⟨A3, m3, hle3, hC3, hrun⟩ := HLF.out _ HT3.out
  have hrun3 := hrun _ (Below.refl _ _)
  have HC3 := qh hC3
  clear hrun hC3 x1
  rw [rounds_succ]
  go_upto_region 21 with (first | (go_at_call 94; refine (HF.out _ _ _ HC3.out hle3).mono ?_; rintro e w4 ⟨rfl, hb4⟩; have HT4 := qh (HT3.out.below hb4); have HB4 := qh (HB3.out.trans (hb4.mono (by rw [← HGE.out]; exact HB3.out.size))); clear hb4) | (go_at_call 98; refine (HCK.out _).mono ?_; rintro e w5 ⟨rfl, hb5⟩; have HT5 := qh (HT4.out.below hb5); have HB5 := qh (HB4.out.trans (hb5.mono (by rw [← HGE.out]; exact HB4.out.size))); have c5 := HT5.out.cell0; obtain ⟨A5, m5, hle5, hC5, hrun⟩ := HLN.out _ HT5.out; have hrun5 := hrun _ (Below.refl _ _); clear hrun hC5 hb5) | (go_at_call 147; refine (HIN2.out _ HT5.out).mono ?_; rintro e w6 ⟨rfl, rfl⟩) | (go_at_call 148; refine (HRM.out _ HT5.out).mono ?_; rintro e w7 ⟨rfl, hT7, hF7⟩; have HT7 := qh hT7; have HF7 := qh hF7; have c7 := HT7.out.cell0; obtain ⟨A7, m7, hle7, hC7, hrun⟩ := HL1.out _ HT7.out; have HE7 := qh (show EntsAt w7 (.slice A7 l1.length m7) l1 from ⟨A7, m7, rfl, hle7, hC7⟩); have hrun7 := hrun _ (Below.refl _ _); clear hrun hC7 hle7 hT7 hF7))
  have h8 := heap_alloc_new w7 (.cells #[.int .i64 k1, .int .i64 td, .string d1, .slice A7 l1.length m7] 153)
  have hb8 := (Below.refl _ w7).alloc (Nat.le_refl _) (.cells #[.int .i64 k1, .int .i64 td, .string d1, .slice A7 l1.length m7] 153)
  generalize w7.alloc (.cells #[.int .i64 k1, .int .i64 td, .string d1, .slice A7 l1.length m7] 153) = w8 at h8 hb8 ⊢
  have hT8 := HT7.out.below (below_drew hb8)
  have hE8 := HE7.out.below (below_drew hb8)
  obtain ⟨w9, hup, hT9, hF9⟩ := HST.out w8.drew _ hT8 hE8
  unfold ndV at hup
  simp only [] at hup
  have h8' : w8.drew.heap[w7.heap.size]? = some (.cells #[.int .i64 k1, .int .i64 td, .string d1, .slice A7 l1.length m7] 153 (0, 0)) := h8
  have x0 : w8.drew.cell? ⟨w7.heap.size, 0, none⟩ = some (.int .i64 k1) := by rw [blk_cell h8']; rfl
  have x1 : w8.drew.cell? ⟨w7.heap.size, 1, none⟩ = some (.int .i64 td) := by rw [blk_cell h8']; rfl
  have x2 : w8.drew.cell? ⟨w7.heap.size, 2, none⟩ = some (.string d1) := by rw [blk_cell h8']; rfl
  have x3 : w8.drew.cell? ⟨w7.heap.size, 3, none⟩ = some (.slice A7 l1.length m7) := by rw [blk_cell h8']; rfl
  have d0 : w8.drew.cell? ⟨p, 0, none⟩ = some (.map (some B)) := hT8.cell0
  have HT9 := qh hT9
  have HF9 := qh ((((Frm.ofBelow (p := p) (B := B) (by rw [HGE.out]; exact HB5.out)).trans HF7.out).trans (Frm.ofBelow (below_drew hb8))).trans hF9)
  clear hT9 hF9 hT8 hE8 h8 h8' hb8 hrun7 c7 hrun3 c3 hrun5 c5
  go_region
  clear hup x0 x1 x2 x3 d0
  have c9 := HT9.out.cell0
  obtain ⟨A9, m9, hle9, hC9, hrun⟩ := HL2.out _ HT9.out
  have hrun9 := hrun _ (Below.refl _ _)
  have HC9 := qh hC9
  clear hrun hC9
  go_upto_region 23 with (first | (go_at_call 149; refine (HCU.out _ _ _ HC9.out hle9).mono ?_; rintro e w10 ⟨v10, rfl, ho10, hb10⟩; have HT10 := qh (HT9.out.below hb10); have HE10 := qh (OwnE.entsAt ho10); have HF10 := qh (HF9.out.trans (Frm.ofBelow hb10)); clear ho10 hb10) | (go_at_call 101; refine (HEN2.out _ _ HT10.out HE10.out).mono ?_; rintro e w11 ⟨rfl, hT11, hF11⟩; have HT11 := qh hT11; have HF11 := qh (HF10.out.trans hF11); clear hT11 hF11))
  have c11 := HT11.out.cell0
  obtain ⟨A11, m11, hle11, hC11, hrun⟩ := HL3.out _ HT11.out
  have hrun11 := hrun _ (Below.refl _ _)
  have HC11 := qh hC11
  clear hrun hC11 hrun9 c9
  go_wp2_with (first | (go_at_call 102; refine (HPU.out _ _ _ HC11.out hle11).mono ?_; rintro e w12 ⟨v12, rfl, ho12, hb12⟩; have HT12 := qh (HT11.out.below hb12); have HE12 := qh (OwnE.entsAt ho12); have HF12 := qh (HF11.out.trans (Frm.ofBelow hb12)); clear ho12 hb12) | (go_at_call 101; refine (HEN3.out _ _ HT12.out HE12.out).mono ?_; rintro e w13 ⟨rfl, hT13, hF13⟩))
  go_ret
  exact ⟨rfl, hT13, HF12.out.trans hF13⟩
 ·
  have b5 : (kn == 1) = false := beq_eq_false_iff_ne.2 hkn
  clear HIN hkn
  go_enter Tryz.func115, Tryz.ntmps115
  go_wp2
  have hh1 := heap_alloc_new w (.cells #[.int .i64 fr, .int .i64 td] 3)
  have hb1 := (Below.refl _ w).alloc (Nat.le_refl _) (.cells #[.int .i64 fr, .int .i64 td] 3)
  generalize w.alloc (.cells #[.int .i64 fr, .int .i64 td] 3) = w1 at hh1 hb1 ⊢
  have HB1 := qh hb1
  have HT1 := qh (HT.out.below hb1)
  generalize hge : w.heap.size = g at hh1 HB1 ⊢
  have HGE := qh hge
  have HH1 := qh hh1
  have x0 : w1.cell? ⟨g, 0, none⟩ = some (.int .i64 fr) := by rw [blk_cell hh1]; rfl
  clear hge hh1 hb1 HT
  refine wp_loop_rounds 3 ?_
  rw [rounds_succ]
  go_wp2_with (go_at_call 97; refine (HD1.out _ HT1.out.at_).mono ?_; rintro e w2 ⟨rfl, hb2⟩; have HT2 := qh (HT1.out.below hb2); have HB2 := qh (HB1.out.trans (hb2.mono (by rw [← HGE.out]; exact HB1.out.size))); have hh2 := (hb2.block g (blk_lt HH1.out)).trans HH1.out; have x1 : w2.cell? ⟨g, 1, none⟩ = some (.int .i64 td) := (by rw [blk_cell hh2]; rfl); clear hh2 hb2)
  clear x0
  rw [rounds_succ]
  go_wp2_with (go_at_call 97; refine (HD2.out _ HT2.out.at_).mono ?_; rintro e w3 ⟨rfl, hb3⟩; have HT3 := qh (HT2.out.below hb3); have HB3 := qh (HB2.out.trans (hb3.mono (by rw [← HGE.out]; exact HB2.out.size))); clear hb3)
  have c3 := HT3.out.cell0
  obtain ⟨A3, m3, hle3, hC3, hrun⟩ := HLF.out _ HT3.out
  have hrun3 := hrun _ (Below.refl _ _)
  have HC3 := qh hC3
  clear hrun hC3 x1
  rw [rounds_succ]
  go_upto_region 21 with (first | (go_at_call 94; refine (HF.out _ _ _ HC3.out hle3).mono ?_; rintro e w4 ⟨rfl, hb4⟩; have HT4 := qh (HT3.out.below hb4); have HB4 := qh (HB3.out.trans (hb4.mono (by rw [← HGE.out]; exact HB3.out.size))); clear hb4) | (go_at_call 98; refine (HCK.out _).mono ?_; rintro e w5 ⟨rfl, hb5⟩; have HT5 := qh (HT4.out.below hb5); have HB5 := qh (HB4.out.trans (hb5.mono (by rw [← HGE.out]; exact HB4.out.size))); have c5 := HT5.out.cell0; obtain ⟨A5, m5, hle5, hC5, hrun⟩ := HLN.out _ HT5.out; have hrun5 := hrun _ (Below.refl _ _); clear hrun hC5 hb5) | (go_at_call 148; refine (HRM.out _ HT5.out).mono ?_; rintro e w7 ⟨rfl, hT7, hF7⟩; have HT7 := qh hT7; have HF7 := qh hF7; have c7 := HT7.out.cell0; obtain ⟨A7, m7, hle7, hC7, hrun⟩ := HL1.out _ HT7.out; have HE7 := qh (show EntsAt w7 (.slice A7 l1.length m7) l1 from ⟨A7, m7, rfl, hle7, hC7⟩); have hrun7 := hrun _ (Below.refl _ _); clear hrun hC7 hle7 hT7 hF7))
  have h8 := heap_alloc_new w7 (.cells #[.int .i64 k1, .int .i64 td, .string d1, .slice A7 l1.length m7] 153)
  have hb8 := (Below.refl _ w7).alloc (Nat.le_refl _) (.cells #[.int .i64 k1, .int .i64 td, .string d1, .slice A7 l1.length m7] 153)
  generalize w7.alloc (.cells #[.int .i64 k1, .int .i64 td, .string d1, .slice A7 l1.length m7] 153) = w8 at h8 hb8 ⊢
  have hT8 := HT7.out.below (below_drew hb8)
  have hE8 := HE7.out.below (below_drew hb8)
  obtain ⟨w9, hup, hT9, hF9⟩ := HST.out w8.drew _ hT8 hE8
  unfold ndV at hup
  simp only [] at hup
  have h8' : w8.drew.heap[w7.heap.size]? = some (.cells #[.int .i64 k1, .int .i64 td, .string d1, .slice A7 l1.length m7] 153 (0, 0)) := h8
  have x0 : w8.drew.cell? ⟨w7.heap.size, 0, none⟩ = some (.int .i64 k1) := by rw [blk_cell h8']; rfl
  have x1 : w8.drew.cell? ⟨w7.heap.size, 1, none⟩ = some (.int .i64 td) := by rw [blk_cell h8']; rfl
  have x2 : w8.drew.cell? ⟨w7.heap.size, 2, none⟩ = some (.string d1) := by rw [blk_cell h8']; rfl
  have x3 : w8.drew.cell? ⟨w7.heap.size, 3, none⟩ = some (.slice A7 l1.length m7) := by rw [blk_cell h8']; rfl
  have d0 : w8.drew.cell? ⟨p, 0, none⟩ = some (.map (some B)) := hT8.cell0
  have HT9 := qh hT9
  have HF9 := qh ((((Frm.ofBelow (p := p) (B := B) (by rw [HGE.out]; exact HB5.out)).trans HF7.out).trans (Frm.ofBelow (below_drew hb8))).trans hF9)
  clear hT9 hF9 hT8 hE8 h8 h8' hb8 hrun7 c7 hrun3 c3 hrun5 c5
  go_region
  clear hup x0 x1 x2 x3 d0
  have c9 := HT9.out.cell0
  obtain ⟨A9, m9, hle9, hC9, hrun⟩ := HL2.out _ HT9.out
  have hrun9 := hrun _ (Below.refl _ _)
  have HC9 := qh hC9
  clear hrun hC9
  go_upto_region 23 with (first | (go_at_call 149; refine (HCU.out _ _ _ HC9.out hle9).mono ?_; rintro e w10 ⟨v10, rfl, ho10, hb10⟩; have HT10 := qh (HT9.out.below hb10); have HE10 := qh (OwnE.entsAt ho10); have HF10 := qh (HF9.out.trans (Frm.ofBelow hb10)); clear ho10 hb10) | (go_at_call 101; refine (HEN2.out _ _ HT10.out HE10.out).mono ?_; rintro e w11 ⟨rfl, hT11, hF11⟩; have HT11 := qh hT11; have HF11 := qh (HF10.out.trans hF11); clear hT11 hF11))
  have c11 := HT11.out.cell0
  obtain ⟨A11, m11, hle11, hC11, hrun⟩ := HL3.out _ HT11.out
  have hrun11 := hrun _ (Below.refl _ _)
  have HC11 := qh hC11
  clear hrun hC11 hrun9 c9
  go_wp2_with (first | (go_at_call 102; refine (HPU.out _ _ _ HC11.out hle11).mono ?_; rintro e w12 ⟨v12, rfl, ho12, hb12⟩; have HT12 := qh (HT11.out.below hb12); have HE12 := qh (OwnE.entsAt ho12); have HF12 := qh (HF11.out.trans (Frm.ofBelow hb12)); clear ho12 hb12) | (go_at_call 101; refine (HEN3.out _ _ HT12.out HE12.out).mono ?_; rintro e w13 ⟨rfl, hT13, hF13⟩))
  go_ret
  exact ⟨rfl, hT13, HF12.out.trans hF13⟩
def isIn (n : Int) (r : RN) : Bool := r.f1 == n && !(r.f0 == 1)
def stepE (n : Int) (l : List En) (r : RN) : List En := if isIn n r = true then insE l ⟨r.f2, r.f0⟩ else l
def entsOf (L : List RN) (n : Int) : List En := L.foldl (stepE n) []
def ndOf (L : List RN) (r : RN) : Nd := ⟨r.f3, r.f1, r.f4, entsOf L r.f0⟩
def trOf (L : List RN) (last : Int) : Tr := ⟨fun n => (L.find? (fun r => r.f0 == n)).map (ndOf L), L.length, last⟩
theorem isIn_iff {n : Int} {r : RN} : isIn n r = true ↔ r.f1 = n ∧ r.f0 ≠ 1 := by simp [isIn]
theorem entsOf_snoc (L : List RN) (x : RN) (n : Int) : entsOf (L ++ [x]) n = if isIn n x = true then insE (entsOf L n) ⟨x.f2, x.f0⟩ else entsOf L n := by
 unfold entsOf; rw [List.foldl_append]; rfl
theorem fold_mem (n : Int) (e : En) : ∀ (L : List RN) (acc : List En), e ∈ L.foldl (stepE n) acc ↔ e ∈ acc ∨ ∃ r ∈ L, isIn n r = true ∧ e = ⟨r.f2, r.f0⟩
 | [], acc => by simp
 | a :: L, acc => by
  rw [List.foldl_cons, fold_mem n e L]
  unfold stepE
  split
  ·
   rename_i h
   rw [insE_mem]
   constructor
   ·
    rintro ((h1 | h1) | ⟨r, h1, h2⟩)
    · exact .inr ⟨a, List.mem_cons_self, h, h1⟩
    · exact .inl h1
    · exact .inr ⟨r, List.mem_cons_of_mem _ h1, h2⟩
   ·
    rintro (h1 | ⟨r, h1, h2, h3⟩)
    · exact .inl (.inr h1)
    ·
     rcases List.mem_cons.1 h1 with rfl | h1
     · exact .inl (.inl h3)
     · exact .inr ⟨r, h1, h2, h3⟩
  ·
   rename_i h
   constructor
   ·
    rintro (h1 | ⟨r, h1, h2⟩)
    · exact .inl h1
    · exact .inr ⟨r, List.mem_cons_of_mem _ h1, h2⟩
   ·
    rintro (h1 | ⟨r, h1, h2, h3⟩)
    · exact .inl h1
    ·
     rcases List.mem_cons.1 h1 with rfl | h1
     · exact absurd h2 h
     · exact .inr ⟨r, h1, h2, h3⟩
theorem mem_ents {L : List RN} {n : Int} {e : En} : e ∈ entsOf L n ↔ ∃ r ∈ L, isIn n r = true ∧ e = ⟨r.f2, r.f0⟩ := by
 unfold entsOf; rw [fold_mem]; simp
theorem fold_len (n : Int) : ∀ (L : List RN) (acc : List En), (L.foldl (stepE n) acc).length ≤ acc.length + L.length
 | [], acc => by simp
 | a :: L, acc => by
  rw [List.foldl_cons]
  have h := fold_len n L (stepE n acc a)
  have h2 : (stepE n acc a).length ≤ acc.length + 1 := by
   unfold stepE
   split
   · rw [insE_len]; exact Nat.le_refl _
   · omega
  simp only [List.length_cons]
  omega
theorem ents_len (L : List RN) (n : Int) : (entsOf L n).length ≤ L.length := by
 have := fold_len n L []
 simpa [entsOf] using this
theorem fold_rt (n : Int) : ∀ (L : List RN) (acc : List En), Rt acc → (∀ e ∈ acc, ∀ r ∈ L, isIn n r = true → e.f0 ≠ r.f2) → L.Pairwise (fun a b => a.f1 = b.f1 → a.f0 ≠ 1 → b.f0 ≠ 1 → a.f2 ≠ b.f2) → Rt (L.foldl (stepE n) acc)
 | [], acc, h, _, _ => h
 | a :: L, acc, h, hn, hp => by
  rw [List.foldl_cons]
  obtain ⟨h1, h2⟩ := List.pairwise_cons.1 hp
  refine fold_rt n L _ ?_ ?_ h2
  ·
   unfold stepE
   split
   ·
    rename_i hi
    exact insE_rt _ _ h (fun e he => hn e he a List.mem_cons_self hi)
   · exact h
  ·
   intro e he r hr hi
   unfold stepE at he
   split at he
   ·
    rename_i hj
    rcases (insE_mem _ _ _).1 he with rfl | he
    ·
     obtain ⟨i1, i2⟩ := isIn_iff.1 hi
     obtain ⟨j1, j2⟩ := isIn_iff.1 hj
     exact h1 r hr (j1.trans i1.symm) j2 i2
    · exact hn e he r (List.mem_cons_of_mem _ hr) hi
   · exact hn e he r (List.mem_cons_of_mem _ hr) hi
structure GoodL (L : List RN) (last : Int) : Prop where
 len : L.length ≤ 4096
 num : ∀ r ∈ L, 1 ≤ r.f0 ∧ r.f0 ≤ last
 uniq : L.Pairwise (fun a b => a.f0 ≠ b.f0)
 names : L.Pairwise (fun a b => a.f1 = b.f1 → a.f0 ≠ 1 → b.f0 ≠ 1 → a.f2 ≠ b.f2)
 data : ∀ r ∈ L, r.f4.size ≤ 65536
 up : ∀ r ∈ L, (atR L r.f1).f3 = 1
 root : ∃ r ∈ L, r.f0 = 1 ∧ r.f1 = 1 ∧ r.f3 = 1
theorem GoodL.rt {L : List RN} {last : Int} (h : GoodL L last) (n : Int) : Rt (entsOf L n) := fold_rt n L [] List.Pairwise.nil (by simp) h.names
theorem find_num {L : List RN} {r : RN} (hu : L.Pairwise (fun a b => a.f0 ≠ b.f0)) (hr : r ∈ L) : L.find? (fun q => q.f0 == r.f0) = some r := by
 induction L with
 | nil => cases hr
 | cons a L ih =>
  obtain ⟨h1, h2⟩ := List.pairwise_cons.1 hu
  rw [List.find?_cons]
  rcases List.mem_cons.1 hr with rfl | hr
  · simp
  ·
   have := h1 r hr
   rw [show (a.f0 == r.f0) = false by simpa using this]
   exact ih h2 hr
theorem at_mem {L : List RN} {last : Int} (h : GoodL L last) {r : RN} (hr : r ∈ L) : atR L r.f0 = r := by
 unfold atR; rw [find_num h.uniq hr]; rfl
theorem at_kind {L : List RN} {n : Int} (h : (atR L n).f3 ≠ 0) : ∃ r ∈ L, r.f0 = n ∧ atR L n = r := by
 unfold atR at h ⊢
 cases hf : L.find? (fun r => r.f0 == n) with
 | none => rw [hf] at h; exact absurd rfl h
 | some r =>
  refine ⟨r, List.mem_of_find?_eq_some hf, ?_, rfl⟩
  have := List.find?_some hf
  simpa using this
theorem GoodL.noEnts {L : List RN} {last : Int} (h : GoodL L last) {n : Int} (hn : L.find? (fun r => r.f0 == n) = none) : entsOf L n = [] := by
 cases he : entsOf L n with
 | nil => rfl
 | cons e l =>
  obtain ⟨r, hr, hi, _⟩ := mem_ents.1 (show e ∈ entsOf L n by rw [he]; exact List.mem_cons_self)
  obtain ⟨i1, i2⟩ := isIn_iff.1 hi
  have hk := h.up r hr
  rw [i1] at hk
  unfold atR at hk
  rw [hn] at hk
  cases hk
theorem node_of {L : List RN} {last : Int} (h : GoodL L last) (n : Int) : (trOf L last).node n = ⟨(atR L n).f3, (atR L n).f1, (atR L n).f4, entsOf L n⟩ := by
 unfold Tr.node trOf atR
 cases hf : L.find? (fun r => r.f0 == n) with
 | none => simp only [hf, Option.map_none, Option.getD_none, h.noEnts hf]; rfl
 | some r =>
  have := List.find?_some hf
  have : r.f0 = n := by simpa using this
  simp only [hf, Option.map_some, Option.getD_some, ndOf, this]
theorem find_ents {L : List RN} {last : Int} (h : GoodL L last) (n : Int) (s : ByteArray) : findE (entsOf L n) s = (inR L n s, decide (0 < inR L n s)) := by
 have hq : ∀ r : RN, inQ n s r = true ↔ isIn n r = true ∧ r.f2 = s := by
  intro r
  rw [isIn_iff]
  simp only [inQ, Bool.and_eq_true, beq_iff_eq, Bool.not_eq_true', beq_eq_false_iff_ne, toL_inj]
  constructor
  · rintro ⟨a, b, c⟩; exact ⟨⟨a, c⟩, b⟩
  · rintro ⟨⟨a, c⟩, b⟩; exact ⟨a, b, c⟩
 unfold findE inR
 cases hf : L.find? (inQ n s) with
 | none =>
  have : (entsOf L n).find? (fun e => e.f0.toList == s.toList) = none := by
   rw [List.find?_eq_none]
   intro e he
   obtain ⟨r, hr, hi, rfl⟩ := mem_ents.1 he
   have := List.find?_eq_none.1 hf r hr
   rw [hq] at this
   simp only [beq_iff_eq, toL_inj]
   exact fun e => this ⟨hi, e⟩
  rw [this]; rfl
 | some r =>
  have hr := List.mem_of_find?_eq_some hf
  have hrq := (hq r).1 (List.find?_some hf)
  have hm : (⟨r.f2, r.f0⟩ : En) ∈ entsOf L n := mem_ents.2 ⟨r, hr, hrq.1, rfl⟩
  cases hg : (entsOf L n).find? (fun e => e.f0.toList == s.toList) with
  | none =>
   have := List.find?_eq_none.1 hg _ hm
   simp [hrq.2] at this
  | some e =>
   have he := List.mem_of_find?_eq_some hg
   have hes := List.find?_some hg
   have hes : e.f0 = s := by simpa [toL_inj] using hes
   have hpos := (h.num r hr).1
   have : e = ⟨r.f2, r.f0⟩ := by
    apply Classical.byContradiction
    intro hne
    have hrt := h.rt n
    have key : bl e.f0 r.f2 = true ∨ bl r.f2 e.f0 = true := by
     obtain ⟨i, hi, rfl⟩ := List.getElem_of_mem he
     obtain ⟨j, hj, hj2⟩ := List.getElem_of_mem hm
     rcases Nat.lt_trichotomy i j with hlt | rfl | hgt
     ·
      have := List.pairwise_iff_getElem.1 hrt i j hi hj hlt
      rw [hj2] at this; exact .inl this
     · exact absurd hj2 hne
     ·
      have := List.pairwise_iff_getElem.1 hrt j i hj hi hgt
      rw [hj2] at this; exact .inr this
    rw [hes, hrq.2, bl_irr] at key
    rcases key with h | h <;> cases h
   subst this
   simp only []
   rw [decide_eq_true (by omega)]
theorem putE_eq {L : List RN} {last : Int} (h : GoodL L last) (d : Int) (s : ByteArray) (kind : Int) (data : ByteArray) : putE (trOf L last) d s kind data = putRE L d s kind data := by
 unfold putE putRE
 rw [node_of h d]
 simp only [find_ents h d s, decide_eq_true_eq]
 rfl
theorem find_snoc (L : List RN) (x : RN) (n : Int) : (L ++ [x]).find? (fun r => r.f0 == n) = match L.find? (fun r => r.f0 == n) with | some r => some r | none => if x.f0 = n then some x else none := by
 rw [List.find?_append]
 cases L.find? (fun r => r.f0 == n) with
 | some r => rfl
 | none =>
  by_cases e : x.f0 = n
  · simp [List.find?_cons, e]
  · simp [List.find?_cons, e]
theorem at_snoc {L : List RN} {x : RN} {n : Int} (h : (atR L n).f3 ≠ 0) : atR (L ++ [x]) n = atR L n := by
 unfold atR at h ⊢
 rw [find_snoc]
 cases hf : L.find? (fun r => r.f0 == n) with
 | some r => rfl
 | none => rw [hf] at h; exact absurd rfl h
theorem fresh {L : List RN} {last : Int} (h : GoodL L last) {n : Int} (hn : last < n) : L.find? (fun r => r.f0 == n) = none := by
 rw [List.find?_eq_none]
 intro r hr e
 have := (h.num r hr).2
 have e : r.f0 = n := by simpa using e
 omega
theorem mayE_zero {kind : Int} {data : ByteArray} (h : mayE kind data = 0) : (kind = 1 ∨ kind = 2 ∨ kind = 3) ∧ data.size ≤ 65536 := by
 unfold mayE at h
 split at h
 · cases h
 ·
  split at h
  · cases h
  ·
   split at h
   · cases h
   ·
    rename_i h1 _ h3
    exact ⟨by omega, by omega⟩
theorem inR_none {L : List RN} {last d : Int} {s : ByteArray} (h : GoodL L last) (hn : ¬ 0 < inR L d s) : ∀ r ∈ L, r.f1 = d → r.f0 ≠ 1 → r.f2 ≠ s := by
 intro r hr h1 h2 h3
 apply hn
 unfold inR
 cases hf : L.find? (inQ d s) with
 | none =>
  have := List.find?_eq_none.1 hf r hr
  simp [inQ, h1, h2, h3] at this
 | some q =>
  have := (h.num q (List.mem_of_find?_eq_some hf)).1
  show 0 < q.f0
  omega
theorem GoodL.last1 {L : List RN} {last : Int} (h : GoodL L last) : 1 ≤ last := by
 obtain ⟨r, hr, h1, _⟩ := h.root
 have := (h.num r hr).2
 omega
theorem GoodL.put {L : List RN} {last : Int} (h : GoodL L last) {d : Int} {s : ByteArray} {kind : Int} {data : ByteArray} (he : putRE L d s kind data = 0) : GoodL (L ++ [⟨last + 1, d, s, kind, data⟩]) (last + 1) := by
 obtain ⟨z1, z2, z3, z4, z5⟩ := putRE_zero he
 have hk := dirE_zero z1
 have hla := h.last1
 refine ⟨by simp; omega, ?_, ?_, ?_, ?_, ?_, ?_⟩
 ·
  intro r hr
  rcases List.mem_append.1 hr with hr | hr
  · have := h.num r hr; omega
  ·
   have : r = _ := List.mem_singleton.1 hr
   subst this
   exact ⟨by show 1 ≤ last + 1; omega, Int.le_refl _⟩
 ·
  rw [List.pairwise_append]
  refine ⟨h.uniq, List.pairwise_singleton _ _, ?_⟩
  intro a ha b hb
  have : b = _ := List.mem_singleton.1 hb
  subst this
  have := (h.num a ha).2
  show a.f0 ≠ last + 1
  omega
 ·
  rw [List.pairwise_append]
  refine ⟨h.names, List.pairwise_singleton _ _, ?_⟩
  intro a ha b hb
  have : b = _ := List.mem_singleton.1 hb
  subst this
  intro h1 h2 _
  exact inR_none h z3 a ha h1 h2
 ·
  intro r hr
  rcases List.mem_append.1 hr with hr | hr
  · exact h.data r hr
  ·
   have : r = _ := List.mem_singleton.1 hr
   subst this
   exact (mayE_zero z4).2
 ·
  intro r hr
  rcases List.mem_append.1 hr with hr | hr
  · rw [at_snoc (by rw [h.up r hr]; decide)]; exact h.up r hr
  ·
   have : r = _ := List.mem_singleton.1 hr
   subst this
   show (atR _ d).f3 = 1
   rw [at_snoc (by rw [hk]; decide)]; exact hk
 ·
  obtain ⟨r, hr, q⟩ := h.root
  exact ⟨r, List.mem_append_left _ hr, q⟩
theorem putT_eq {L : List RN} {last : Int} (h : GoodL L last) {d : Int} {s : ByteArray} {kind : Int} {data : ByteArray} (he : putRE L d s kind data = 0) :
  putT (trOf L last) d s kind data = trOf (L ++ [⟨last + 1, d, s, kind, data⟩]) (last + 1) := by
 obtain ⟨z1, z2, z3, z4, z5⟩ := putRE_zero he
 have hk := dirE_zero z1
 have hla := h.last1
 have hk0 : (atR L d).f3 ≠ 0 := by rw [hk]; decide
 obtain ⟨q, hq, hqd, hqe⟩ := at_kind hk0
 have hqn := (h.num q hq).2
 have hdl : d ≠ last + 1 := by omega
 have hnode := node_of h d
 have hf0 := fresh h (show last < last + 1 by omega)
 have hents : ∀ n, entsOf (L ++ [⟨last + 1, d, s, kind, data⟩]) n = if n = d then insE (entsOf L d) ⟨s, last + 1⟩ else entsOf L n := by
  intro n
  rw [entsOf_snoc]
  by_cases e : n = d
  ·
   subst e
   rw [if_pos (show isIn n ⟨last + 1, n, s, kind, data⟩ = true from isIn_iff.2 ⟨rfl, by show last + 1 ≠ 1; omega⟩), if_pos rfl]
  · rw [if_neg (fun hi => e (isIn_iff.1 hi).1.symm), if_neg e]
 unfold putT Tr.enter
 have hn2 : ((trOf L last).bump.set ((trOf L last).last + 1) ⟨kind, d, data, []⟩).node d = (trOf L last).node d := node_set_ne hdl
 rw [hn2, hnode]
 unfold Tr.set Tr.bump trOf
 simp only [Tr.mk.injEq]
 refine ⟨?_, ?_, by trivial⟩
 ·
  funext n
  rw [find_snoc]
  by_cases e : n = d
  ·
   subst e
   rw [if_pos rfl]
   have hfd : L.find? (fun r => r.f0 == n) = some q := by
    have := find_num h.uniq hq
    rw [hqd] at this
    exact this
   rw [hfd, hqe]
   simp only [Option.map_some, ndOf, hqd, hents, if_true]
  ·
   rw [if_neg e]
   by_cases e2 : n = last + 1
   ·
    subst e2
    rw [if_pos rfl, hf0]
    simp only [if_true, Option.map_some, ndOf, hents, if_neg e]
    rw [h.noEnts hf0]
   ·
    rw [if_neg e2]
    cases hf : L.find? (fun r => r.f0 == n) with
    | none =>
     simp only [Option.map_none]
     rw [if_neg (fun e3 => e2 e3.symm)]
     rfl
    | some r =>
     have hrn : r.f0 = n := by simpa using List.find?_some hf
     simp only [Option.map_some, ndOf, hents, hrn, if_neg e]
 ·
  simp only [hf0, Option.map_none, Option.isSome_none]
  have hfd : L.find? (fun r => r.f0 == d) = some q := by
   have := find_num h.uniq hq
   rw [hqd] at this
   exact this
  simp [hdl, hfd]
theorem good0 : GoodL [⟨1, 1, ⟨#[]⟩, 1, ⟨#[]⟩⟩] 1 := by
 refine ⟨by simp, by simp, List.pairwise_singleton _ _, List.pairwise_singleton _ _, (fun r hr => by rw [List.mem_singleton.1 hr]; exact Nat.zero_le _), (fun r hr => by rw [List.mem_singleton.1 hr]; rfl), ⟨_, List.mem_singleton.2 rfl, rfl, rfl, rfl⟩⟩
theorem T0_eq : T0 = trOf [⟨1, 1, ⟨#[]⟩, 1, ⟨#[]⟩⟩] 1 := by
 unfold T0 trOf
 simp only [Tr.mk.injEq]
 refine ⟨?_, by trivial, by trivial⟩
 funext n
 by_cases e : n = 1
 · subst e; rfl
 · rw [if_neg e, List.find?_cons, show ((1 : Int) == n) = false by simpa using (fun h => e h.symm)]; rfl
theorem TreeB.two {w : World} {p B : Nat} {T : Tr} (h : TreeB w p B T) : w.heap[p]? = some (.cells #[.map (some B), .int .i64 T.last] 156 (0, 0)) ∧ ∃ es clock, w.heap[B]? = some (.map es clock) := by
 obtain ⟨sv, D, h⟩ := h
 exact ⟨h.ptr, h.mapB⟩
theorem RAt.frm {w w' : World} {p B : Nat} {T : Tr} {v : Value} {L : List RN} {last : Int} (h : RAt w v L last) (hT : TreeB w p B T) (hf : Frm w w' p B) : RAt w' v L last := by
 obtain ⟨hp, es, clock, hB⟩ := hT.two
 obtain ⟨A, c, e1, e2, hC⟩ := h
 refine ⟨A, c, e1, e2, hC.1, hC.2.1, fun hn => ?_⟩
 obtain ⟨ad, eA, hc⟩ := hC.2.2 hn
 have key : ∀ (q : List Value) (x : RN) (j : Nat), k106.K w x q → (∀ i u, q[i]? = some u → w.cell? (ad.add (j * k106.sz + i)) = some u) → ad.block < w.heap.size ∧ ad.block ≠ p ∧ ad.block ≠ B := by
  intro q x j hK hq
  obtain rfl := k106_open hK
  have h0 := hq 2 _ rfl
  have hbl : (ad.add (j * k106.sz + 2)).block = ad.block := by unfold Addr.add; split <;> rfl
  generalize ad.add (j * k106.sz + 2) = a0 at h0 hbl
  refine ⟨?_, ?_, ?_⟩
  · rw [← hbl]; exact block_lt_of_cell h0
  ·
   intro e
   rw [e] at hbl
   obtain ⟨b, o, sp⟩ := a0
   subst hbl
   simp [World.cell?, hp] at h0
   cases sp with
   | none =>
    simp at h0
    match o, h0 with
    | 0, h0 => simp at h0
    | 1, h0 => simp at h0
    | n + 2, h0 => simp at h0
   | some q => simp at h0
  ·
   intro e
   rw [e] at hbl
   obtain ⟨b, o, sp⟩ := a0
   subst hbl
   simp [World.cell?, hB] at h0
 refine ⟨ad, eA, fun j q hj => ?_⟩
 obtain ⟨cs, hl, hK, hq⟩ := hc j q hj
 obtain ⟨k1, k2, k3⟩ := key cs q j hK hq
 refine ⟨cs, hl, ?_, fun i u hu => ?_⟩
 ·
  obtain rfl := k106_open hK
  exact k106_mk _ _
 ·
  have := hq i u hu
  have hbl : (ad.add (j * k106.sz + i)).block = ad.block := by unfold Addr.add; split <;> rfl
  rw [← this]
  generalize ad.add (j * k106.sz + i) = a at hbl
  unfold World.cell?
  rw [hbl, hf.block _ k1 k2 k3]
theorem cells_frm {w w' : World} {p B k : Nat} {T : Tr} {cs : Array Value} {t : TypeId} {fr : Nat × Nat} (h : w.heap[k]? = some (.cells cs t fr)) (ht : t ≠ 156) (hT : TreeB w p B T) (hf : Frm w w' p B) : w'.heap[k]? = some (.cells cs t fr) := by
 obtain ⟨hp, es, clock, hB⟩ := hT.two
 refine (hf.block k (Array.getElem?_eq_some_iff.1 h).1 ?_ ?_).trans h
 ·
  rintro rfl
  rw [hp] at h
  injection h with h
  injection h with _ h
  exact ht h.symm
 ·
  rintro rfl
  rw [hB] at h
  cases h
def putL (L : List RN) (last d : Int) (s : ByteArray) (kind : Int) (data : ByteArray) : List RN := if putRE L d s kind data = 0 then L ++ [⟨last + 1, d, s, kind, data⟩] else L
def putN (L : List RN) (last d : Int) (s : ByteArray) (kind : Int) (data : ByteArray) : Int := if putRE L d s kind data = 0 then last + 1 else last
def putA (L : List RN) (last d : Int) (s : ByteArray) (kind : Int) (data : ByteArray) : Int := if putRE L d s kind data = 0 then last + 1 else 0
theorem tput_calls (p B : Nat) (L : List RN) (last d : Int) (s : ByteArray) (kind : Int) (data : ByteArray) (w : World) (h : TreeB w p B (trOf L last)) (hG : GoodL L last) (hn : wf d) (hs : s.size < 4294967281) (hla : last < 1000000) :
  Calls Tryz.prog 56 #[pT p, .int .i64 d, .string s, .int .i64 kind, .string data] w fun e w' => e = .returned (.tuple #[.int .i64 (putA L last d s kind data), .int .i64 (putRE L d s kind data)]) ∧ TreeB w' p B (trOf (putL L last d s kind data) (putN L last d s kind data)) ∧ Frm w w' p B := by
 have hl : ((trOf L last).node d).ents.length < 4294967296 := by
  rw [node_of hG]
  have := ents_len L d
  have := hG.len
  show (entsOf L d).length < _
  omega
 have hR : Rt ((trOf L last).node d).ents := by rw [node_of hG]; exact hG.rt d
 have hq := putE_eq hG d s kind data
 by_cases he : putRE L d s kind data = 0
 ·
  refine (put_ok p B (trOf L last) d s kind data w h hn hl hR hs ⟨by have := hG.last1; show 0 ≤ last; omega, hla⟩ (by
   show ((L.find? _).map _) = none
   rw [show (trOf L last).last = last from rfl, fresh hG (show last < last + 1 by omega)]; rfl) (hq.trans he)).mono ?_
  rintro e w' ⟨rfl, hT, hf⟩
  rw [putT_eq hG he] at hT
  unfold putA putL putN
  rw [if_pos he, if_pos he, if_pos he, he]
  exact ⟨rfl, hT, hf⟩
 ·
  refine (put_err p B (trOf L last) d s kind data w h hn hl hR hs (by rw [hq]; exact he)).mono ?_
  rintro e w' ⟨rfl, hb⟩
  unfold putA putL putN
  rw [if_neg he, if_neg he, if_neg he, hq]
  exact ⟨rfl, h.below hb, Frm.ofBelow hb⟩
theorem good_put {L : List RN} {last d : Int} {s : ByteArray} {kind : Int} {data : ByteArray} (hG : GoodL L last) : GoodL (putL L last d s kind data) (putN L last d s kind data) := by
 unfold putL putN
 by_cases he : putRE L d s kind data = 0
 · rw [if_pos he, if_pos he]; exact hG.put he
 · rw [if_neg he, if_neg he]; exact hG
structure GoodM (L : List RN) : Prop where
 nm : ∀ r ∈ L, r.f0 ≠ 1 → Sp.check r.f2.data.toList = 0
 link : ∀ r ∈ L, r.f3 = 3 → 0 < r.f4.size
 kind : ∀ r ∈ L, 1 ≤ r.f3 ∧ r.f3 ≤ 3
 dirs : ∀ r ∈ L, r.f3 = 1 → r.f4.size = 0
 rank : ∃ d : Int → Nat, (∀ n, d n ≤ L.length) ∧ ∀ r ∈ L, r.f0 ≠ 1 → d r.f1 < d r.f0
theorem mayE_more {kind : Int} {data : ByteArray} (h : mayE kind data = 0) : (1 ≤ kind ∧ kind ≤ 3) ∧ (kind = 3 → 0 < data.size) ∧ (kind = 1 → data.size = 0) := by
 unfold mayE at h
 split at h
 · cases h
 ·
  split at h
  · cases h
  ·
   rename_i h1 h2
   exact ⟨by omega, by omega, by omega⟩
theorem GoodM.put {L : List RN} {last : Int} (hG : GoodL L last) (h : GoodM L) {d : Int} {s : ByteArray} {kind : Int} {data : ByteArray} (he : putRE L d s kind data = 0) : GoodM (L ++ [⟨last + 1, d, s, kind, data⟩]) := by
 obtain ⟨z1, z2, z3, z4, z5⟩ := putRE_zero he
 have hk := dirE_zero z1
 have hm := mayE_more z4
 have old : ∀ n, (atR L n).f3 = 1 → n ≤ last := by
  intro n hn
  obtain ⟨q, hq, hqn, _⟩ := at_kind (L := L) (n := n) (by rw [hn]; decide)
  have := (hG.num q hq).2
  omega
 refine ⟨?_, ?_, ?_, ?_, ?_⟩
 ·
  intro r hr h1
  rcases List.mem_append.1 hr with hr | hr
  · exact h.nm r hr h1
  ·
   have : r = _ := List.mem_singleton.1 hr
   subst this
   exact z2
 ·
  intro r hr h1
  rcases List.mem_append.1 hr with hr | hr
  · exact h.link r hr h1
  ·
   have : r = _ := List.mem_singleton.1 hr
   subst this
   exact hm.2.1 h1
 ·
  intro r hr
  rcases List.mem_append.1 hr with hr | hr
  · exact h.kind r hr
  ·
   have : r = _ := List.mem_singleton.1 hr
   subst this
   exact hm.1
 ·
  intro r hr h1
  rcases List.mem_append.1 hr with hr | hr
  · exact h.dirs r hr h1
  ·
   have : r = _ := List.mem_singleton.1 hr
   subst this
   exact hm.2.2 h1
 ·
  obtain ⟨rk, hb, hd⟩ := h.rank
  refine ⟨fun n => if n = last + 1 then rk d + 1 else rk n, fun n => ?_, ?_⟩
  ·
   have h1 := hb n
   have h2 := hb d
   simp only [List.length_append, List.length_singleton]
   split <;> omega
  ·
   intro r hr h1
   rcases List.mem_append.1 hr with hr | hr
   ·
    have h2 := (hG.num r hr).2
    have h3 := old r.f1 (hG.up r hr)
    simp only []
    rw [if_neg (by omega), if_neg (by omega)]
    exact hd r hr h1
   ·
    have : r = _ := List.mem_singleton.1 hr
    subst this
    have h3 := old d hk
    simp only []
    rw [if_neg (by omega), if_pos trivial]
    omega
theorem goodM0 : GoodM [⟨1, 1, ⟨#[]⟩, 1, ⟨#[]⟩⟩] := by
 refine ⟨fun r hr h => ?_, fun r hr h => ?_, fun r hr => ?_, fun r hr h => ?_, ⟨fun _ => 0, fun _ => Nat.zero_le _, fun r hr h => ?_⟩⟩ <;> rw [List.mem_singleton.1 hr] at *
 · exact absurd rfl h
 · cases h
 · decide
 · rfl
 · exact absurd rfl h
theorem goodM_put {L : List RN} {last d : Int} {s : ByteArray} {kind : Int} {data : ByteArray} (hG : GoodL L last) (h : GoodM L) : GoodM (putL L last d s kind data) := by
 unfold putL
 by_cases he : putRE L d s kind data = 0
 · rw [if_pos he]; exact h.put hG he
 · rw [if_neg he]; exact h
theorem inR_le {L : List RN} {last : Int} (h : GoodL L last) (d : Int) (s : ByteArray) : 0 ≤ inR L d s ∧ inR L d s ≤ last := by
 unfold inR
 cases hf : L.find? (inQ d s) with
 | none => have := h.last1; exact ⟨Int.le_refl _, by show (0 : Int) ≤ last; omega⟩
 | some r =>
  have := h.num r (List.mem_of_find?_eq_some hf)
  show 0 ≤ r.f0 ∧ r.f0 ≤ last
  omega
theorem inR_mem {L : List RN} {last : Int} (h : GoodL L last) {d : Int} {s : ByteArray} (hn : inR L d s ≠ 0) : ∃ r ∈ L, r.f0 = inR L d s ∧ r.f1 = d ∧ r.f2 = s ∧ r.f0 ≠ 1 ∧ atR L (inR L d s) = r := by
 unfold inR at hn ⊢
 cases hf : L.find? (inQ d s) with
 | none => rw [hf] at hn; exact absurd rfl hn
 | some r =>
  have hr := List.mem_of_find?_eq_some hf
  have hq := List.find?_some hf
  simp only [inQ, Bool.and_eq_true, beq_iff_eq, Bool.not_eq_true', beq_eq_false_iff_ne, toL_inj] at hq
  exact ⟨r, hr, rfl, hq.1, hq.2.1, hq.2.2, at_mem h hr⟩
theorem downT_of {L : List RN} {last : Int} (h : GoodL L last) (a : Int) (s : ByteArray) :
  downT (trOf L last) a s = if Sp.check s.data.toList = 0 then (if inR L a s = 0 then (0, 5) else (inR L a s, 0)) else (0, Sp.check s.data.toList) := by
 have h1 := inR_le h a s
 unfold downT
 rw [node_of h a]
 simp only [find_ents h a s, decide_eq_true_eq]
 by_cases h0 : inR L a s = 0
 · rw [if_neg (show ¬ 0 < inR L a s by omega), if_pos h0]
 · rw [if_pos (show 0 < inR L a s by omega), if_neg h0]
theorem rt_ext : ∀ {a b : List En}, Rt a → Rt b → (∀ e, e ∈ a ↔ e ∈ b) → a = b
 | [], [], _, _, _ => rfl
 | [], y :: b, _, _, h => absurd ((h y).2 List.mem_cons_self) (by simp)
 | x :: a, [], _, _, h => absurd ((h x).1 List.mem_cons_self) (by simp)
 | x :: a, y :: b, ha, hb, h => by
  obtain ⟨a1, a2⟩ := List.pairwise_cons.1 ha
  obtain ⟨b1, b2⟩ := List.pairwise_cons.1 hb
  have hxy : x = y := by
   rcases List.mem_cons.1 ((h x).1 List.mem_cons_self) with e | e
   · exact e
   ·
    rcases List.mem_cons.1 ((h y).2 List.mem_cons_self) with e2 | e2
    · exact e2.symm
    ·
     have h1 := b1 x e
     have h2 := a1 y e2
     rw [bl_asym h1] at h2
     cases h2
  subst hxy
  rw [rt_ext a2 b2 (fun e => ⟨fun he => ?_, fun he => ?_⟩)]
  ·
   rcases List.mem_cons.1 ((h e).1 (List.mem_cons_of_mem _ he)) with rfl | h3
   · have := a1 e he; rw [bl_irr] at this; cases this
   · exact h3
  ·
   rcases List.mem_cons.1 ((h e).2 (List.mem_cons_of_mem _ he)) with rfl | h3
   · have := b1 e he; rw [bl_irr] at this; cases this
   · exact h3
theorem cutEn_mem {l : List En} {s : ByteArray} {e : En} : e ∈ cutEn l s ↔ e ∈ l ∧ e.f0 ≠ s := by
 unfold cutEn
 rw [List.mem_filter]
 simp [toL_inj]
theorem cutEn_rt {l : List En} (h : Rt l) (s : ByteArray) : Rt (cutEn l s) := h.filter _
theorem cutEn_len (l : List En) (s : ByteArray) : (cutEn l s).length ≤ l.length := List.length_filter_le _ _
theorem findE_some {l : List En} {s : ByteArray} {e : En} (he : e ∈ l) (hs : e.f0 = s) : (findE l s).2 = true := by
 unfold findE
 cases hq : l.find? (fun e => e.f0.toList == s.toList) with
 | none => exact absurd (List.find?_eq_none.1 hq e he) (by simp [hs])
 | some q => rfl
theorem findE_nil' {l : List En} {s : ByteArray} (h : ∀ e ∈ l, e.f0 ≠ s) : (findE l s).2 = false := by
 unfold findE
 cases hq : l.find? (fun e => e.f0.toList == s.toList) with
 | none => rfl
 | some q => exact absurd (toL_inj.1 (by simpa using List.find?_some hq)) (h q (List.mem_of_find?_eq_some hq))
theorem Tr.ext {T U : Tr} (h1 : ∀ n, T.get n = U.get n) (h2 : T.cnt = U.cnt) (h3 : T.last = U.last) : T = U := by
 obtain ⟨g, c, l⟩ := T
 obtain ⟨g', c', l'⟩ := U
 simp only [Tr.mk.injEq]
 exact ⟨funext h1, h2, h3⟩
def cutL (L : List RN) (n : Int) : List RN := L.filter (fun r => !(r.f0 == n))
def withL (L : List RN) (x : RN) : List RN := L.map (fun r => if r.f0 = x.f0 then x else r)
theorem cutL_mem {L : List RN} {n : Int} {r : RN} : r ∈ cutL L n ↔ r ∈ L ∧ r.f0 ≠ n := by unfold cutL; rw [List.mem_filter]; simp
theorem cutL_find (L : List RN) (n m : Int) : (cutL L n).find? (fun r => r.f0 == m) = if m = n then none else L.find? (fun r => r.f0 == m) := by
 induction L with
 | nil => simp [cutL]
 | cons a L ih =>
  unfold cutL at ih ⊢
  rw [List.filter_cons]
  by_cases h : a.f0 = n
  ·
   rw [show (!(a.f0 == n)) = false by simp [h], if_neg (by simp), ih]
   by_cases e : m = n
   · rw [if_pos e, if_pos e]
   · rw [if_neg e, if_neg e, List.find?_cons, show (a.f0 == m) = false by rw [h]; simpa using fun e2 => e e2.symm]
  ·
   rw [show (!(a.f0 == n)) = true by simp [h], if_pos rfl, List.find?_cons, List.find?_cons, ih]
   by_cases e2 : a.f0 = m
   ·
    have hmn : ¬ m = n := by rw [← e2]; exact h
    rw [show (a.f0 == m) = true by simp [e2]]
    simp only [hmn, if_false]
   · rw [show (a.f0 == m) = false by simp [e2]]
theorem cutL_at {L : List RN} {n m : Int} (h : m ≠ n) : atR (cutL L n) m = atR L m := by unfold atR; rw [cutL_find, if_neg h]
theorem cutL_len {L : List RN} {n : Int} (hu : L.Pairwise (fun a b => a.f0 ≠ b.f0)) (hn : ∃ r ∈ L, r.f0 = n) : (cutL L n).length + 1 = L.length := by
 induction L with
 | nil => obtain ⟨r, hr, _⟩ := hn; cases hr
 | cons a L ih =>
  obtain ⟨h1, h2⟩ := List.pairwise_cons.1 hu
  unfold cutL at ih ⊢
  rw [List.filter_cons]
  by_cases h : a.f0 = n
  ·
   rw [show (!(a.f0 == n)) = false by simp [h], if_neg (by simp)]
   have : L.filter (fun r => !(r.f0 == n)) = L := by
    rw [List.filter_eq_self]
    intro r hr
    have := h1 r hr
    rw [h] at this
    simpa using fun e => this e.symm
   rw [this, List.length_cons]
  ·
   rw [show (!(a.f0 == n)) = true by simp [h], if_pos rfl, List.length_cons, List.length_cons]
   obtain ⟨r, hr, hrn⟩ := hn
   rcases List.mem_cons.1 hr with rfl | hr
   · exact absurd hrn h
   · rw [ih h2 ⟨r, hr, hrn⟩]
theorem withL_f0 (x r : RN) : (if r.f0 = x.f0 then x else r).f0 = r.f0 := by
 split
 · rename_i h; exact h.symm
 · rfl
theorem withL_find (L : List RN) (x : RN) (m : Int) : (withL L x).find? (fun r => r.f0 == m) = (L.find? (fun r => r.f0 == m)).map (fun r => if r.f0 = x.f0 then x else r) := by
 unfold withL
 rw [List.find?_map]
 congr 1
 congr 1
 funext r
 show ((if r.f0 = x.f0 then x else r).f0 == m) = _
 rw [withL_f0]
theorem withL_mem {L : List RN} {x r : RN} (h : r ∈ withL L x) : r = x ∨ (r ∈ L ∧ r.f0 ≠ x.f0) := by
 unfold withL at h
 obtain ⟨q, hq, rfl⟩ := List.mem_map.1 h
 by_cases e : q.f0 = x.f0
 · rw [if_pos e]; exact .inl rfl
 · rw [if_neg e]; exact .inr ⟨hq, e⟩
theorem withL_mem1 {L : List RN} {x r : RN} (h : r ∈ L) (hn : r.f0 ≠ x.f0) : r ∈ withL L x := List.mem_map.2 ⟨r, h, by rw [if_neg hn]⟩
theorem withL_mem2 {L : List RN} {x r : RN} (h : r ∈ L) (hn : r.f0 = x.f0) : x ∈ withL L x := List.mem_map.2 ⟨r, h, by rw [if_pos hn]⟩
theorem withL_len (L : List RN) (x : RN) : (withL L x).length = L.length := List.length_map _
theorem withL_at1 {L : List RN} {x : RN} (h : ∃ r ∈ L, r.f0 = x.f0) : atR (withL L x) x.f0 = x := by
 unfold atR
 rw [withL_find]
 obtain ⟨r, hr, hrx⟩ := h
 cases hf : L.find? (fun r => r.f0 == x.f0) with
 | none => exact absurd (List.find?_eq_none.1 hf r hr) (by simp [hrx])
 | some q =>
  have : q.f0 = x.f0 := by simpa using List.find?_some hf
  simp [this]
theorem withL_at2 {L : List RN} {x : RN} {m : Int} (h : m ≠ x.f0) : atR (withL L x) m = atR L m := by
 unfold atR
 rw [withL_find]
 cases hf : L.find? (fun r => r.f0 == m) with
 | none => rfl
 | some q =>
  have : q.f0 = m := by simpa using List.find?_some hf
  simp [this, h]
theorem withL_kind {L : List RN} {x : RN} (hk : (atR L x.f0).f3 = x.f3) (h : ∃ r ∈ L, r.f0 = x.f0) (m : Int) : (atR (withL L x) m).f3 = (atR L m).f3 := by
 by_cases e : m = x.f0
 · subst e; rw [withL_at1 h, hk]
 · rw [withL_at2 e]
theorem GoodL.root_at {L : List RN} {last : Int} (h : GoodL L last) : (atR L 1).f3 = 1 ∧ (atR L 1).f1 = 1 := by
 obtain ⟨r, hr, h1, h2, h3⟩ := h.root
 have := at_mem h hr
 rw [h1] at this
 rw [this]
 exact ⟨h3, h2⟩
theorem GoodL.cut {L : List RN} {last : Int} (h : GoodL L last) {n : Int} (hn1 : n ≠ 1) (hne : entsOf L n = []) : GoodL (cutL L n) last := by
 refine ⟨Nat.le_trans (List.length_filter_le _ _) h.len, fun r hr => h.num r (cutL_mem.1 hr).1, h.uniq.filter _, h.names.filter _, fun r hr => h.data r (cutL_mem.1 hr).1, fun r hr => ?_, ?_⟩
 ·
  obtain ⟨h1, h2⟩ := cutL_mem.1 hr
  have hu := h.up r h1
  rw [cutL_at ?_]
  · exact hu
  ·
   intro e
   by_cases h3 : r.f0 = 1
   ·
    have h4 := at_mem h h1
    rw [h3] at h4
    have := h.root_at.2
    rw [h4, e] at this
    exact hn1 this
   ·
    have hm : (⟨r.f2, r.f0⟩ : En) ∈ entsOf L n := mem_ents.2 ⟨r, h1, isIn_iff.2 ⟨e, h3⟩, rfl⟩
    rw [hne] at hm
    cases hm
 ·
  obtain ⟨r, hr, h1, h2⟩ := h.root
  exact ⟨r, cutL_mem.2 ⟨hr, by rw [h1]; exact fun e => hn1 e.symm⟩, h1, h2⟩
theorem rank_norm {L : List RN} {last : Int} (h : GoodL L last) {d : Int → Nat} (hd : ∀ r ∈ L, r.f0 ≠ 1 → d r.f1 < d r.f0) :
  ∃ d : Int → Nat, (∀ n, d n ≤ L.length) ∧ ∀ r ∈ L, r.f0 ≠ 1 → d r.f1 < d r.f0 := by
 refine ⟨fun n => (L.filter (fun r => decide (d r.f0 < d n))).length, fun n => List.length_filter_le _ _, fun r hr h1 => ?_⟩
 obtain ⟨q, hq, hqn, _⟩ := at_kind (L := L) (n := r.f1) (by rw [h.up r hr]; decide)
 have hlt := hd r hr h1
 have key : ∀ M : List RN, (M.filter (fun x => decide (d x.f0 < d r.f1))).length ≤ (M.filter (fun x => decide (d x.f0 < d r.f0))).length ∧ (q ∈ M → (M.filter (fun x => decide (d x.f0 < d r.f1))).length < (M.filter (fun x => decide (d x.f0 < d r.f0))).length) := by
  intro M
  induction M with
  | nil => exact ⟨Nat.le_refl _, fun h => by cases h⟩
  | cons a M ih =>
   obtain ⟨i1, i2⟩ := ih
   rw [List.filter_cons, List.filter_cons]
   by_cases c1 : d a.f0 < d r.f1
   ·
    have c2 : d a.f0 < d r.f0 := Nat.lt_trans c1 hlt
    rw [decide_eq_true c1, decide_eq_true c2, if_pos rfl, if_pos rfl, List.length_cons, List.length_cons]
    refine ⟨by omega, fun hm => ?_⟩
    rcases List.mem_cons.1 hm with rfl | hm
    · rw [hqn] at c1; omega
    · have := i2 hm; omega
   ·
    rw [decide_eq_false c1, if_neg (by simp)]
    by_cases c2 : d a.f0 < d r.f0
    ·
     rw [decide_eq_true c2, if_pos rfl, List.length_cons]
     exact ⟨by omega, fun _ => by omega⟩
    ·
     rw [decide_eq_false c2, if_neg (by simp)]
     refine ⟨i1, fun hm => ?_⟩
     rcases List.mem_cons.1 hm with rfl | hm
     · rw [hqn] at c2; exact absurd hlt c2
     · exact i2 hm
 exact (key L).2 hq
theorem GoodM.cut {L : List RN} {last : Int} (h : GoodL L last) (hM : GoodM L) {n : Int} (hn1 : n ≠ 1) (hne : entsOf L n = []) : GoodM (cutL L n) := by
 obtain ⟨d, -, hd⟩ := hM.rank
 exact ⟨fun r hr => hM.nm r (cutL_mem.1 hr).1, fun r hr => hM.link r (cutL_mem.1 hr).1, fun r hr => hM.kind r (cutL_mem.1 hr).1, fun r hr => hM.dirs r (cutL_mem.1 hr).1, rank_norm (h.cut hn1 hne) (fun r hr => hd r (cutL_mem.1 hr).1)⟩
theorem GoodL.with {L : List RN} {last : Int} (h : GoodL L last) {x : RN} (hx1 : x.f0 ≠ 1) (hmem : ∃ r ∈ L, r.f0 = x.f0) (hk : (atR L x.f0).f3 = x.f3) (hdata : x.f4.size ≤ 65536) (hup : (atR L x.f1).f3 = 1)
  (hnm : ∀ r ∈ L, r.f0 ≠ x.f0 → r.f1 = x.f1 → r.f0 ≠ 1 → r.f2 ≠ x.f2) : GoodL (withL L x) last := by
 refine ⟨by rw [withL_len]; exact h.len, fun r hr => ?_, ?_, ?_, fun r hr => ?_, fun r hr => ?_, ?_⟩
 ·
  rcases withL_mem hr with rfl | hr
  ·
   obtain ⟨q, hq, hqn⟩ := hmem
   rw [← hqn]
   exact h.num q hq
  · exact h.num r hr.1
 ·
  unfold withL
  rw [List.pairwise_map]
  refine h.uniq.imp (fun {a b} hab => ?_)
  rw [withL_f0, withL_f0]
  exact hab
 ·
  unfold withL
  rw [List.pairwise_map]
  refine (h.uniq.and h.names).imp_of_mem (fun {a b} ha hb hab => ?_)
  intro h1 h2 h3
  rw [withL_f0] at h2 h3
  by_cases ea : a.f0 = x.f0
  ·
   have eb : ¬ b.f0 = x.f0 := fun e => hab.1 (ea.trans e.symm)
   rw [if_pos ea, if_neg eb] at h1 ⊢
   exact (hnm b hb eb h1.symm h3).symm
  ·
   by_cases eb : b.f0 = x.f0
   ·
    rw [if_neg ea, if_pos eb] at h1 ⊢
    exact hnm a ha ea h1 h2
   ·
    rw [if_neg ea, if_neg eb] at h1 ⊢
    exact hab.2 h1 h2 h3
 ·
  rcases withL_mem hr with rfl | hr
  · exact hdata
  · exact h.data r hr.1
 ·
  rw [withL_kind hk hmem]
  rcases withL_mem hr with rfl | hr
  · exact hup
  · exact h.up r hr.1
 ·
  obtain ⟨r, hr, h1, h2⟩ := h.root
  exact ⟨r, withL_mem1 hr (by rw [h1]; exact fun e => hx1 e.symm), h1, h2⟩
theorem GoodM.with {L : List RN} {last : Int} {x : RN} (hG : GoodL (withL L x) last) (hM : GoodM L) (hn : Sp.check x.f2.data.toList = 0) (hl : x.f3 = 3 → 0 < x.f4.size) (hk : 1 ≤ x.f3 ∧ x.f3 ≤ 3) (hd : x.f3 = 1 → x.f4.size = 0)
  (hr : ∃ d : Int → Nat, ∀ r ∈ withL L x, r.f0 ≠ 1 → d r.f1 < d r.f0) : GoodM (withL L x) := by
 obtain ⟨d, hd'⟩ := hr
 refine ⟨fun r hr h1 => ?_, fun r hr h1 => ?_, fun r hr => ?_, fun r hr h1 => ?_, rank_norm hG hd'⟩
 ·
  rcases withL_mem hr with rfl | hr
  · exact hn
  · exact hM.nm r hr.1 h1
 ·
  rcases withL_mem hr with rfl | hr
  · exact hl h1
  · exact hM.link r hr.1 h1
 ·
  rcases withL_mem hr with rfl | hr
  · exact hk
  · exact hM.kind r hr.1
 ·
  rcases withL_mem hr with rfl | hr
  · exact hd h1
  · exact hM.dirs r hr.1 h1
def cutRE (L : List RN) (d : Int) (s : ByteArray) : Int :=
 if dirE (atR L d).f3 ≠ 0 then dirE (atR L d).f3 else if inR L d s = 0 then 5 else if 0 < (entsOf L (inR L d s)).length then 9 else 0
theorem in_dec {L : List RN} {last : Int} (h : GoodL L last) (d : Int) (s : ByteArray) : (decide (0 < inR L d s) = false) = (inR L d s = 0) := by
 have := (inR_le h d s).1
 rw [decide_eq_false_iff_not]
 exact propext ⟨fun e => by omega, fun e => by omega⟩
theorem cutE_eq {L : List RN} {last : Int} (h : GoodL L last) (d : Int) (s : ByteArray) : cutE (trOf L last) d s = cutRE L d s := by
 unfold cutE cutRE
 rw [node_of h d]
 simp only [find_ents h d s]
 rw [node_of h (inR L d s)]
 simp only [in_dec h]
theorem cutRE_zero {L : List RN} {d : Int} {s : ByteArray} (h : cutRE L d s = 0) : (atR L d).f3 = 1 ∧ inR L d s ≠ 0 ∧ entsOf L (inR L d s) = [] := by
 unfold cutRE at h
 split at h
 · rename_i g; exact absurd h g
 ·
  rename_i g1
  split at h
  · cases h
  ·
   rename_i g2
   split at h
   · cases h
   ·
    rename_i g3
    exact ⟨dirE_zero (Decidable.byContradiction fun e => g1 e), g2, List.eq_nil_of_length_eq_zero (by omega)⟩
theorem find_of {L : List RN} {last : Int} (h : GoodL L last) {r : RN} (hr : r ∈ L) : L.find? (fun q => q.f0 == r.f0) = some r := find_num h.uniq hr
theorem ents_cut {L : List RN} {last : Int} (h : GoodL L last) {r : RN} (hr : r ∈ L) (h1 : r.f0 ≠ 1) (hne : entsOf L r.f0 = []) (m : Int) : entsOf (cutL L r.f0) m = if m = r.f1 then cutEn (entsOf L r.f1) r.f2 else entsOf L m := by
 have hrt := (h.cut h1 hne).rt m
 by_cases e : m = r.f1
 ·
  subst e
  rw [if_pos rfl]
  refine rt_ext hrt (cutEn_rt (h.rt _) _) (fun x => ?_)
  rw [cutEn_mem, mem_ents, mem_ents]
  constructor
  ·
   rintro ⟨q, hq, hi, rfl⟩
   obtain ⟨q1, q2⟩ := cutL_mem.1 hq
   refine ⟨⟨q, q1, hi, rfl⟩, fun e => ?_⟩
   obtain ⟨i1, i2⟩ := isIn_iff.1 hi
   have hin := find_ents h r.f1 r.f2
   have hA : (⟨q.f2, q.f0⟩ : En) ∈ entsOf L r.f1 := mem_ents.2 ⟨q, q1, hi, rfl⟩
   have hB : (⟨r.f2, r.f0⟩ : En) ∈ entsOf L r.f1 := mem_ents.2 ⟨r, hr, isIn_iff.2 ⟨rfl, h1⟩, rfl⟩
   have hpw := h.names
   have := List.pairwise_iff_getElem.1 hpw
   obtain ⟨i, hi', rfl⟩ := List.mem_iff_getElem.1 q1
   obtain ⟨j, hj, rfl⟩ := List.mem_iff_getElem.1 hr
   rcases Nat.lt_trichotomy i j with c | c | c
   · exact this i j hi' hj c i1 i2 h1 e
   · subst c; exact q2 rfl
   · exact this j i hj hi' c i1.symm h1 i2 e.symm
  ·
   rintro ⟨⟨q, q1, hi, rfl⟩, hn⟩
   refine ⟨q, cutL_mem.2 ⟨q1, fun e => ?_⟩, hi, rfl⟩
   have e1 := find_of h q1
   have e2 := find_of h hr
   rw [e] at e1
   rw [e1] at e2
   have := Option.some.inj e2
   rw [this] at hn
   exact hn rfl
 ·
  rw [if_neg e]
  refine rt_ext hrt (h.rt _) (fun x => ?_)
  rw [mem_ents, mem_ents]
  constructor
  ·
   rintro ⟨q, hq, hi, rfl⟩
   exact ⟨q, (cutL_mem.1 hq).1, hi, rfl⟩
  ·
   rintro ⟨q, q1, hi, rfl⟩
   refine ⟨q, cutL_mem.2 ⟨q1, fun e2 => ?_⟩, hi, rfl⟩
   have e1 := find_of h q1
   have e3 := find_of h hr
   rw [e2] at e1
   rw [e1] at e3
   have := Option.some.inj e3
   rw [this] at hi
   exact e (isIn_iff.1 hi).1.symm
theorem tr_get {L : List RN} {last : Int} (m : Int) : (trOf L last).get m = (L.find? (fun r => r.f0 == m)).map (ndOf L) := rfl
theorem tr_get_live {L : List RN} {last : Int} (h : GoodL L last) {m : Int} (hk : (atR L m).f3 ≠ 0) : (trOf L last).get m = some ((trOf L last).node m) := by
 unfold Tr.node
 obtain ⟨q, hq, hqm, _⟩ := at_kind hk
 have := find_of h hq
 rw [hqm] at this
 rw [tr_get, this]
 rfl
theorem live_ents {L : List RN} {last : Int} (h : GoodL L last) {r : RN} (hr : r ∈ L) (h1 : r.f0 ≠ 1) : entsOf L r.f1 ≠ [] := by
 intro e
 have hm : (⟨r.f2, r.f0⟩ : En) ∈ entsOf L r.f1 := mem_ents.2 ⟨r, hr, isIn_iff.2 ⟨rfl, h1⟩, rfl⟩
 rw [e] at hm
 cases hm
theorem cutT_eq {L : List RN} {last : Int} (h : GoodL L last) {d : Int} {s : ByteArray} (he : cutRE L d s = 0) : cutT (trOf L last) d s = trOf (cutL L (inR L d s)) last := by
 obtain ⟨z1, z2, z3⟩ := cutRE_zero he
 obtain ⟨r, hr, hrn, hrd, hrs, hr1, _⟩ := inR_mem h z2
 unfold cutT
 rw [node_of h d]
 simp only [find_ents h d s]
 rw [← hrn] at z3 ⊢
 subst hrd hrs
 have hdn : r.f1 ≠ r.f0 := fun e => live_ents h hr hr1 (by rw [e]; exact z3)
 have hlive : (trOf L last).get r.f1 = some ((trOf L last).node r.f1) := tr_get_live h (by rw [z1]; decide)
 have hgr : (trOf L last).get r.f0 = some (ndOf L r) := by rw [tr_get, find_of h hr]; rfl
 have hents := ents_cut h hr hr1 z3
 refine Tr.ext (fun m => ?_) ?_ rfl
 ·
  show (if m = r.f1 then some { ((trOf L last).del r.f0).node r.f1 with ents := cutEn (entsOf L r.f1) r.f2 } else (if m = r.f0 then none else (trOf L last).get m)) = _
  rw [node_del_ne hdn, tr_get (L := cutL L r.f0), cutL_find]
  by_cases e : m = r.f1
  ·
   subst e
   rw [if_pos rfl, if_neg hdn, node_of h]
   obtain ⟨q, hq, hqm, hqa⟩ := at_kind (L := L) (n := r.f1) (by rw [z1]; decide)
   have := find_of h hq
   rw [hqm] at this
   rw [this, hqa]
   simp only [Option.map_some, ndOf, hqm, hents, if_true]
  ·
   rw [if_neg e]
   by_cases e2 : m = r.f0
   · rw [if_pos e2, if_pos e2]; rfl
   ·
    rw [if_neg e2, if_neg e2, tr_get]
    cases hf : L.find? (fun r => r.f0 == m) with
    | none => rfl
    | some q =>
     have hqm : q.f0 = m := by simpa using List.find?_some hf
     simp only [Option.map_some, ndOf, hqm, hents, if_neg e]
 ·
  have h1 : (((trOf L last).del r.f0).get r.f1).isSome = true := by
   show (if r.f1 = r.f0 then none else (trOf L last).get r.f1).isSome = true
   rw [if_neg hdn, hlive]; rfl
  show (if (((trOf L last).del r.f0).get r.f1).isSome then ((trOf L last).del r.f0).cnt else ((trOf L last).del r.f0).cnt + 1) = (cutL L r.f0).length
  rw [h1, if_pos rfl]
  show (if ((trOf L last).get r.f0).isSome then L.length - 1 else L.length) = _
  rw [hgr, Option.isSome_some, if_pos rfl]
  have := cutL_len h.uniq ⟨r, hr, rfl⟩
  omega
theorem cut_good {L : List RN} {last : Int} (h : GoodL L last) (hM : GoodM L) {d : Int} {s : ByteArray} (he : cutRE L d s = 0) : GoodL (cutL L (inR L d s)) last ∧ GoodM (cutL L (inR L d s)) := by
 obtain ⟨z1, z2, z3⟩ := cutRE_zero he
 obtain ⟨r, hr, hrn, hrd, hrs, hr1, _⟩ := inR_mem h z2
 rw [hrn] at hr1
 exact ⟨h.cut hr1 z3, GoodM.cut h hM hr1 z3⟩
theorem ents_with {L : List RN} {x : RN} (hm : ∃ r ∈ L, r.f0 = x.f0) (m : Int) (e : En) : e ∈ entsOf (withL L x) m ↔ (isIn m x = true ∧ e = ⟨x.f2, x.f0⟩) ∨ ∃ r ∈ L, r.f0 ≠ x.f0 ∧ isIn m r = true ∧ e = ⟨r.f2, r.f0⟩ := by
 rw [mem_ents]
 constructor
 ·
  rintro ⟨q, hq, hi, rfl⟩
  rcases withL_mem hq with rfl | hq
  · exact .inl ⟨hi, rfl⟩
  · exact .inr ⟨q, hq.1, hq.2, hi, rfl⟩
 ·
  rintro (⟨hi, rfl⟩ | ⟨q, hq, hn, hi, rfl⟩)
  ·
   obtain ⟨r, hr, hrx⟩ := hm
   exact ⟨x, withL_mem2 hr hrx, hi, rfl⟩
  · exact ⟨q, withL_mem1 hq hn, hi, rfl⟩
def setRE (L : List RN) (n : Int) (data : ByteArray) : Int := if (atR L n).f3 = 0 then 5 else if (atR L n).f3 = 1 then 8 else mayE (atR L n).f3 data
def setX (L : List RN) (n : Int) (data : ByteArray) : RN := { atR L n with f4 := data }
theorem setE_eq {L : List RN} {last : Int} (h : GoodL L last) (n : Int) (data : ByteArray) : setE (trOf L last) n data = setRE L n data := by
 unfold setE setRE
 rw [node_of h n]
theorem setRE_zero {L : List RN} {n : Int} {data : ByteArray} (h : setRE L n data = 0) : (atR L n).f3 ≠ 0 ∧ (atR L n).f3 ≠ 1 ∧ mayE (atR L n).f3 data = 0 := by
 unfold setRE at h
 split at h
 · cases h
 ·
  split at h
  · cases h
  · exact ⟨by assumption, by assumption, h⟩
theorem set_row {L : List RN} {last : Int} (h : GoodL L last) {n : Int} {data : ByteArray} (hk : (atR L n).f3 ≠ 0) : ∃ r ∈ L, r.f0 = n ∧ atR L n = r ∧ (setX L n data).f0 = n := by
 obtain ⟨r, hr, hrn, hra⟩ := at_kind hk
 exact ⟨r, hr, hrn, hra, by show (atR L n).f0 = n; rw [hra]; exact hrn⟩
theorem set_good {L : List RN} {last : Int} (h : GoodL L last) (hM : GoodM L) {n : Int} {data : ByteArray} (he : setRE L n data = 0) : GoodL (withL L (setX L n data)) last ∧ GoodM (withL L (setX L n data)) := by
 obtain ⟨z1, z2, z3⟩ := setRE_zero he
 obtain ⟨r, hr, hrn, hra, hx0⟩ := set_row h (data := data) z1
 have hm := mayE_more z3
 have hx1 : (setX L n data).f0 ≠ 1 := by
  rw [hx0]
  intro e
  rw [e] at z2
  exact z2 h.root_at.1
 have hmem : ∃ r ∈ L, r.f0 = (setX L n data).f0 := ⟨r, hr, by rw [hx0]; exact hrn⟩
 have hk : (atR L (setX L n data).f0).f3 = (setX L n data).f3 := by rw [hx0]; rfl
 have hup : (atR L (setX L n data).f1).f3 = 1 := by
  show (atR L (atR L n).f1).f3 = 1
  rw [hra]; exact h.up r hr
 have hG : GoodL (withL L (setX L n data)) last := by
  refine h.with hx1 hmem hk (mayE_zero z3).2 hup (fun q hq hn h1 h2 h3 => ?_)
  have e1 : (setX L n data).f1 = r.f1 := by show (atR L n).f1 = _; rw [hra]
  have e2 : (setX L n data).f2 = r.f2 := by show (atR L n).f2 = _; rw [hra]
  rw [e1] at h1
  rw [e2] at h3
  rw [hx0, ← hrn] at hn
  have hr1 : r.f0 ≠ 1 := by rw [hrn, ← hx0]; exact hx1
  have := List.pairwise_iff_getElem.1 h.names
  obtain ⟨i, hi, rfl⟩ := List.mem_iff_getElem.1 hq
  obtain ⟨j, hj, rfl⟩ := List.mem_iff_getElem.1 hr
  rcases Nat.lt_trichotomy i j with c | c | c
  · exact this i j hi hj c h1 h2 hr1 h3
  · subst c; exact hn rfl
  · exact this j i hj hi c h1.symm hr1 h2 h3.symm
 refine ⟨hG, hM.with hG ?_ hm.2.1 hm.1 hm.2.2 ?_⟩
 ·
  show Sp.check (atR L n).f2.data.toList = 0
  rw [hra]
  exact hM.nm r hr (by rw [hrn, ← hx0]; exact hx1)
 ·
  obtain ⟨d, -, hd⟩ := hM.rank
  refine ⟨d, fun q hq h1 => ?_⟩
  rcases withL_mem hq with rfl | hq
  ·
   have := hd r hr (by rw [hrn, ← hx0]; exact hx1)
   show d (atR L n).f1 < d (atR L n).f0
   rw [hra]; exact this
  · exact hd q hq.1 h1
theorem setT_eq {L : List RN} {last : Int} (h : GoodL L last) (hM : GoodM L) {n : Int} {data : ByteArray} (he : setRE L n data = 0) : setT (trOf L last) n data = trOf (withL L (setX L n data)) last := by
 obtain ⟨z1, z2, z3⟩ := setRE_zero he
 obtain ⟨r, hr, hrn, hra, hx0⟩ := set_row h (data := data) z1
 have hG := (set_good h hM he).1
 have hmem : ∃ r ∈ L, r.f0 = (setX L n data).f0 := ⟨r, hr, by rw [hx0]; exact hrn⟩
 have hents : ∀ m, entsOf (withL L (setX L n data)) m = entsOf L m := by
  intro m
  refine rt_ext (hG.rt m) (h.rt m) (fun e => ?_)
  rw [ents_with hmem, mem_ents]
  have hi : isIn m (setX L n data) = isIn m r := by
   show ((atR L n).f1 == m && !((atR L n).f0 == 1)) = _
   rw [hra]; rfl
  have h2 : (⟨(setX L n data).f2, (setX L n data).f0⟩ : En) = ⟨r.f2, r.f0⟩ := by
   show (⟨(atR L n).f2, (atR L n).f0⟩ : En) = _
   rw [hra]
  constructor
  ·
   rintro (⟨h3, rfl⟩ | ⟨q, hq, _, h3, rfl⟩)
   · exact ⟨r, hr, by rw [← hi]; exact h3, h2⟩
   · exact ⟨q, hq, h3, rfl⟩
  ·
   rintro ⟨q, hq, h3, rfl⟩
   by_cases e : q.f0 = (setX L n data).f0
   ·
    have e1 := find_of h hq
    have e2 := find_of h hr
    rw [e, hx0] at e1
    rw [hrn] at e2
    rw [e1] at e2
    have := Option.some.inj e2
    subst this
    exact .inl ⟨by rw [hi]; exact h3, h2.symm⟩
   · exact .inr ⟨q, hq, e, h3, rfl⟩
 have hlive := tr_get_live h z1
 refine Tr.ext (fun m => ?_) ?_ rfl
 ·
  show (if m = n then some { (trOf L last).node n with data := data } else (trOf L last).get m) = _
  rw [tr_get (L := withL L _), withL_find]
  by_cases e : m = n
  ·
   subst e
   have := find_of h hr
   rw [hrn] at this
   rw [if_pos rfl, node_of h, this]
   simp only [Option.map_some, ndOf, hx0, hrn, if_true, hents]
   rfl
  ·
   rw [if_neg e, tr_get]
   cases hf : L.find? (fun r => r.f0 == m) with
   | none => rfl
   | some q =>
    have hqm : q.f0 = m := by simpa using List.find?_some hf
    have hne : ¬ q.f0 = (setX L n data).f0 := by rw [hqm, hx0]; exact e
    simp only [Option.map_some, ndOf, hents, if_neg hne]
 ·
  show (if ((trOf L last).get n).isSome then L.length else L.length + 1) = (withL L _).length
  rw [hlive, Option.isSome_some, if_pos rfl, withL_len]
def roomRE (L : List RN) (n td : Int) (z : ByteArray) : Bool × Int :=
 if inR L td z = 0 then (false, 0) else if inR L td z = n then (true, 0) else
  if (atR L (inR L td z)).f3 = 1 ∧ (atR L n).f3 ≠ 1 then (false, 8) else
   if (atR L n).f3 = 1 ∧ (atR L (inR L td z)).f3 ≠ 1 then (false, 7) else (false, cutRE L td z)
theorem roomE_eq {L : List RN} {last : Int} (h : GoodL L last) (n td : Int) (z : ByteArray) : roomE (trOf L last) n td z = roomRE L n td z := by
 unfold roomE roomRE
 rw [node_of h td, cutE_eq h, node_of h n]
 simp only [find_ents h td z]
 rw [node_of h (inR L td z)]
 simp only [in_dec h]
def movRE (L : List RN) (fr : Int) (s : ByteArray) (td : Int) (z : ByteArray) (ins : Bool) : Int :=
 if dirE (atR L fr).f3 ≠ 0 then dirE (atR L fr).f3 else if dirE (atR L td).f3 ≠ 0 then dirE (atR L td).f3 else
  if inR L fr s = 0 then 5 else if Sp.check z.data.toList ≠ 0 then Sp.check z.data.toList else
   if (atR L (inR L fr s)).f3 = 1 ∧ ins = true then 14 else
    if (roomRE L (inR L fr s) td z).1 = true then 0 else (roomRE L (inR L fr s) td z).2
theorem movE_eq {L : List RN} {last : Int} (h : GoodL L last) (fr : Int) (s : ByteArray) (td : Int) (z : ByteArray) (ins : Bool) : movE (trOf L last) fr s td z ins = movRE L fr s td z ins := by
 unfold movE movRE
 rw [node_of h fr, node_of h td]
 simp only [find_ents h fr s]
 rw [node_of h (inR L fr s), roomE_eq h]
 simp only [in_dec h]
theorem movRE_zero {L : List RN} {fr : Int} {s : ByteArray} {td : Int} {z : ByteArray} {ins : Bool} (h : movRE L fr s td z ins = 0) :
  (atR L fr).f3 = 1 ∧ (atR L td).f3 = 1 ∧ inR L fr s ≠ 0 ∧ Sp.check z.data.toList = 0 ∧ ((atR L (inR L fr s)).f3 = 1 → ins = false) ∧ ((roomRE L (inR L fr s) td z).1 = true ∨ (roomRE L (inR L fr s) td z).2 = 0) := by
 unfold movRE at h
 split at h
 · rename_i g; exact absurd h g
 ·
  rename_i g1
  split at h
  · rename_i g; exact absurd h g
  ·
   rename_i g2
   split at h
   · cases h
   ·
    rename_i g3
    split at h
    · rename_i g; exact absurd h g
    ·
     rename_i g4
     split at h
     · cases h
     ·
      rename_i g5
      refine ⟨dirE_zero (Decidable.byContradiction fun e => g1 e), dirE_zero (Decidable.byContradiction fun e => g2 e), g3, Decidable.byContradiction fun e => g4 e, fun hk => ?_, ?_⟩
      ·
       cases ins with
       | true => exact absurd ⟨hk, rfl⟩ g5
       | false => rfl
      ·
       split at h
       · exact .inl (by assumption)
       · exact .inr h
theorem ins_ex {L : List RN} {last : Int} (h : GoodL L last) (hM : GoodM L) (n : Int) : ∀ m, (atR L m).f3 ≠ 0 → ∃ k r, insF (trOf L last) k m n = some r := by
 obtain ⟨d, -, hd⟩ := hM.rank
 have key : ∀ (q : Nat) (m : Int), d m < q → (atR L m).f3 ≠ 0 → ∃ k r, insF (trOf L last) k m n = some r := by
  intro q
  induction q with
  | zero => intro m hq; omega
  | succ q ih =>
   intro m hq hm
   by_cases e1 : m = n
   · exact ⟨1, true, by simp [insF, e1]⟩
   ·
    by_cases e2 : m = 1
    · exact ⟨1, false, by unfold insF; rw [if_neg e1, if_pos e2]⟩
    ·
     obtain ⟨r, hr, hrm, hra⟩ := at_kind hm
     have hlt := hd r hr (by rw [hrm]; exact e2)
     rw [hrm] at hlt
     obtain ⟨k, b, hk⟩ := ih r.f1 (by omega) (by rw [h.up r hr]; decide)
     refine ⟨k + 1, b, ?_⟩
     unfold insF
     rw [if_neg e1, if_neg e2, node_of h, hra]
     exact hk
 exact fun m hm => key (d m + 1) m (by omega) hm
theorem insF_mono {T : Tr} : ∀ (k : Nat) (m n : Int) (r : Bool), insF T k m n = some r → insF T (k + 1) m n = some r
 | 0, m, n, r, h => by simp [insF] at h
 | k + 1, m, n, r, h => by
  unfold insF at h ⊢
  by_cases e1 : m = n
  · rw [if_pos e1] at h ⊢; exact h
  ·
   by_cases e2 : m = 1
   · rw [if_neg e1, if_pos e2] at h ⊢; exact h
   ·
    rw [if_neg e1, if_neg e2] at h ⊢
    exact insF_mono k _ n r h
theorem insF_le {T : Tr} {k k' : Nat} {m n : Int} {r : Bool} (h : insF T k m n = some r) (hk : k ≤ k') : insF T k' m n = some r := by
 induction hk with
 | refl => exact h
 | step _ ih => exact insF_mono _ _ _ _ ih
theorem insF_det {T : Tr} {k k' : Nat} {m n : Int} {r r' : Bool} (h : insF T k m n = some r) (h' : insF T k' m n = some r') : r = r' := by
 have h1 := insF_le h (Nat.le_max_left k k')
 have h2 := insF_le h' (Nat.le_max_right k k')
 rw [h1] at h2
 exact Option.some.inj h2
theorem mov_rank {L : List RN} {last : Int} (h : GoodL L last) (hM : GoodM L) {n td : Int} {x : RN} {M : List RN} (hx : x.f0 = n) (hxd : x.f1 = td) (hn1 : n ≠ 1) (hM1 : ∀ r ∈ M, r ∈ L) (hsub : ∀ k, insF (trOf L last) k td n ≠ some true) :
  ∃ d : Int → Nat, ∀ r ∈ withL M x, r.f0 ≠ 1 → d r.f1 < d r.f0 := by
 obtain ⟨d, -, hd⟩ := hM.rank
 let sub : Int → Prop := fun m => ∃ k, insF (trOf L last) k m n = some true
 classical
 have hnn : sub n := ⟨1, by simp [insF]⟩
 have hstep : ∀ r ∈ L, r.f0 ≠ 1 → r.f0 ≠ n → (sub r.f0 ↔ sub r.f1) := by
  intro r hr h1 h2
  have hup : ((trOf L last).node r.f0).up = r.f1 := by rw [node_of h, at_mem h hr]
  constructor
  ·
   rintro ⟨k, hk⟩
   cases k with
   | zero => simp [insF] at hk
   | succ k =>
    unfold insF at hk
    rw [if_neg h2, if_neg h1, hup] at hk
    exact ⟨k, hk⟩
  ·
   rintro ⟨k, hk⟩
   refine ⟨k + 1, ?_⟩
   unfold insF
   rw [if_neg h2, if_neg h1, hup]
   exact hk
 refine ⟨fun m => if sub m then d m + d td + 1 else d m, fun r hr h1 => ?_⟩
 rcases withL_mem hr with rfl | ⟨hr, hne⟩
 ·
  have ht : ¬ sub td := fun ⟨k, hk⟩ => hsub k hk
  simp only [hx, hxd]
  rw [if_pos hnn, if_neg ht]
  omega
 ·
  rw [hx] at hne
  have hlt := hd r (hM1 r hr) h1
  have hs := hstep r (hM1 r hr) h1 hne
  by_cases e : sub r.f0
  ·
   simp only [if_pos e, if_pos (hs.1 e)]
   omega
  ·
   simp only [if_neg e, if_neg (fun q => e (hs.2 q))]
   exact hlt
theorem up_ne {L : List RN} {last : Int} (hM : GoodM L) {r : RN} (hr : r ∈ L) (h1 : r.f0 ≠ 1) : r.f1 ≠ r.f0 := by
 obtain ⟨d, -, hd⟩ := hM.rank
 intro e
 have := hd r hr h1
 rw [e] at this
 omega
def movX (L : List RN) (n td : Int) (z : ByteArray) : RN := { atR L n with f1 := td, f2 := z }
theorem mov_core {L : List RN} {last : Int} (h : GoodL L last) (hM : GoodM L) {r : RN} (hr : r ∈ L) (h1 : r.f0 ≠ 1) {td : Int} (htd : (atR L td).f3 = 1) (hnt : td ≠ r.f0) {z : ByteArray} (hz : Sp.check z.data.toList = 0) (hfree : inR L td z = 0)
  (hrk : ∃ d : Int → Nat, ∀ q ∈ withL L (movX L r.f0 td z), q.f0 ≠ 1 → d q.f1 < d q.f0) (T2 T3 : Tr) (e2 : T2 = mvB (trOf L last) r.f0 td) (e3 : T3 = mvC T2 r.f1 r.f2) :
  GoodL (withL L (movX L r.f0 td z)) last ∧ GoodM (withL L (movX L r.f0 td z)) ∧ mvD T3 td r.f0 z = trOf (withL L (movX L r.f0 td z)) last ∧
   (T2.cnt = L.length ∧ T3.cnt = L.length) ∧ (T2.node r.f1).ents = entsOf L r.f1 ∧ (T3.node td).ents = (if td = r.f1 then cutEn (entsOf L r.f1) r.f2 else entsOf L td) ∧ (findE (T3.node td).ents z).2 = false := by
 have hra := at_mem h hr
 have hx : movX L r.f0 td z = ⟨r.f0, td, z, r.f3, r.f4⟩ := by unfold movX; rw [hra]
 rw [hx] at hrk ⊢
 have hmem : ∃ q ∈ L, q.f0 = (⟨r.f0, td, z, r.f3, r.f4⟩ : RN).f0 := ⟨r, hr, rfl⟩
 have hno := inR_none h (d := td) (s := z) (by rw [hfree]; decide)
 have hG : GoodL (withL L ⟨r.f0, td, z, r.f3, r.f4⟩) last := h.with h1 hmem (by show (atR L r.f0).f3 = r.f3; rw [hra]) (h.data r hr) htd (fun q hq hn q1 q2 => hno q hq q1 q2)
 have hGM : GoodM (withL L ⟨r.f0, td, z, r.f3, r.f4⟩) := hM.with hG hz (hM.link r hr) (hM.kind r hr) (hM.dirs r hr) hrk
 have hfn := up_ne (last := last) hM hr h1
 have hk1 : (atR L r.f1).f3 = 1 := h.up r hr
 have hlf := tr_get_live (last := last) h (m := r.f1) (by rw [hk1]; decide)
 have hlt := tr_get_live (last := last) h (m := td) (by rw [htd]; decide)
 have hln : (trOf L last).get r.f0 = some (ndOf L r) := by rw [tr_get, find_of h hr]; rfl
 have n2f : T2.node r.f1 = (trOf L last).node r.f1 := by rw [e2]; exact node_set_ne hfn
 have n2t : T2.node td = (trOf L last).node td := by rw [e2]; exact node_set_ne hnt
 have g2 : ∀ m, T2.get m = if m = r.f0 then some { (trOf L last).node r.f0 with up := td } else (trOf L last).get m := by intro m; rw [e2]; rfl
 have g3 : ∀ m, T3.get m = if m = r.f1 then some { T2.node r.f1 with ents := cutEn (T2.node r.f1).ents r.f2 } else T2.get m := by intro m; rw [e3]; rfl
 have c2 : T2.cnt = L.length := by
  rw [e2]
  show (if ((trOf L last).get r.f0).isSome then L.length else L.length + 1) = _
  rw [hln]; rfl
 have c3 : T3.cnt = L.length := by
  rw [e3]
  show (if (T2.get r.f1).isSome then T2.cnt else T2.cnt + 1) = _
  rw [g2, if_neg hfn, hlf, Option.isSome_some, if_pos rfl, c2]
 have E2 : (T2.node r.f1).ents = entsOf L r.f1 := by rw [n2f, node_of h]
 have N3 : T3.node td = if td = r.f1 then { T2.node r.f1 with ents := cutEn (T2.node r.f1).ents r.f2 } else (trOf L last).node td := by
  unfold Tr.node
  rw [g3]
  by_cases e : td = r.f1
  · rw [if_pos e, if_pos e]; rfl
  · rw [if_neg e, if_neg e, g2, if_neg hnt]
 have E3 : (T3.node td).ents = (if td = r.f1 then cutEn (entsOf L r.f1) r.f2 else entsOf L td) := by
  rw [N3]
  by_cases e : td = r.f1
  · rw [if_pos e, if_pos e, E2]
  · rw [if_neg e, if_neg e, node_of h]
 have hfz : ∀ e ∈ entsOf L td, e.f0 ≠ z := by
  intro e he
  obtain ⟨q, hq, hi, rfl⟩ := mem_ents.1 he
  obtain ⟨i1, i2⟩ := isIn_iff.1 hi
  exact hno q hq i1 i2
 have F3 : (findE (T3.node td).ents z).2 = false := by
  rw [E3]
  refine findE_nil' (fun e he => ?_)
  by_cases c : td = r.f1
  ·
   rw [if_pos c] at he
   rw [c] at hfz
   exact hfz e (cutEn_mem.1 he).1
  ·
   rw [if_neg c] at he
   exact hfz e he
 refine ⟨hG, hGM, ?_, ⟨c2, c3⟩, E2, E3, F3⟩

 have huq : ∀ q ∈ L, q.f0 = r.f0 → q = r := fun q hq e => by
  have q1 := find_of h hq
  have q2 := find_of h hr
  rw [e] at q1
  rw [q1] at q2
  exact Option.some.inj q2
 have hname : ∀ q ∈ L, q.f0 ≠ 1 → q.f1 = r.f1 → q.f2 = r.f2 → q = r := by
  intro q hq q1 q2 q3
  have := List.pairwise_iff_getElem.1 h.names
  obtain ⟨i, hi, rfl⟩ := List.mem_iff_getElem.1 hq
  obtain ⟨j, hj, rfl⟩ := List.mem_iff_getElem.1 hr
  rcases Nat.lt_trichotomy i j with c | c | c
  · exact absurd q3 (this i j hi hj c q2 q1 h1)
  · subst c; rfl
  · exact absurd q3.symm (this j i hj hi c q2.symm h1 q1)
 have hents : ∀ m, entsOf (withL L ⟨r.f0, td, z, r.f3, r.f4⟩) m = if m = td then insE (T3.node td).ents ⟨z, r.f0⟩ else if m = r.f1 then cutEn (entsOf L r.f1) r.f2 else entsOf L m := by
  intro m
  have hcm : ∀ (m : Int) (e : En), (∃ q ∈ L, q.f0 ≠ r.f0 ∧ isIn m q = true ∧ e = ⟨q.f2, q.f0⟩) ↔ (if m = r.f1 then e ∈ cutEn (entsOf L r.f1) r.f2 else e ∈ entsOf L m) := by
   intro m e
   by_cases c : m = r.f1
   ·
    rw [if_pos c, cutEn_mem, mem_ents]
    subst c
    constructor
    ·
     rintro ⟨q, hq, hn, hi, rfl⟩
     refine ⟨⟨q, hq, hi, rfl⟩, fun e => hn ?_⟩
     obtain ⟨i1, i2⟩ := isIn_iff.1 hi
     rw [hname q hq i2 i1 e]
    ·
     rintro ⟨⟨q, hq, hi, rfl⟩, hn⟩
     exact ⟨q, hq, fun e => hn (by rw [huq q hq e]), hi, rfl⟩
   ·
    rw [if_neg c, mem_ents]
    constructor
    ·
     rintro ⟨q, hq, hn, hi, rfl⟩
     exact ⟨q, hq, hi, rfl⟩
    ·
     rintro ⟨q, hq, hi, rfl⟩
     refine ⟨q, hq, fun e => c ?_, hi, rfl⟩
     rw [huq q hq e] at hi
     exact (isIn_iff.1 hi).1.symm
  by_cases c : m = td
  ·
   subst c
   rw [if_pos rfl]
   refine rt_ext (hG.rt m) (insE_rt _ _ ?_ ?_) (fun e => ?_)
   ·
    rw [E3]
    by_cases c2 : m = r.f1
    · rw [if_pos c2]; exact cutEn_rt (h.rt _) _
    · rw [if_neg c2]; exact h.rt _
   ·
    intro e he e2
    have := F3
    rw [findE_some he e2] at this
    cases this
   ·
    rw [ents_with hmem, hcm m e, insE_mem, E3]
    constructor
    ·
     rintro (⟨_, rfl⟩ | hh)
     · exact .inl rfl
     ·
      right
      by_cases c2 : m = r.f1
      · rw [if_pos c2] at hh ⊢; exact hh
      · rw [if_neg c2] at hh ⊢; exact hh
    ·
     rintro (rfl | hh)
     · exact .inl ⟨isIn_iff.2 ⟨rfl, h1⟩, rfl⟩
     ·
      right
      by_cases c2 : m = r.f1
      · rw [if_pos c2] at hh ⊢; exact hh
      · rw [if_neg c2] at hh ⊢; exact hh
  ·
   rw [if_neg c]
   have hi0 : ¬ isIn m (⟨r.f0, td, z, r.f3, r.f4⟩ : RN) = true := fun hi => c (isIn_iff.1 hi).1.symm
   by_cases c2 : m = r.f1
   ·
    rw [if_pos c2]
    refine rt_ext (hG.rt m) (cutEn_rt (h.rt _) _) (fun e => ?_)
    rw [ents_with hmem, hcm m e, if_pos c2]
    exact ⟨fun hh => hh.elim (fun q => absurd q.1 hi0) id, .inr⟩
   ·
    rw [if_neg c2]
    refine rt_ext (hG.rt m) (h.rt _) (fun e => ?_)
    rw [ents_with hmem, hcm m e, if_neg c2]
    exact ⟨fun hh => hh.elim (fun q => absurd q.1 hi0) id, .inr⟩
 refine Tr.ext (fun m => ?_) ?_ (by rw [e3, e2]; rfl)
 ·
  show (if m = td then some { T3.node td with ents := insE (T3.node td).ents ⟨z, r.f0⟩ } else T3.get m) = _
  rw [tr_get (L := withL L _), withL_find]
  by_cases c : m = td
  ·
   rw [if_pos c]
   obtain ⟨q, hq, hqm, hqa⟩ := at_kind (L := L) (n := td) (by rw [htd]; decide)
   have hfq := find_of h hq
   rw [hqm] at hfq
   have hqr : ¬ q.f0 = r.f0 := by rw [hqm]; exact hnt
   rw [c, hfq, Option.map_some, Option.map_some, if_neg hqr]
   have hT : T3.node td = ⟨q.f3, q.f1, q.f4, (T3.node td).ents⟩ := by
    rw [N3]
    by_cases c3 : td = r.f1
    · rw [if_pos c3, n2f, node_of h, ← c3, hqa]
    · rw [if_neg c3, node_of h, hqa]
   have k1 : (T3.node td).kind = q.f3 := by rw [hT]
   have k2 : (T3.node td).up = q.f1 := by rw [hT]
   have k3 : (T3.node td).data = q.f4 := by rw [hT]
   show some (⟨(T3.node td).kind, (T3.node td).up, (T3.node td).data, insE (T3.node td).ents ⟨z, r.f0⟩⟩ : Nd) = some ⟨q.f3, q.f1, q.f4, entsOf (withL L ⟨r.f0, td, z, r.f3, r.f4⟩) q.f0⟩
   rw [k1, k2, k3, hqm, hents, if_pos rfl]
  ·
   rw [if_neg c, g3]
   by_cases c2 : m = r.f1
   ·
    rw [if_pos c2, n2f, node_of h]
    obtain ⟨q, hq, hqm, hqa⟩ := at_kind (L := L) (n := r.f1) (by rw [hk1]; decide)
    have hfq := find_of h hq
    rw [hqm] at hfq
    have hqr : ¬ q.f0 = r.f0 := by rw [hqm]; exact hfn
    have hct : ¬ r.f1 = td := by rw [← c2]; exact c
    rw [c2, hfq, Option.map_some, Option.map_some, if_neg hqr]
    show some (⟨(atR L r.f1).f3, (atR L r.f1).f1, (atR L r.f1).f4, cutEn (entsOf L r.f1) r.f2⟩ : Nd) = some ⟨q.f3, q.f1, q.f4, entsOf (withL L ⟨r.f0, td, z, r.f3, r.f4⟩) q.f0⟩
    rw [hqm, hents, if_neg hct, if_pos rfl, hqa]
   ·
    rw [if_neg c2, g2]
    by_cases c3 : m = r.f0
    ·
     have hct : ¬ r.f0 = td := by rw [← c3]; exact c
     have hcf : ¬ r.f0 = r.f1 := by rw [← c3]; exact c2
     rw [if_pos c3, c3, find_of h hr, node_of h, hra, Option.map_some, Option.map_some, if_pos rfl]
     show some (⟨r.f3, td, r.f4, entsOf L r.f0⟩ : Nd) = some ⟨r.f3, td, r.f4, entsOf (withL L ⟨r.f0, td, z, r.f3, r.f4⟩) r.f0⟩
     rw [hents, if_neg hct, if_neg hcf]
    ·
     rw [if_neg c3, tr_get]
     cases hf : L.find? (fun r => r.f0 == m) with
     | none => rfl
     | some q =>
      have hqm : q.f0 = m := by simpa using List.find?_some hf
      have hqr : ¬ q.f0 = r.f0 := by rw [hqm]; exact c3
      rw [Option.map_some, Option.map_some, Option.map_some, if_neg hqr]
      show some (⟨q.f3, q.f1, q.f4, entsOf L q.f0⟩ : Nd) = some ⟨q.f3, q.f1, q.f4, entsOf (withL L ⟨r.f0, td, z, r.f3, r.f4⟩) q.f0⟩
      rw [hqm, hents, if_neg c, if_neg c2]
 ·
  show (if (T3.get td).isSome then T3.cnt else T3.cnt + 1) = (withL L _).length
  have : (T3.get td).isSome = true := by
   rw [g3]
   by_cases c : td = r.f1
   · rw [if_pos c]; rfl
   · rw [if_neg c, g2, if_neg hnt, hlt]; rfl
  rw [this, if_pos rfl, c3, withL_len]
theorem get_of {L : List RN} {last : Int} {n : Int} {x : Nd} (h : (trOf L last).get n = some x) : ∃ r ∈ L, x = ndOf L r := by
 unfold trOf at h
 obtain ⟨r, hr, rfl⟩ := Option.map_eq_some_iff.1 h
 exact ⟨r, List.mem_of_find?_eq_some hr, rfl⟩
theorem trOK {L : List RN} {last : Int} (h : GoodL L last) (hl : last ≤ 1000000) : TrOK (trOf L last) := by
 refine ⟨fun n x hx => ?_, fun n x hx => ?_, fun n x hx => ?_, fun n x hx e he => ?_, fun n x hx => ?_⟩
 ·
  obtain ⟨r, hr, rfl⟩ := get_of hx
  exact h.rt _
 ·
  obtain ⟨r, hr, rfl⟩ := get_of hx
  have h1 := ents_len L r.f0
  have h2 := h.len
  show (entsOf L r.f0).length < _
  omega
 ·
  obtain ⟨r, hr, rfl⟩ := get_of hx
  obtain ⟨q, hq, hqn, _⟩ := at_kind (L := L) (n := r.f1) (by rw [h.up r hr]; decide)
  have := h.num q hq
  exact wf_of (n := r.f1) (by omega)
 ·
  obtain ⟨r, hr, rfl⟩ := get_of hx
  obtain ⟨q, hq, _, rfl⟩ := mem_ents.1 (show e ∈ entsOf L r.f0 from he)
  have := h.num q hq
  exact wf_of (n := q.f0) (by omega)
 ·
  obtain ⟨r, hr, rfl⟩ := get_of hx
  exact h.data r hr
theorem node_len {L : List RN} {last : Int} (h : GoodL L last) (d : Int) : ((trOf L last).node d).ents.length < 4294967296 := by
 rw [node_of h]
 have := ents_len L d
 have := h.len
 show (entsOf L d).length < _
 omega
theorem node_rtL {L : List RN} {last : Int} (h : GoodL L last) (d : Int) : Rt ((trOf L last).node d).ents := by rw [node_of h]; exact h.rt d
theorem cnt_lt {L : List RN} {last : Int} (h : GoodL L last) : (trOf L last).cnt < 1000000 := by
 have := h.len
 show L.length < _
 omega
def cutS (L : List RN) (d : Int) (s : ByteArray) : List RN := if cutRE L d s = 0 then cutL L (inR L d s) else L
theorem tcut_calls (p B : Nat) (L : List RN) (last d : Int) (s : ByteArray) (w : World) (h : TreeB w p B (trOf L last)) (hG : GoodL L last) (hn : wf d) (hla : last ≤ 1000000) :
  Calls Tryz.prog 146 #[pT p, .int .i64 d, .string s] w fun e w' => e = .returned (.int .i64 (cutRE L d s)) ∧ TreeB w' p B (trOf (cutS L d s) last) ∧ Frm w w' p B := by
 have hO := trOK hG hla
 unfold cutS
 by_cases he : cutRE L d s = 0
 ·
  refine (cut_ok p B (trOf L last) d s w h hn (node_len hG d) (node_rtL hG d) (hO.wf_find d s) (cnt_lt hG) (by rw [cutE_eq hG]; exact he)).mono ?_
  rintro e w' ⟨rfl, hT, hF⟩
  rw [cutT_eq hG he] at hT
  rw [if_pos he, he]
  exact ⟨rfl, hT, hF⟩
 ·
  refine (cut_err p B (trOf L last) d s w h hn (node_len hG d) (node_rtL hG d) (hO.wf_find d s) (by rw [cutE_eq hG]; exact he)).mono ?_
  rintro e w' ⟨rfl, hb⟩
  rw [if_neg he, cutE_eq hG]
  exact ⟨rfl, h.below hb, Frm.ofBelow hb⟩
theorem good_cut {L : List RN} {last : Int} (hG : GoodL L last) (hM : GoodM L) (d : Int) (s : ByteArray) : GoodL (cutS L d s) last ∧ GoodM (cutS L d s) := by
 unfold cutS
 by_cases he : cutRE L d s = 0
 · rw [if_pos he]; exact cut_good hG hM he
 · rw [if_neg he]; exact ⟨hG, hM⟩
noncomputable def setS (L : List RN) (n : Int) (data : ByteArray) : List RN := if setRE L n data = 0 then withL L (setX L n data) else L
theorem tset_calls (p B : Nat) (L : List RN) (last n : Int) (data : ByteArray) (w : World) (h : TreeB w p B (trOf L last)) (hG : GoodL L last) (hM : GoodM L) (hn : wf n) :
  Calls Tryz.prog 92 #[pT p, .int .i64 n, .string data] w fun e w' => e = .returned (.int .i64 (setRE L n data)) ∧ TreeB w' p B (trOf (setS L n data) last) ∧ Frm w w' p B := by
 unfold setS
 by_cases he : setRE L n data = 0
 ·
  refine (set_ok p B (trOf L last) n data w h hn (cnt_lt hG) (by rw [setE_eq hG]; exact he)).mono ?_
  rintro e w' ⟨rfl, hT, hF⟩
  rw [setT_eq hG hM he] at hT
  rw [if_pos he, he]
  exact ⟨rfl, hT, hF⟩
 ·
  refine (set_err p B (trOf L last) n data w h hn (by rw [setE_eq hG]; exact he)).mono ?_
  rintro e w' ⟨rfl, hb⟩
  rw [if_neg he, setE_eq hG]
  exact ⟨rfl, h.below hb, Frm.ofBelow hb⟩
theorem good_set {L : List RN} {last : Int} (hG : GoodL L last) (hM : GoodM L) (n : Int) (data : ByteArray) : GoodL (setS L n data) last ∧ GoodM (setS L n data) := by
 unfold setS
 by_cases he : setRE L n data = 0
 · rw [if_pos he]; exact set_good hG hM he
 · rw [if_neg he]; exact ⟨hG, hM⟩
open Classical in
noncomputable def insV (L : List RN) (last td n : Int) : Bool := decide (∃ k, insF (trOf L last) k td n = some true)
theorem insV_true {L : List RN} {last td n : Int} (h : ∃ k, insF (trOf L last) k td n = some true) : insV L last td n = true := by classical exact decide_eq_true h
theorem insV_false {L : List RN} {last td n : Int} (h : ¬ ∃ k, insF (trOf L last) k td n = some true) : insV L last td n = false := by classical exact decide_eq_false h
noncomputable def movP (L : List RN) (last fr : Int) (s : ByteArray) (td : Int) (z : ByteArray) : Int := movRE L fr s td z (insV L last td (inR L fr s))
def roomL (L : List RN) (td : Int) (z : ByteArray) : List RN := if inR L td z = 0 then L else cutL L (inR L td z)
noncomputable def movM (L : List RN) (last fr : Int) (s : ByteArray) (td : Int) (z : ByteArray) : List RN :=
 if movP L last fr s td z = 0 ∧ (roomRE L (inR L fr s) td z).1 = false then withL (roomL L td z) (movX L (inR L fr s) td z) else L
theorem ins_dir {L : List RN} {last : Int} (h : GoodL L last) {n : Int} : ∀ (k : Nat) (m : Int), insF (trOf L last) k m n = some true → m ≠ n → (atR L m).f3 ≠ 0 → (atR L n).f3 = 1
 | 0, m, hk, _, _ => by simp [insF] at hk
 | k + 1, m, hk, hmn, hm => by
  unfold insF at hk
  rw [if_neg hmn] at hk
  by_cases e2 : m = 1
  · rw [if_pos e2] at hk; cases hk
  ·
   rw [if_neg e2] at hk
   obtain ⟨r, hr, hrm, hra⟩ := at_kind hm
   rw [node_of h, hra] at hk
   have hu := h.up r hr
   by_cases e : r.f1 = n
   · rw [← e]; exact hu
   · exact ins_dir h k r.f1 hk e (by rw [hu]; decide)
structure MovOK (L : List RN) (last fr : Int) (s : ByteArray) (td : Int) (z : ByteArray) (n : Int) : Prop where
 kf : (atR L fr).f3 = 1
 kt : (atR L td).f3 = 1
 ck : Sp.check z.data.toList = 0
 ins : (atR L n).f3 = 1 → ∃ k, insF (trOf L last) k td n = some false
 room : roomRE L n td z = (false, 0)
 good : GoodL (withL (roomL L td z) (movX L n td z)) last ∧ GoodM (withL (roomL L td z) (movX L n td z))
 one : mvA (trOf L last) td z = trOf (roomL L td z) last
 l1 : GoodL (roomL L td z) last
 core : ∀ T2 T3, T2 = mvB (trOf (roomL L td z) last) n td → T3 = mvC T2 fr s →
  mvD T3 td n z = trOf (withL (roomL L td z) (movX L n td z)) last ∧ (T2.cnt = (roomL L td z).length ∧ T3.cnt = (roomL L td z).length) ∧ (T2.node fr).ents = entsOf (roomL L td z) fr ∧ (T3.node td).ents = (if td = fr then cutEn (entsOf (roomL L td z) fr) s else entsOf (roomL L td z) td) ∧ (findE (T3.node td).ents z).2 = false
 mem : ∃ r ∈ roomL L td z, r.f0 = n ∧ r.f1 = fr ∧ r.f2 = s ∧ r.f0 ≠ 1
theorem mov_all {L : List RN} {last : Int} (h : GoodL L last) (hM : GoodM L) {fr : Int} {s : ByteArray} {td : Int} {z : ByteArray} (he : movP L last fr s td z = 0) (hs : (roomRE L (inR L fr s) td z).1 = false) : MovOK L last fr s td z (inR L fr s) := by
 obtain ⟨z1, z2, z3, z4, z5, z6⟩ := movRE_zero he
 have hroom : roomRE L (inR L fr s) td z = (false, 0) := by
  rcases z6 with e | e
  · rw [hs] at e; cases e
  · exact Prod.ext hs e
 obtain ⟨r, hr, hrn, hrd, hrs, hr1, hra⟩ := inR_mem h z3
 generalize inR L fr s = n at *
 have hnt : td ≠ n := by
  intro e
  by_cases k1 : (atR L n).f3 = 1
  ·
   have := z5 k1
   unfold insV at this
   rw [decide_eq_false_iff_not] at this
   exact this ⟨1, by simp [insF, e]⟩
  · rw [e] at z2; exact k1 z2
 have hsub : ∀ k, insF (trOf L last) k td n ≠ some true := by
  intro k hk
  by_cases k1 : (atR L n).f3 = 1
  ·
   have := z5 k1
   unfold insV at this
   rw [decide_eq_false_iff_not] at this
   exact this ⟨k, hk⟩
  · exact k1 (ins_dir h k td hk hnt (by rw [z2]; decide))
 have hins : (atR L n).f3 = 1 → ∃ k, insF (trOf L last) k td n = some false := by
  intro _
  obtain ⟨k, b, hk⟩ := ins_ex h hM n td (by rw [z2]; decide)
  cases b with
  | true => exact absurd hk (hsub k)
  | false => exact ⟨k, hk⟩
 have KEY : GoodL (roomL L td z) last ∧ GoodM (roomL L td z) ∧ r ∈ roomL L td z ∧ (atR (roomL L td z) td).f3 = 1 ∧ inR (roomL L td z) td z = 0 ∧ mvA (trOf L last) td z = trOf (roomL L td z) last ∧ ∀ q ∈ roomL L td z, q ∈ L := by
  unfold roomL mvA roomT
  rw [node_of h td]
  simp only [find_ents h td z, in_dec h]
  by_cases e : inR L td z = 0
  ·
   rw [if_pos e, if_pos e]
   exact ⟨h, hM, hr, z2, e, rfl, fun q hq => hq⟩
  ·
   rw [if_neg e, if_neg e]
   have hc : cutRE L td z = 0 ∧ inR L td z ≠ n := by
    unfold roomRE at hroom
    rw [if_neg e] at hroom
    split at hroom
    · cases hroom
    ·
     rename_i hne
     split at hroom
     · cases hroom
     ·
      split at hroom
      · cases hroom
      · exact ⟨(Prod.mk.inj hroom).2, hne⟩
   obtain ⟨c1, c2, c3⟩ := cutRE_zero hc.1
   obtain ⟨g1, g2⟩ := cut_good h hM hc.1
   obtain ⟨ro, hro, hon, hod, hos, ho1, _⟩ := inR_mem h e
   have hto : td ≠ inR L td z := by
    intro e2
    have := live_ents h hro ho1
    rw [hod, e2] at this
    exact this c3
   refine ⟨g1, g2, cutL_mem.2 ⟨hr, by rw [hrn]; exact fun e2 => hc.2 e2.symm⟩, by rw [cutL_at hto]; exact c1, ?_, cutT_eq h hc.1, fun q hq => (cutL_mem.1 hq).1⟩
   refine Decidable.byContradiction fun hne => ?_
   obtain ⟨q, hq, hqn, hqd, hqs, hq1, _⟩ := inR_mem g1 hne
   obtain ⟨hq2, hqo⟩ := cutL_mem.1 hq
   have hpw := List.pairwise_iff_getElem.1 h.names
   rw [← hon] at hqo
   obtain ⟨i, hi, rfl⟩ := List.mem_iff_getElem.1 hq2
   obtain ⟨j, hj, rfl⟩ := List.mem_iff_getElem.1 hro
   rcases Nat.lt_trichotomy i j with c | c | c
   · exact hpw i j hi hj c (hqd.trans hod.symm) hq1 ho1 (hqs.trans hos.symm)
   · subst c; exact hqo rfl
   · exact hpw j i hj hi c (hod.trans hqd.symm) ho1 hq1 (hos.trans hqs.symm)
 obtain ⟨g1, g2, g3, g4, g5, g6, g7⟩ := KEY
 have hxe : movX (roomL L td z) n td z = movX L n td z := by
  unfold movX
  rw [hra]
  have := at_mem g1 g3
  rw [hrn] at this
  rw [this]
 have hrk : ∃ d : Int → Nat, ∀ q ∈ withL (roomL L td z) (movX (roomL L td z) r.f0 td z), q.f0 ≠ 1 → d q.f1 < d q.f0 := by
  rw [hrn, hxe]
  exact mov_rank h hM (n := n) (td := td) (by show (atR L n).f0 = n; rw [hra]; exact hrn) rfl (by rw [← hrn]; exact hr1) g7 hsub
 have CORE := fun T2 T3 e2 e3 => mov_core g1 g2 g3 hr1 g4 (by rw [hrn]; exact hnt) z4 g5 hrk T2 T3 e2 e3
 rw [hrn, hrd, hrs, hxe] at CORE
 refine ⟨z1, z2, z4, hins, hroom, ?_, g6, g1, fun T2 T3 e2 e3 => (CORE T2 T3 e2 e3).2.2, ⟨r, g3, hrn, hrd, hrs, hr1⟩⟩
 have := CORE _ _ rfl rfl
 exact ⟨this.1, this.2.1⟩
theorem good_mov {L : List RN} {last : Int} (hG : GoodL L last) (hM : GoodM L) (fr : Int) (s : ByteArray) (td : Int) (z : ByteArray) : GoodL (movM L last fr s td z) last ∧ GoodM (movM L last fr s td z) := by
 unfold movM
 by_cases he : movP L last fr s td z = 0 ∧ (roomRE L (inR L fr s) td z).1 = false
 · rw [if_pos he]; exact (mov_all hG hM he.1 he.2).good
 · rw [if_neg he]; exact ⟨hG, hM⟩
theorem tmove_calls (p B : Nat) (L : List RN) (last fr : Int) (s : ByteArray) (td : Int) (z : ByteArray) (w : World) (h : TreeB w p B (trOf L last)) (hG : GoodL L last) (hM : GoodM L) (hf : wf fr) (ht : wf td) (hz : z.size < 4294967281) (hla : last ≤ 1000000) :
  Calls Tryz.prog 115 #[pT p, .int .i64 fr, .string s, .int .i64 td, .string z] w fun e w' => e = .returned (.int .i64 (movP L last fr s td z)) ∧ TreeB w' p B (trOf (movM L last fr s td z) last) ∧ Frm w w' p B := by
 have hO := trOK hG hla
 unfold movM
 by_cases he : movP L last fr s td z = 0 ∧ (roomRE L (inR L fr s) td z).1 = false
 ·
  rw [if_pos he, he.1]
  have M := mov_all hG hM he.1 he.2
  obtain ⟨k, hk⟩ : ∃ k, (atR L (inR L fr s)).f3 = 1 → insF (trOf L last) k td (inR L fr s) = some false := by
   by_cases k1 : (atR L (inR L fr s)).f3 = 1
   ·
    obtain ⟨k, hk⟩ := M.ins k1
    exact ⟨k, fun _ => hk⟩
   · exact ⟨0, fun h => absurd h k1⟩
  obtain ⟨c1, ⟨c2, c3⟩, c4, c5, c6⟩ := M.core _ _ rfl rfl
  obtain ⟨r, hr, hrn, hrd, hrs, hr1⟩ := M.mem
  have hfe : findE ((trOf L last).node fr).ents s = (inR L fr s, true) := by
   rw [node_of hG]
   show findE (entsOf L fr) s = _
   rw [find_ents hG]
   have := (movRE_zero he.1).2.2.1
   have := (inR_le hG fr s).1
   rw [decide_eq_true (by omega)]
  have hl1 := M.l1.len
  have hel := fun m => ents_len (roomL L td z) m
  refine (move_ok p B (trOf L last) (trOf (roomL L td z) last) _ _ fr s td z (inR L fr s) false k w h hO hf ht hz hfe (by rw [node_of hG]; exact M.kf) (by rw [node_of hG]; exact M.kt) M.ck (by rw [node_of hG]; exact hk) (by rw [roomE_eq hG]; exact M.room) (cnt_lt hG) M.one.symm rfl rfl
   (cnt_lt M.l1) (by rw [c2]; omega) (by rw [c3]; omega) (by rw [c4]; have := hel fr; omega) (by rw [c4]; exact M.l1.rt _) ?_ ?_ ?_ c6).mono ?_
  ·
   rw [c4]
   exact findE_some (mem_ents.2 ⟨r, hr, isIn_iff.2 ⟨hrd, hr1⟩, rfl⟩) hrs
  ·
   rw [c5]
   split
   ·
    have := cutEn_len (entsOf (roomL L td z) fr) s
    have := hel fr
    omega
   ·
    have := hel td
    omega
  ·
   rw [c5]
   split
   · exact cutEn_rt (M.l1.rt _) _
   · exact M.l1.rt _
  ·
   rintro e w' ⟨rfl, hT, hF⟩
   rw [c1] at hT
   exact ⟨rfl, hT, hF⟩
 ·
  rw [if_neg he]
  obtain ⟨k, ins, hk, hp⟩ : ∃ k ins, (dirE (atR L td).f3 = 0 → (atR L (inR L fr s)).f3 = 1 → insF (trOf L last) k td (inR L fr s) = some ins) ∧ movRE L fr s td z ins = movP L last fr s td z := by
   by_cases k2 : (atR L td).f3 = 1
   ·
    obtain ⟨k, b, hk⟩ := ins_ex hG hM (inR L fr s) td (by rw [k2]; decide)
    refine ⟨k, b, fun _ _ => hk, ?_⟩
    unfold movP
    congr 1
    cases b with
    | true => exact (insV_true ⟨k, hk⟩).symm
    | false =>
     refine (insV_false ?_).symm
     rintro ⟨k', hk'⟩
     have := insF_det hk hk'
     cases this
   · exact ⟨0, insV L last td (inR L fr s), fun h0 => absurd (dirE_zero h0) k2, rfl⟩
  refine (move_stay p B (trOf L last) fr s td z ins k w h hO hf ht hz (by rw [node_of hG fr, node_of hG td]; simp only [find_ents hG fr s]; rw [node_of hG]; exact hk) ?_).mono ?_
  ·
   unfold movS
   rw [movE_eq hG, hp, node_of hG fr]
   simp only [find_ents hG fr s]
   rw [roomE_eq hG]
   by_cases e1 : movP L last fr s td z = 0
   ·
    right
    cases hb : (roomRE L (inR L fr s) td z).1 with
    | true => rfl
    | false => exact absurd ⟨e1, hb⟩ he
   · exact .inl e1
  ·
   rintro e w' ⟨rfl, hb⟩
   rw [movE_eq hG, hp]
   exact ⟨rfl, h.below hb, Frm.ofBelow hb⟩
theorem meas_big {n i : Nat} (h : i < n) (hn : n ≤ 1000000) : n - (intOf (.int .i64 (wrap64 ((i : Int) + 1)))).toNat < n - (intOf (.int .i64 (i : Int))).toNat := by
 rw [w1 (by omega)]
 simp only [intOf]
 omega
abbrev rtB (x : S36) : Bool := rightT x.f0 x.f1.data.toList x.f2.data.toList
def OkSz (ts : List S36) : Prop := ∀ x ∈ ts, x.f1.size < 2147483000 ∧ x.f2.size < 2147483000
def mayT (ts : List S36) : Int := if ts.any (fun x => !rtB x) = true then 2 else if ts.length ≤ 10000 then 0 else 21
theorem may1_calls (x : S36) (w : World) (h : x.f1.size < 2147483000 ∧ x.f2.size < 2147483000) :
  Calls Tryz.prog 126 #[.agg #[.int .i64 x.f0, .string x.f1, .string x.f2]] w fun e w' => e = .returned (.bool (!rtB x)) ∧ Below w.heap.size w w' := by
 obtain ⟨k, hk⟩ := (right x.f0 x.f1 x.f2 h.1 h.2).rounds
 have HR := qh (fun W => task_Right.calls k x.f0 x.f1 x.f2 _ W hk)
 have HB := qh ((Below.refl w.heap.size w).alloc (Nat.le_refl _) (.cells #[.int .i64 x.f0, .string x.f1, .string x.f2] 36))
 show Calls _ _ _ _ fun e w' => e = .returned (.bool (!(rightT x.f0 x.f1.data.toList x.f2.data.toList))) ∧ Below w.heap.size w w'
 generalize rightT x.f0 x.f1.data.toList x.f2.data.toList = b at *
 generalize x.f0 = k0 at *
 generalize x.f1 = s1 at *
 generalize x.f2 = s2 at *
 clear h hk
 cases b with
 | true =>
  go_enter Tryz.func126, Tryz.ntmps126
  go_wp2_with (go_at_call 87; refine (HR.out _).mono ?_; rintro e w2 ⟨rfl, hb2⟩)
  go_ret
  exact ⟨rfl, HB.out.trans (hb2.mono HB.out.size)⟩
 | false =>
  go_enter Tryz.func126, Tryz.ntmps126
  go_wp2_with (go_at_call 87; refine (HR.out _).mono ?_; rintro e w2 ⟨rfl, hb2⟩)
  go_ret
  exact ⟨rfl, HB.out.trans (hb2.mono HB.out.size)⟩
theorem indexT1_calls (A : Option Addr) (c : Nat) (l : List S36) (w : World) (hC : Kd.C k36 w A l.length l) (hc : l.length ≤ c) (hl : l.length ≤ 1000000) (hz : OkSz l) :
  Calls Tryz.prog 152 #[.slice A l.length c, .func (.func 126) #[] #[]] w fun e w' => ∃ r : Int, e = .returned (.int .i64 r) ∧ (r = -1 ∧ l.any (fun x => !rtB x) = false ∨ 0 ≤ r ∧ l.any (fun x => !rtB x) = true) ∧ Below w.heap.size w w' := by
 have HC := qh hC
 have HL := qh hl
 have H1 := qh (fun x W h => may1_calls x W h)
 have HZ := qh hz
 clear hC hl hz
 go_enter Tryz.func152, Tryz.ntmps152
 go_wp2
 go_loopw [8] (fun v8 wr => ∃ i : Nat, v8 = .int .i64 (i : Int) ∧ i ≤ l.length ∧ (∀ j (hj : j < l.length), j < i → rtB l[j] = true) ∧ Below w.heap.size w wr) (fun v _ => l.length - (intOf v).toNat)
 case atStart => exact ⟨0, rfl, Nat.zero_le _, fun j _ hj => absurd hj (Nat.not_lt_zero _), Below.refl _ _⟩
 case round =>
  obtain ⟨i, rfl, hi, hbef, hB⟩ := hrel
  have HBF := qh hbef
  have HB := qh hB
  clear hbef
  by_cases hlt : i < l.length
  ·
   have hlt' : (i : Int) < (l.length : Int) := by omega
   obtain ⟨ad, eA, a0, a1, a2⟩ := at_T36 (Kd.C_below HC.out hB) (i : Int) (by omega) hlt'
   have hrd : rd_T36 l (i : Int) = l[i] := by simp [rd_T36, hlt]
   rw [hrd] at a0 a1 a2
   rw [Int.toNat_natCast] at a0 a1 a2
   subst eA
   have H1' := qh (fun W => H1.out l[i] W (HZ.out _ (List.getElem_mem hlt)))
   obtain ⟨b, hb⟩ : ∃ b, rtB l[i] = b := ⟨_, rfl⟩
   have HPB := qh (And.intro hb (List.getElem_mem hlt))
   rw [hb] at H1'
   generalize l[i].f0 = y0 at *
   generalize l[i].f1 = y1 at *
   generalize l[i].f2 = y2 at *
   clear hB hrd hb
   cases b with
   | false =>
    go_wp2_with (go_at_call 126; refine (H1'.out _).mono ?_; rintro e w3 ⟨rfl, hb3⟩; have HB3 := qh (HB.out.trans (hb3.mono HB.out.size)); clear hb3 a0 a1 a2)
    go_ret
    exact ⟨i, rfl, .inr ⟨by omega, List.any_eq_true.2 ⟨_, HPB.out.2, by rw [HPB.out.1]; rfl⟩⟩, HB3.out⟩
   | true =>
    go_wp2_with (go_at_call 126; refine (H1'.out _).mono ?_; rintro e w3 ⟨rfl, hb3⟩; have HB3 := qh (HB.out.trans (hb3.mono HB.out.size)); clear hb3 a0 a1 a2)
    go_roundw
    case rel => exact ⟨i + 1, by have := HL.out; rw [w1 (by omega)], hlt, fun j hj hji => by
     by_cases e : j = i
     · subst e; exact HPB.out.1
     · exact HBF.out j hj (by omega), HB3.out⟩
    case measure => exact meas_big hlt HL.out
  ·
   obtain rfl : i = l.length := by omega
   have hlt' : ¬ (l.length : Int) < (l.length : Int) := by omega
   clear hB
   go_wp2
   go_ret
   exact ⟨-1, rfl, .inl ⟨rfl, by
    intro x hx
    obtain ⟨j, hj, rfl⟩ := List.mem_iff_getElem.1 hx
    exact HBF.out j hj hj⟩, HB.out⟩
theorem containsT1_calls (A : Option Addr) (c : Nat) (l : List S36) (w : World) (hC : Kd.C k36 w A l.length l) (hc : l.length ≤ c) (hl : l.length ≤ 1000000) (hz : OkSz l) :
  Calls Tryz.prog 125 #[.slice A l.length c, .func (.func 126) #[] #[]] w fun e w' => e = .returned (.bool (l.any (fun x => !rtB x))) ∧ Below w.heap.size w w' := by
 have HI := qh (indexT1_calls A c l w hC hc hl hz)
 generalize l.any (fun x => !rtB x) = b at *
 clear hC hl hz
 go_enter Tryz.func125, Tryz.ntmps125
 go_wp2_with (go_at_call 152; refine HI.out.mono ?_; rintro e w2 ⟨r, rfl, hr, hb2⟩)
 go_ret
 refine ⟨?_, hb2⟩
 rcases hr with ⟨rfl, rfl⟩ | ⟨h, rfl⟩
 · rfl
 ·
  show Ending.returned (Value.bool (decide (0 ≤ r))) = _
  rw [decide_eq_true h]
theorem may2_calls (x : S36) (w : World) (h : x.f1.size < 2147483000 ∧ x.f2.size < 2147483000) :
  Calls Tryz.prog 127 #[.agg #[.int .i64 x.f0, .string x.f1, .string x.f2]] w fun e w' => e = .returned (.bool (!rtB x)) ∧ Below w.heap.size w w' := by
 obtain ⟨k, hk⟩ := (right x.f0 x.f1 x.f2 h.1 h.2).rounds
 have HR := qh (fun W => task_Right.calls k x.f0 x.f1 x.f2 _ W hk)
 have HB := qh ((Below.refl w.heap.size w).alloc (Nat.le_refl _) (.cells #[.int .i64 x.f0, .string x.f1, .string x.f2] 36))
 show Calls _ _ _ _ fun e w' => e = .returned (.bool (!(rightT x.f0 x.f1.data.toList x.f2.data.toList))) ∧ Below w.heap.size w w'
 generalize rightT x.f0 x.f1.data.toList x.f2.data.toList = b at *
 generalize x.f0 = k0 at *
 generalize x.f1 = s1 at *
 generalize x.f2 = s2 at *
 clear h hk
 cases b with
 | true =>
  go_enter Tryz.func127, Tryz.ntmps127
  go_wp2_with (go_at_call 87; refine (HR.out _).mono ?_; rintro e w2 ⟨rfl, hb2⟩)
  go_ret
  exact ⟨rfl, HB.out.trans (hb2.mono HB.out.size)⟩
 | false =>
  go_enter Tryz.func127, Tryz.ntmps127
  go_wp2_with (go_at_call 87; refine (HR.out _).mono ?_; rintro e w2 ⟨rfl, hb2⟩)
  go_ret
  exact ⟨rfl, HB.out.trans (hb2.mono HB.out.size)⟩
theorem indexT2_calls (A : Option Addr) (c : Nat) (l : List S36) (w : World) (hC : Kd.C k36 w A l.length l) (hc : l.length ≤ c) (hl : l.length ≤ 1000000) (hz : OkSz l) :
  Calls Tryz.prog 152 #[.slice A l.length c, .func (.func 127) #[] #[]] w fun e w' => ∃ r : Int, e = .returned (.int .i64 r) ∧ (r = -1 ∧ l.any (fun x => !rtB x) = false ∨ 0 ≤ r ∧ l.any (fun x => !rtB x) = true) ∧ Below w.heap.size w w' := by
 have HC := qh hC
 have HL := qh hl
 have H1 := qh (fun x W h => may2_calls x W h)
 have HZ := qh hz
 clear hC hl hz
 go_enter Tryz.func152, Tryz.ntmps152
 go_wp2
 go_loopw [8] (fun v8 wr => ∃ i : Nat, v8 = .int .i64 (i : Int) ∧ i ≤ l.length ∧ (∀ j (hj : j < l.length), j < i → rtB l[j] = true) ∧ Below w.heap.size w wr) (fun v _ => l.length - (intOf v).toNat)
 case atStart => exact ⟨0, rfl, Nat.zero_le _, fun j _ hj => absurd hj (Nat.not_lt_zero _), Below.refl _ _⟩
 case round =>
  obtain ⟨i, rfl, hi, hbef, hB⟩ := hrel
  have HBF := qh hbef
  have HB := qh hB
  clear hbef
  by_cases hlt : i < l.length
  ·
   have hlt' : (i : Int) < (l.length : Int) := by omega
   obtain ⟨ad, eA, a0, a1, a2⟩ := at_T36 (Kd.C_below HC.out hB) (i : Int) (by omega) hlt'
   have hrd : rd_T36 l (i : Int) = l[i] := by simp [rd_T36, hlt]
   rw [hrd] at a0 a1 a2
   rw [Int.toNat_natCast] at a0 a1 a2
   subst eA
   have H1' := qh (fun W => H1.out l[i] W (HZ.out _ (List.getElem_mem hlt)))
   obtain ⟨b, hb⟩ : ∃ b, rtB l[i] = b := ⟨_, rfl⟩
   have HPB := qh (And.intro hb (List.getElem_mem hlt))
   rw [hb] at H1'
   generalize l[i].f0 = y0 at *
   generalize l[i].f1 = y1 at *
   generalize l[i].f2 = y2 at *
   clear hB hrd hb
   cases b with
   | false =>
    go_wp2_with (go_at_call 127; refine (H1'.out _).mono ?_; rintro e w3 ⟨rfl, hb3⟩; have HB3 := qh (HB.out.trans (hb3.mono HB.out.size)); clear hb3 a0 a1 a2)
    go_ret
    exact ⟨i, rfl, .inr ⟨by omega, List.any_eq_true.2 ⟨_, HPB.out.2, by rw [HPB.out.1]; rfl⟩⟩, HB3.out⟩
   | true =>
    go_wp2_with (go_at_call 127; refine (H1'.out _).mono ?_; rintro e w3 ⟨rfl, hb3⟩; have HB3 := qh (HB.out.trans (hb3.mono HB.out.size)); clear hb3 a0 a1 a2)
    go_roundw
    case rel => exact ⟨i + 1, by have := HL.out; rw [w1 (by omega)], hlt, fun j hj hji => by
     by_cases e : j = i
     · subst e; exact HPB.out.1
     · exact HBF.out j hj (by omega), HB3.out⟩
    case measure => exact meas_big hlt HL.out
  ·
   obtain rfl : i = l.length := by omega
   have hlt' : ¬ (l.length : Int) < (l.length : Int) := by omega
   clear hB
   go_wp2
   go_ret
   exact ⟨-1, rfl, .inl ⟨rfl, by
    intro x hx
    obtain ⟨j, hj, rfl⟩ := List.mem_iff_getElem.1 hx
    exact HBF.out j hj hj⟩, HB.out⟩
theorem containsT2_calls (A : Option Addr) (c : Nat) (l : List S36) (w : World) (hC : Kd.C k36 w A l.length l) (hc : l.length ≤ c) (hl : l.length ≤ 1000000) (hz : OkSz l) :
  Calls Tryz.prog 125 #[.slice A l.length c, .func (.func 127) #[] #[]] w fun e w' => e = .returned (.bool (l.any (fun x => !rtB x))) ∧ Below w.heap.size w w' := by
 have HI := qh (indexT2_calls A c l w hC hc hl hz)
 generalize l.any (fun x => !rtB x) = b at *
 clear hC hl hz
 go_enter Tryz.func125, Tryz.ntmps125
 go_wp2_with (go_at_call 152; refine HI.out.mono ?_; rintro e w2 ⟨r, rfl, hr, hb2⟩)
 go_ret
 refine ⟨?_, hb2⟩
 rcases hr with ⟨rfl, rfl⟩ | ⟨h, rfl⟩
 · rfl
 ·
  show Ending.returned (Value.bool (decide (0 ≤ r))) = _
  rw [decide_eq_true h]
theorem may20_calls (A : Option Addr) (c : Nat) (l : List S36) (w : World) (hC : Kd.C k36 w A l.length l) (hc : l.length ≤ c) (hl : l.length ≤ 1000000) (hz : OkSz l) :
  Calls Tryz.prog 79 #[.slice A l.length c] w fun e w' => e = .returned (.int .i64 (mayT l)) ∧ Below w.heap.size w w' := by
 have H1 := qh (fun W h => containsT1_calls A c l W h hc hl hz)
 have H2 := qh (fun W h => containsT2_calls A c l W h hc hl hz)
 have HC := qh hC
 unfold mayT
 generalize l.any (fun x => !rtB x) = b at *
 clear hC hz
 cases b with
 | true =>
  rw [if_pos rfl]
  go_enter Tryz.func79, Tryz.ntmps79
  go_wp2_with (first | (go_at_call 125; refine (H2.out _ (Kd.C_below HC.out hb2)).mono ?_; rintro e w3 ⟨rfl, hb3⟩) | (go_at_call 125; refine (H1.out _ HC.out).mono ?_; rintro e w2 ⟨rfl, hb2⟩))
  go_ret
  exact ⟨rfl, hb2.trans (hb3.mono hb2.size)⟩
 | false =>
  rw [if_neg (by simp)]
  by_cases h : l.length ≤ 10000
  ·
   rw [if_pos h]
   have h' : (l.length : Int) ≤ 10000 := by omega
   go_enter Tryz.func79, Tryz.ntmps79
   go_wp2_with (go_at_call 125; refine (H1.out _ HC.out).mono ?_; rintro e w2 ⟨rfl, hb2⟩)
   go_ret
   exact ⟨rfl, hb2⟩
  ·
   rw [if_neg h]
   have h' : ¬ (l.length : Int) ≤ 10000 := by omega
   go_enter Tryz.func79, Tryz.ntmps79
   go_wp2_with (first | (go_at_call 125; refine (H2.out _ (Kd.C_below HC.out hb2)).mono ?_; rintro e w3 ⟨rfl, hb3⟩) | (go_at_call 125; refine (H1.out _ HC.out).mono ?_; rintro e w2 ⟨rfl, hb2⟩))
   go_ret
   exact ⟨rfl, hb2.trans (hb3.mono hb2.size)⟩
theorem TreeB.look_ok {w : World} {p B : Nat} {T : Tr} (h : TreeB w p B T) (n : Int) (hn : wf n) :
  ∃ A c, (T.node n).ents.length ≤ c ∧ Kd.C k162 w A (T.node n).ents.length (T.node n).ents ∧ ∀ w', Below w.heap.size w w' → (Instr.lookup 154 (.map (some B)) (.int .i64 n) true).run Tryz.prog w' = .ok (.tuple #[.agg #[.int .i64 (T.node n).kind, .int .i64 (T.node n).up, .string (T.node n).data, .slice A (T.node n).ents.length c], .bool (T.get n).isSome]) w' := by
 obtain ⟨sv, D, h⟩ := h
 have key : ∀ w', Below w.heap.size w w' → ∀ r, D.atKey (.int .i64 n) (.held (ndV zN (.slice none 0 0))) = .held r → (Instr.lookup 154 (.map (some B)) (.int .i64 n) true).run Tryz.prog w' = .ok (.tuple #[r, .bool (T.get n).isSome]) w' := by
  intro w' hb r hr
  obtain ⟨v, ps, hrun, hv⟩ := (h.below hb).map.look_ok keyed Tryz.underlying154 (zeroNd w') (zd := .held (ndV zN (.slice none 0 0))) (zp := []) rfl (Maps.keyOf_int_mk Tryz.underlying3 hn)
  have e := (Prod.mk.inj (Option.some.inj hv)).1
  rw [hr] at e
  rw [← DataW.held.inj e, ← h.has n hn]
  exact hrun
 have ha := h.at_ n (.held (ndV zN (.slice none 0 0))) hn
 cases hx : T.get n with
 | none =>
  rw [hx] at ha
  have hnd : T.node n = zN := by unfold Tr.node; rw [hx]; rfl
  rw [hnd]
  refine ⟨none, 0, Nat.le_refl _, Kd.C_nil _ _, fun w' hb => ?_⟩
  have := key w' hb _ ha
  rw [hx] at this
  exact this
 | some x =>
  rw [hx] at ha
  have hnd : T.node n = x := by unfold Tr.node; rw [hx]; rfl
  rw [hnd]
  obtain ⟨A, c, e1, e2, e3⟩ := h.ents n x hn hx
  refine ⟨A, c, e2, e3, fun w' hb => ?_⟩
  have := key w' hb _ ha
  rw [hx, e1] at this
  exact this
theorem TreeB.made (w : World) (last : Int) : TreeB ((w.alloc (.map #[] 0)).alloc (.cells #[.map (some w.heap.size), .int .i64 last] 156)) (w.alloc (.map #[] 0)).heap.size w.heap.size ⟨fun _ => none, 0, last⟩ := by
 have hown := World.ownsMap_made w Tryz.prog 3 vE
 refine ⟨fun _ => .slice none 0 0, _, ⟨heap_alloc_new _ _, (ownsMap_fit hown).alloc _, ?_, fun n hn => ?_, fun n z hn => ?_, fun n x hn hx => ?_⟩⟩
 · rfl
 · simp [Maps.has]
 · rw [Maps.atKey_of_not_has (by simp [Maps.has])]
 · cases hx
theorem wmidC {n : Int} (h : -2 ≤ n ∧ n ≤ 2000000) : wrap64 (n + 1) = n + 1 := by unfold wrap64; omega
def cntU (T : Tr) : Nat → Nat
 | 0 => 0
 | k + 1 => cntU T k + (if (T.get ((k : Int) + 1)).isSome then 1 else 0)
def upT (T : Tr) (k : Nat) : Tr := ⟨fun m => if 1 ≤ m ∧ m ≤ (k : Int) then T.get m else none, cntU T k, T.last⟩
theorem upT_zero (T : Tr) : upT T 0 = ⟨fun _ => none, 0, T.last⟩ := by
 refine Tr.ext (fun n => ?_) rfl rfl
 show (if 1 ≤ n ∧ n ≤ ((0 : Nat) : Int) then T.get n else none) = none
 rw [if_neg (by omega)]
theorem upT_no {T : Tr} {k : Nat} (h : T.get ((k : Int) + 1) = none) : upT T (k + 1) = upT T k := by
 refine Tr.ext (fun n => ?_) ?_ rfl
 ·
  show (if 1 ≤ n ∧ n ≤ ((k + 1 : Nat) : Int) then T.get n else none) = if 1 ≤ n ∧ n ≤ (k : Int) then T.get n else none
  by_cases e : n = (k : Int) + 1
  ·
   subst e
   rw [if_pos (by omega), if_neg (by omega), h]
  ·
   by_cases c : 1 ≤ n ∧ n ≤ (k : Int)
   · rw [if_pos c, if_pos (by omega)]
   · rw [if_neg c, if_neg (by omega)]
 ·
  show cntU T k + _ = cntU T k
  rw [h]; rfl
theorem upT_yes {T : Tr} {k : Nat} {x : Nd} (h : T.get ((k : Int) + 1) = some x) : (upT T k).set ((k : Int) + 1) x = upT T (k + 1) := by
 refine Tr.ext (fun n => ?_) ?_ rfl
 ·
  show (if n = (k : Int) + 1 then some x else if 1 ≤ n ∧ n ≤ (k : Int) then T.get n else none) = if 1 ≤ n ∧ n ≤ ((k + 1 : Nat) : Int) then T.get n else none
  by_cases e : n = (k : Int) + 1
  ·
   subst e
   rw [if_pos rfl, if_pos (by omega), h]
  ·
   rw [if_neg e]
   by_cases c : 1 ≤ n ∧ n ≤ (k : Int)
   · rw [if_pos c, if_pos (by omega)]
   · rw [if_neg c, if_neg (by omega)]
 ·
  show (if ((upT T k).get ((k : Int) + 1)).isSome then (upT T k).cnt else (upT T k).cnt + 1) = cntU T k + _
  have : (upT T k).get ((k : Int) + 1) = none := by
   show (if 1 ≤ (k : Int) + 1 ∧ (k : Int) + 1 ≤ (k : Int) then T.get _ else none) = none
   rw [if_neg (by omega)]
  rw [this, h]; rfl
theorem cntU_le {T : Tr} : ∀ k, cntU T k ≤ k
 | 0 => Nat.le_refl _
 | k + 1 => by
  have := cntU_le (T := T) k
  unfold cntU
  split <;> omega
theorem find_cons_count {L : List RN} (n : Int) (hu : L.Pairwise (fun a b => a.f0 ≠ b.f0)) : (L.filter (fun r => r.f0 == n)).length = if (L.find? (fun r => r.f0 == n)).isSome then 1 else 0 := by
 induction L with
 | nil => rfl
 | cons a L ih =>
  obtain ⟨h1, h2⟩ := List.pairwise_cons.1 hu
  rw [List.filter_cons, List.find?_cons]
  by_cases e : a.f0 = n
  ·
   have hz : L.filter (fun r => r.f0 == n) = [] := by
    rw [List.filter_eq_nil_iff]
    intro r hr hc
    exact h1 r hr (e.trans (beq_iff_eq.1 hc).symm)
   rw [show (a.f0 == n) = true by simp [e], if_pos rfl, hz]
   rfl
  ·
   rw [show (a.f0 == n) = false by simp [e], if_neg (by simp)]
   exact ih h2
theorem filter_step (L : List RN) (k : Nat) : (L.filter (fun r => decide (r.f0 ≤ ((k + 1 : Nat) : Int)))).length = (L.filter (fun r => decide (r.f0 ≤ (k : Int)))).length + (L.filter (fun r => r.f0 == (k : Int) + 1)).length := by
 induction L with
 | nil => rfl
 | cons a L ih =>
  rw [List.filter_cons, List.filter_cons, List.filter_cons]
  by_cases c1 : a.f0 ≤ (k : Int)
  ·
   rw [decide_eq_true c1, decide_eq_true (show a.f0 ≤ ((k + 1 : Nat) : Int) by omega), show (a.f0 == (k : Int) + 1) = false by simp; omega, if_pos rfl, if_pos rfl, if_neg (by simp), List.length_cons, List.length_cons, ih]
   omega
  ·
   by_cases c2 : a.f0 = (k : Int) + 1
   ·
    rw [decide_eq_false c1, decide_eq_true (show a.f0 ≤ ((k + 1 : Nat) : Int) by omega), show (a.f0 == (k : Int) + 1) = true by simp [c2], if_pos rfl, if_neg (by simp), if_pos rfl, List.length_cons, List.length_cons, ih]
    omega
   · rw [decide_eq_false c1, decide_eq_false (show ¬ a.f0 ≤ ((k + 1 : Nat) : Int) by omega), show (a.f0 == (k : Int) + 1) = false by simp [c2], if_neg (by simp), if_neg (by simp), if_neg (by simp), ih]
theorem cntU_trOf {L : List RN} {last : Int} (h : GoodL L last) : ∀ k, cntU (trOf L last) k = (L.filter (fun r => decide (r.f0 ≤ (k : Int)))).length
 | 0 => by
  have : L.filter (fun r => decide (r.f0 ≤ ((0 : Nat) : Int))) = [] := by
   rw [List.filter_eq_nil_iff]
   intro r hr hc
   have := (h.num r hr).1
   have := of_decide_eq_true hc
   omega
  rw [this]; rfl
 | k + 1 => by
  rw [filter_step, find_cons_count _ h.uniq, ← cntU_trOf h k]
  show cntU (trOf L last) k + (if ((L.find? _).map _).isSome = true then 1 else 0) = _
  rw [Option.isSome_map]
theorem upT_all {L : List RN} {last : Int} (h : GoodL L last) (h0 : 0 ≤ last) : upT (trOf L last) last.toNat = trOf L last := by
 have hall : ∀ r ∈ L, 1 ≤ r.f0 ∧ r.f0 ≤ last := fun r hr => h.num r hr
 refine Tr.ext (fun n => ?_) ?_ rfl
 ·
  show (if 1 ≤ n ∧ n ≤ ((last.toNat : Nat) : Int) then (trOf L last).get n else none) = (trOf L last).get n
  by_cases c : 1 ≤ n ∧ n ≤ ((last.toNat : Nat) : Int)
  · rw [if_pos c]
  ·
   rw [if_neg c]
   show none = (L.find? _).map _
   cases hf : L.find? (fun r => r.f0 == n) with
   | none => rfl
   | some r =>
    have h1 := hall r (List.mem_of_find?_eq_some hf)
    have h2 : r.f0 = n := by simpa using List.find?_some hf
    omega
 ·
  show cntU (trOf L last) last.toNat = L.length
  rw [cntU_trOf h]
  congr 1
  rw [List.filter_eq_self]
  intro r hr
  have := hall r hr
  exact decide_eq_true (by omega)
theorem copy_calls (p B : Nat) (L : List RN) (last : Int) (w : World) (h : TreeB w p B (trOf L last)) (hG : GoodL L last) (hla : last ≤ 100000) :
  Calls Tryz.prog 80 #[pT p] w fun e w' => ∃ p' B', e = .returned (pT p') ∧ TreeB w' p' B' (trOf L last) ∧ Below w.heap.size w w' ∧ w.heap.size ≤ p' ∧ w.heap.size ≤ B' := by
 have hl1 := hG.last1
 have hO := trOK hG (by omega)
 have HLK := qh (fun W n (h : TreeB W p B (trOf L last)) hn => h.look_ok n hn)
 have HSM := qh (fun n => hO.small.node n)
 have HCL := qh (fun A c l W h1 h2 h3 => clone_calls A c l W h1 h2 h3)
 have HALL := qh (upT_all hG (by omega))
 have hlast : (trOf L last).last = last := rfl
 have HLA := qh (And.intro hl1 hla)
 have hmd := TreeB.made w last
 have s1 : (w.alloc (.map #[] 0)).heap.size = w.heap.size + 1 := Array.size_push _
 rw [s1] at hmd
 have hb := ((Below.refl w.heap.size w).alloc (Nat.le_refl _) (.map #[] 0)).alloc (by rw [s1]; omega) (.cells #[.map (some w.heap.size), .int .i64 last] 156)
 have HT := qh h
 have h2 := h.below hb
 have HMD := qh (And.intro hmd hb)
 have c0 : (w.alloc (.map #[] 0)).cell? ⟨p, 1, none⟩ = some (.int .i64 last) := (h.below ((Below.refl w.heap.size w).alloc (Nat.le_refl _) (.map #[] 0))).cell1
 have hmk : (Instr.makeMap 154 none).run Tryz.prog w = .ok (.map (some w.heap.size)) (w.alloc (.map #[] 0)) := rfl
 generalize hT : trOf L last = T at *
 have HTL := qh hlast
 clear h hG hO hmd hb h2 hl1 hla hlast s1
 go_enter Tryz.func80, Tryz.ntmps80
 go_upto_region 4 with (fail)
 generalize (w.alloc (.map #[] 0)).alloc (.cells #[.map (some w.heap.size), .int .i64 last] 156) = w1 at HMD ⊢
 generalize hb0 : w.heap.size = b at HMD ⊢
 have HW0 := qh hb0
 clear hb0 c0 hmk
 go_wp2
 go_loopw [4] (fun v4 wr => ∃ k : Nat, v4 = .int .i64 ((k : Int) + 1) ∧ (k : Int) ≤ last ∧ TreeB wr (b + 1) b (upT T k) ∧ Below b w wr) (fun v _ => (last + 1 - intOf v).toNat)
 case atStart =>
  refine ⟨0, rfl, by have := HLA.out.1; omega, ?_, HMD.out.2⟩
  rw [upT_zero, HTL.out]
  exact HMD.out.1
 case round =>
  obtain ⟨k, rfl, hk, hO, hB⟩ := hrel
  have HB := qh hB
  have HO := qh hO
  have HTr := qh (HT.out.below (by rw [HW0.out]; exact hB))
  have c0 := HTr.out.cell0
  have c1 := HTr.out.cell1
  rw [HTL.out] at c1
  have hla := HLA.out
  have hwn : wf ((k : Int) + 1) := wf_of (by omega)
  have HWN := qh hwn
  have HK := qh hk
  have HBS := qh (show b ≤ wr.heap.size ∧ b + 1 ≤ wr.heap.size by have := hB.size; have := HO.out.lt; rw [HW0.out] at *; omega)
  clear hB hO
  by_cases hlt : (k : Int) + 1 ≤ last
  ·
   obtain ⟨A, c, hle, hC, hrun⟩ := HLK.out wr _ HTr.out hwn
   have hrun := hrun _ (Below.refl _ _)
   have hsm := HSM.out ((k : Int) + 1)
   cases hx : T.get ((k : Int) + 1) with
   | none =>
    rw [hx] at hrun
    simp only [Option.isSome_none] at hrun
    have HUP := qh (upT_no hx)
    have HLT := qh hlt
    generalize T.node ((k : Int) + 1) = nd at *
    obtain ⟨nk, nu, ndt, nes⟩ := nd
    simp only [] at hrun
    clear hx hC hle hsm hk hwn HLK HSM HCL
    go_wp2
    go_roundw
    case rel =>
     refine ⟨k + 1, by have := HLA.out; first | (push_cast; rfl) | (rw [wmidC (by omega)]; push_cast; rfl), by have := HLT.out; omega, ?_, HB.out.alloc HBS.out.1 _⟩
     rw [HUP.out]
     exact HO.out.below (below_alloc (Below.refl _ _) _)
    case measure => have := HLA.out; have := HLT.out; (try rw [wmidC (by omega)]); simp only [intOf]; omega
   | some x =>
    rw [hx] at hrun
    simp only [Option.isSome_some] at hrun
    have hnd : T.node ((k : Int) + 1) = x := by unfold Tr.node; rw [hx]; rfl
    rw [hnd] at hrun hC hle hsm
    have HUP := qh (upT_yes hx)
    have HLT := qh hlt
    obtain ⟨nk, nu, ndt, nes⟩ := x
    simp only [] at hrun hC hle hsm
    have h2 := heap_alloc_new wr (.cells #[.int .i64 nk, .int .i64 nu, .string ndt, .slice A nes.length c] 153)
    have hb2 := below_alloc (Below.refl wr.heap.size wr) (.cells #[.int .i64 nk, .int .i64 nu, .string ndt, .slice A nes.length c] 153)
    have H2 := qh h2
    have HB2 := qh hb2
    have HC2 := qh (Kd.C_below hC hb2)
    have HLE := qh hle
    have HSZ := qh hsm
    have HWS := qh (rfl : wr.heap.size = wr.heap.size)
    clear hx hC hle hsm hk hwn hnd HLK HSM h2 hb2
    go_upto_region 9 with (fail)
    generalize wr.alloc (.cells #[.int .i64 nk, .int .i64 nu, .string ndt, .slice A nes.length c] 153) = w2 at H2 HB2 HC2 ⊢
    generalize hgg : wr.heap.size = g at H2 HB2 HBS ⊢
    have HGG := qh hgg
    clear hgg hrun c0 c1
    have y3 : w2.cell? ⟨g, 3, none⟩ = some (.slice A nes.length c) := by rw [blk_cell H2.out]; rfl
    go_upto_region 10 with (go_at_call 118; refine (HCL.out _ _ _ _ HC2.out HLE.out HSZ.out).mono ?_; rintro e w3 ⟨v3, rfl, hR3, hb3⟩; obtain ⟨A3, c3, rfl, hl3, -⟩ := Kd.R_reads hR3; have HR3 := qh hR3; have H3 := qh ((hb3.block _ (blk_lt H2.out)).trans H2.out); have HB3 := qh (HB2.out.trans (hb3.mono (Nat.le_of_lt (blk_lt H2.out)))); have HL3 := qh hl3; clear hR3 hb3 hl3 y3; have y3 : w3.cell? ⟨g, 3, none⟩ = some (.slice A nes.length c) := (by rw [blk_cell H3.out]; rfl); have f3 := blk_frozen H3.out 3)
    have hgl : g < w2.heap.size := blk_lt H2.out
    have h4 := blk_set H3.out 3 (.slice A3 nes.length c3)
    have hb4 : Below g wr (w3.setCell ⟨g, 3, none⟩ (.slice A3 nes.length c3)) := HB3.out.setCell (p := ⟨g, 3, none⟩) (Nat.le_refl g) _
    have hR4 := Kd.R_far (p := ⟨g, 3, none⟩) (Kd.R_mono (Kd.R_bound HR3.out) (ok' := fun k => k ≠ g) (fun k hk => by have := hk.2.1; omega)) (fun k hk => hk) (.slice A3 nes.length c3)
    obtain ⟨A4, c4, e4, hl4, hC4⟩ := Kd.R_reads hR4
    cases e4
    generalize w3.setCell ⟨g, 3, none⟩ (.slice A3 nes.length c3) = w4 at h4 hb4 hC4 ⊢
    have hb4' : Below wr.heap.size wr w4.drew := by rw [HGG.out]; exact below_drew hb4
    have hO4 := HO.out.below hb4'
    obtain ⟨w5, hup, hT5, hF5⟩ := hO4.store ((k : Int) + 1) HWN.out ⟨nk, nu, ndt, nes⟩ (.slice A3 nes.length c3) ⟨A3, c3, rfl, hl4, Kd.C_drew hC4⟩ (by show cntU T k < 1000000; have := cntU_le (T := T) k; have := HK.out; have := HLA.out; omega)
    unfold ndV at hup
    simp only [] at hup
    have h4' : w4.drew.heap[g]? = some (.cells #[.int .i64 nk, .int .i64 nu, .string ndt, .slice A3 nes.length c3] 153 (0, 0)) := h4
    have z0 : w4.drew.cell? ⟨g, 0, none⟩ = some (.int .i64 nk) := by rw [blk_cell h4']; rfl
    have z1 : w4.drew.cell? ⟨g, 1, none⟩ = some (.int .i64 nu) := by rw [blk_cell h4']; rfl
    have z2 : w4.drew.cell? ⟨g, 2, none⟩ = some (.string ndt) := by rw [blk_cell h4']; rfl
    have z3 : w4.drew.cell? ⟨g, 3, none⟩ = some (.slice A3 nes.length c3) := by rw [blk_cell h4']; rfl
    have d0 : w4.drew.cell? ⟨b + 1, 0, none⟩ = some (.map (some b)) := hO4.cell0
    rw [HUP.out] at hT5
    have HT5 := qh hT5
    have HB5 := qh (HB.out.trans ((hb4'.mono (by rw [HGG.out]; exact HBS.out.1)).trans (hF5.below (by have := hb4'.size; rw [HGG.out] at this; exact Nat.le_trans HBS.out.1 this) (Nat.le_succ b) (Nat.le_refl b))))
    clear hT5 hF5 hO4 hb4 hb4' hC4 hl4 hR4 h4 h4' y3 f3 hgl
    go_region
    clear hup z0 z1 z2 z3 d0
    go_wp2
    go_roundw
    case rel => exact ⟨k + 1, by have := HLA.out; have := HLT.out; first | (push_cast; rfl) | (rw [wmidC (by omega)]; push_cast; rfl), by have := HLT.out; omega, HT5.out, HB5.out⟩
    case measure => have := HLA.out; have := HLT.out; (try rw [wmidC (by omega)]); simp only [intOf]; omega
  ·
   obtain rfl : last = (k : Int) := by have := HLA.out; omega
   have hO := HO.out
   have hal := HALL.out
   rw [Int.toNat_natCast] at hal
   rw [hal] at hO
   have HO2 := qh hO
   clear hO hal
   go_wp2
   go_ret
   exact ⟨b + 1, rfl, b, HO2.out, by rw [HW0.out]; exact HB.out, by rw [HW0.out]; exact Nat.le_succ b, by rw [HW0.out]; exact Nat.le_refl b⟩
theorem beginE_ok {s : ByteArray} (h : beginE s = 0) : s.size ≤ 1024 ∧ s.toList ≠ [] := by
 unfold beginE at h
 split at h
 · cases h
 ·
  split at h
  · cases h
  · exact ⟨by omega, by assumption⟩
def findF (T : Tr) (last : Bool) (k : Nat) (s : ByteArray) : Option (Int × Int) :=
 if beginE s = 0 then (walkF T last k 1 0 (partsB s)).bind fun r => if r.2 = 0 then some (r.1, 0) else some (0, r.2) else some (0, beginE s)
theorem Wk.made {w : World} {p : Nat} {l : List ByteArray} {A : Option Addr} {c : Nat} (hr : Kd.C Kd.string w A l.length l) (hc : l.length ≤ c) :
  Wk (w.alloc (.cells #[pT p, .int .i64 1, .int .i64 0, .slice A l.length c] 191)) w.heap.size p 1 0 l A c :=
 ⟨World.alloc_heap_new w _, Kd.C_below hr ((Below.refl _ w).alloc (Nat.le_refl _) _), hc⟩
theorem seekFind_calls (p : Nat) (T : Tr) (s : ByteArray) (last : Bool) (k : Nat) (R : Int × Int) (w : World) (hT : TreeAt w p T) (hO : TrOK T) (hR : findF T last k s = some R) :
  Calls Tryz.prog 156 #[pT p, .string s, .bool last] w fun e w' => e = .returned (.tuple #[.int .i64 R.1, .int .i64 R.2]) ∧ Below w.heap.size w w' := by
 have HBG := qh (fun W => begin_calls p s W)
 unfold findF at hR
 by_cases h0 : beginE s = 0
 ·
  rw [if_pos h0] at hR
  rw [h0] at HBG
  obtain ⟨hz, -⟩ := beginE_ok h0
  obtain ⟨r, hr, hR⟩ := Option.bind_eq_some_iff.1 hR
  have HP := qh (fun W => path_Parts.calls s (partsB s) W (by rw [path_Parts.f, if_pos (by omega)]; rfl))
  have hpl := partsB_len' s
  have HW := qh (fun W g A c h1 h2 h3 => walk_calls w.heap.size w g p T hT hO last k 1 (partsB s) A c r W h1 h2 h3 wf1 (by omega) (fun x hx => Nat.le_trans (partsB_sz s x hx) (by omega)) hr)
  have HR := qh hR
  clear hT hR hr h0
  generalize partsB s = l at HP HW hpl
  obtain ⟨rn, re⟩ := r
  simp only [] at HR
  go_enter Tryz.func156, Tryz.ntmps156
  go_upto_region 5 with (first | (go_at_call 134; refine (HBG.out _).mono ?_; rintro e w2 ⟨rfl, rfl⟩) | (go_at_call 135; refine (HP.out _).mono ?_; rintro e w3 ⟨v, rfl, ho, hb3⟩; obtain ⟨A3, c3, rfl, hl3, hC3⟩ := Kd.R_reads ho; have HC3 := qh hC3; have HB3 := qh hb3; have HL3 := qh hl3; clear ho hC3 hb3 hl3))
  have hk := Wk.made (p := p) HC3.out HL3.out
  have hB : Below w.heap.size w (w3.alloc (.cells #[pT p, .int .i64 1, .int .i64 0, .slice A3 l.length c3] 191)) := HB3.out.alloc HB3.out.size _
  have hg : w.heap.size ≤ w3.heap.size := HB3.out.size
  generalize w3.alloc (.cells #[pT p, .int .i64 1, .int .i64 0, .slice A3 l.length c3] 191) = w4 at hk hB ⊢
  generalize w3.heap.size = g at hk hg ⊢
  have HWK := qh (HW.out w4 g A3 c3 hk hB hg)
  clear hk hB HW HC3 HB3 HL3
  by_cases he : re = 0
  ·
   subst he
   rw [if_pos rfl] at HR
   go_upto_region 8 with (go_at_call 137; refine HWK.out.mono ?_; rintro e w5 ⟨rfl, hw5⟩)
   obtain ⟨hq, hb5⟩ := hw5
   obtain ⟨h5, l5, A5, c5, hk5⟩ := hq rfl
   obtain ⟨c0, c1, c2, c3⟩ := hk5.cells
   have HB5 := qh hb5
   have hR := Option.some.inj HR.out
   subst hR
   clear hk5 hq hb5
   go_wp2
   go_ret2
   exact ⟨rfl, HB5.out⟩
  ·
   rw [if_neg he] at HR
   have b3 : (re != 0) = true := bne_iff_ne.2 he
   have hR := Option.some.inj HR.out
   subst hR
   clear he
   go_wp2_with (go_at_call 137; refine HWK.out.mono ?_; rintro e w5 ⟨rfl, hw5⟩)
   go_ret2
   exact ⟨rfl, hw5.2⟩
 ·
  rw [if_neg h0] at hR
  have hR := Option.some.inj hR
  subst hR
  have b3 : (beginE s != 0) = true := bne_iff_ne.2 h0
  generalize beginE s = e0 at HBG b3
  clear h0 hT
  go_enter Tryz.func156, Tryz.ntmps156
  go_wp2_with (first | (go_at_call 134; refine (HBG.out _).mono ?_; rintro e w2 ⟨rfl, rfl⟩))
  go_ret2
  exact ⟨rfl, Below.refl _ _⟩
theorem cloneS_calls (A : Option Addr) (c : Nat) (l : List ByteArray) (w : World) (hr : Kd.C Kd.string w A l.length l) (hc : l.length ≤ c) (hl : l.length < 4294967296) :
  Calls Tryz.prog 136 #[.slice A l.length c] w fun e w' => ∃ v, e = .returned v ∧ Kd.R Kd.string 9 w' w.heap.size (fun _ => True) v l ∧ Below w.heap.size w w' := by
 have hq := fun W => Lib.run_eql_slice_nil (P := Tryz.prog) W 186 9 A l.length c 0 0 Tryz.underlying186
 have HR := qh hr
 have HRE := qh (R_empty Kd.string 9 w w.heap.size (Nat.le_refl _))
 have HB := qh ((Below.refl w.heap.size w).alloc (Nat.le_refl _) (.cells #[] 9))
 cases A with
 | none =>
  have h0 : l = [] := by
   cases l with
   | nil => rfl
   | cons a b => obtain ⟨ad, e, _⟩ := hr.2.2 (by simp); cases e
  subst h0
  clear hr HR hq
  have hq := fun W => Lib.run_eql_slice_nil (P := Tryz.prog) W 186 9 none 0 c 0 0 Tryz.underlying186
  simp only [Option.isNone_none] at hq
  go_enter Tryz.func136, Tryz.ntmps136
  go_wp2
  go_ret
  exact ⟨_, rfl, Kd.R_nil _ _ _ _ _, Below.refl _ _⟩
 | some ad =>
  clear hr
  simp only [Option.isNone_some] at hq
  go_enter Tryz.func136, Tryz.ntmps136
  go_wp2_with ((with_reducible refine gate_builtin (b := .append) (xs := #[.tmp 5, .tmp 6]) rfl ?_); at_builtin; refine Kd.R_append_rows Kd.string (w0 := w) w.heap.size rfl (.tmp 5) (.tmp 6) 186 9 (.string ⟨#[]⟩) 16 rfl Tryz.underlying186 infoS rfl (by decide) (by omega) _ [] l _ _ _ (fun _ => True) (fun _ => False) rfl rfl HRE.out (Kd.C_below HR.out HB.out) (fun _ _ h => h) (fun _ h => h.elim) (fun _ _ => trivial) HB.out (by simp) (by simp; omega) ?_; intro v1 w1 ho hb hg hat)
  go_ret
  exact ⟨_, rfl, ho, hb⟩
abbrev R3 := Int × ByteArray × Int
def noS (e : Int) : R3 := (0, ⟨#[]⟩, e)
def spotF (T : Tr) (k : Nat) (s : ByteArray) : Option R3 :=
 if beginE s = 0 then
  match (partsB s).getLast? with
  | none => some (noS 6)
  | some z => if z.toList = [46, 46] then some (noS 6) else (walkF T true k 1 0 (partsB s).dropLast).bind fun r =>
    if r.2 = 0 then (if (T.node r.1).kind = 1 then (if Sp.check z.data.toList = 0 then some (r.1, z, 0) else some (noS (Sp.check z.data.toList))) else some (noS 7)) else some (noS r.2)
 else some (noS (beginE s))
theorem walkF_wf {T : Tr} (hO : TrOK T) (last : Bool) : ∀ (k : Nat) (a h : Int) (l : List ByteArray) (R : Int × Int), wf a → walkF T last k a h l = some R → wf R.1 := by
 intro k
 induction k with
 | zero => intro a h l R _ hR; simp [walkF] at hR
 | succ k ih =>
  intro a h l R ha hR
  cases l with
  | nil => simp only [walkF, Option.some.injEq] at hR; subst hR; exact ha
  | cons s l =>
   simp only [walkF] at hR
   split at hR
   · cases hR; exact ha
   ·
    split at hR
    · exact ih _ _ _ _ (hO.wf_up a) hR
    ·
     split at hR
     · cases hR; exact ha
     ·
      split at hR
      · exact ih _ _ _ _ (hO.wf_down a s) hR
      ·
       split at hR
       · cases hR; exact ha
       ·
        refine ih _ _ _ _ ?_ hR
        split
        · exact wf1
        · exact ha
theorem spot_calls (p : Nat) (T : Tr) (s : ByteArray) (k : Nat) (R : R3) (w : World) (hT : TreeAt w p T) (hO : TrOK T) (hR : spotF T k s = some R) :
  Calls Tryz.prog 93 #[pT p, .string s] w fun e w' => e = .returned (.tuple #[.int .i64 R.1, .string R.2.1, .int .i64 R.2.2]) ∧ Below w.heap.size w w' := by
 have HBG := qh (fun W => begin_calls p s W)
 unfold spotF at hR
 by_cases h0 : beginE s = 0
 ·
  rw [if_pos h0] at hR
  rw [h0] at HBG
  obtain ⟨hz, -⟩ := beginE_ok h0
  have HP := qh (fun W => path_Parts.calls s (partsB s) W (by rw [path_Parts.f, if_pos (by omega)]; rfl))
  have hpl := partsB_len' s
  have hps := partsB_sz s
  generalize partsB s = l at hR HP hpl hps
  clear h0
  rcases List.eq_nil_or_concat l with rfl | ⟨ini, z, rfl⟩
  ·
   have hR := Option.some.inj hR
   subst hR
   go_enter Tryz.func93, Tryz.ntmps93
   go_wp2_with (first | (go_at_call 134; refine (HBG.out _).mono ?_; rintro e w2 ⟨rfl, rfl⟩) | (go_at_call 135; refine (HP.out _).mono ?_; rintro e w3 ⟨v, rfl, ho, hb3⟩; obtain ⟨A3, c3, rfl, hl3, hC3⟩ := Kd.R_reads ho; clear ho hC3))
   go_ret3
   exact ⟨rfl, hb3⟩
  ·
   rw [List.concat_eq_append] at *
   rw [List.getLast?_concat, List.dropLast_concat] at hR
   simp only [] at hR
   have hlen : (ini ++ [z]).length = ini.length + 1 := by simp
   by_cases hdd : z.toList = [46, 46]
   ·
    rw [if_pos hdd] at hR
    have hR := Option.some.inj hR
    subst hR
    have b2 : (z.toList == [46, 46]) = true := by rw [hdd]; rfl
    go_enter Tryz.func93, Tryz.ntmps93
    go_upto_region 6 with (first | (go_at_call 134; refine (HBG.out _).mono ?_; rintro e w2 ⟨rfl, rfl⟩) | (go_at_call 135; refine (HP.out _).mono ?_; rintro e w3 ⟨v, rfl, ho, hb3⟩; obtain ⟨A3, c3, rfl, hl3, hC3⟩ := Kd.R_reads ho; have HC3 := qh hC3; clear ho hC3))
    obtain ⟨ad, eA, x0⟩ := Kd.at_string HC3.out (ini.length : Int) (by omega) (by simp; omega)
    have e0 : rdOf ByteArray.empty (ini ++ [z]) (ini.length : Int) = z := by simp [rdOf]
    rw [e0, Int.toNat_natCast] at x0
    subst eA
    have d0 : decide ((ini.length : Int) < 0) = false := decide_eq_false (by omega)
    have i0 : (0 : Int) ≤ (ini.length : Int) := by omega
    have i1 : (ini.length : Int) < (ini.length : Int) + 1 := by omega
    have i2 : (ini.length : Int) ≤ (ini.length : Int) + 1 := by omega
    clear e0
    go_wp2
    go_ret3
    exact ⟨rfl, hb3⟩
   ·
    rw [if_neg hdd] at hR
    have b2 : (z.toList == [46, 46]) = false := by simpa using hdd
    clear hdd
    obtain ⟨r, hr, hR⟩ := Option.bind_eq_some_iff.1 hR
    have hwr := walkF_wf hO true k 1 0 ini r wf1 hr
    have HW := qh (fun w4 (hT4 : TreeAt w4 p T) W g A c h1 h2 h3 => walk_calls w4.heap.size w4 g p T hT4 hO true k 1 ini A c r W h1 h2 h3 wf1 (by simp at hpl; omega) (fun x hx => Nat.le_trans (hps x (List.mem_append_left _ hx)) (by omega)) hr)
    have HT := qh hT
    have HR := qh hR
    have hzz : z.size < 4294967281 := by have := hps z (by simp); omega
    have HCK := qh (fun W => name_Check.calls z (Sp.check z.data.toList) W (by rw [name_Check.f, if_pos hzz]))
    have HKD := qh (fun W (h : TreeAt W p T) => kind_calls p T r.1 W h hwr)
    have hini : ini.length < 4294967296 := by simp at hpl; omega
    clear hT hR hr hps hwr
    obtain ⟨rn, re⟩ := r
    simp only [] at HR HKD
    go_enter Tryz.func93, Tryz.ntmps93
    go_upto_region 6 with (first | (go_at_call 134; refine (HBG.out _).mono ?_; rintro e w2 ⟨rfl, rfl⟩) | (go_at_call 135; refine (HP.out _).mono ?_; rintro e w3 ⟨v, rfl, ho, hb3⟩; obtain ⟨A3, c3, rfl, hl3, hC3⟩ := Kd.R_reads ho; have HC3 := qh hC3; clear ho hC3))
    obtain ⟨ad, eA, x0⟩ := Kd.at_string HC3.out (ini.length : Int) (by omega) (by simp; omega)
    have e0 : rdOf ByteArray.empty (ini ++ [z]) (ini.length : Int) = z := by simp [rdOf]
    rw [e0, Int.toNat_natCast] at x0
    subst eA
    have d0 : decide ((ini.length : Int) < 0) = false := decide_eq_false (by omega)
    have i0 : (0 : Int) ≤ (ini.length : Int) := by omega
    have i1 : (ini.length : Int) < (ini.length : Int) + 1 := by omega
    have i2 : (ini.length : Int) ≤ (ini.length : Int) + 1 := by omega
    clear e0
    have X0 := qh x0
    have HB3 := qh hb3
    have hct := Kd.C_take (m := ini.length) HC3.out (by simp)
    rw [List.take_left] at hct
    have HCT := qh hct
    clear hct hb3
    go_upto_region 9 with (go_at_call 136; refine (cloneS_calls _ _ ini _ HCT.out (by simp at hl3; omega) hini).mono ?_; rintro e w4 ⟨v4, rfl, ho4, hb4⟩; obtain ⟨A4, c4, rfl, hl4, hC4⟩ := Kd.R_reads ho4; have HC4 := qh hC4; have HB4 := qh (HB3.out.trans (hb4.mono HB3.out.size)); have x4 := pw_cell_below hb4 X0.out; clear ho4 hC4 hb4)
    have hk := Wk.made (p := p) HC4.out hl4
    have hB : Below w4.heap.size w4 (w4.alloc (.cells #[pT p, .int .i64 1, .int .i64 0, .slice A4 ini.length c4] 191)) := (Below.refl _ w4).alloc (Nat.le_refl _) _
    have hg : w4.heap.size ≤ w4.heap.size := Nat.le_refl _
    generalize w4.alloc (.cells #[pT p, .int .i64 1, .int .i64 0, .slice A4 ini.length c4] 191) = w5 at hk hB ⊢
    have HWK := qh (HW.out w4 (HT.out.below HB4.out) w5 w4.heap.size A4 c4 hk hB hg)
    have X4 := qh x4
    clear hk hB hg HW HC4 x0 x4 hl4 HCT
    generalize hgg : w4.heap.size = g at HWK ⊢
    have HG := qh hgg
    clear hgg
    by_cases he : re = 0
    ·
     subst he
     rw [if_pos rfl] at HR
     by_cases hkd : (T.node rn).kind = 1
     ·
      rw [if_pos hkd] at HR
      rw [hkd] at HKD
      clear hkd
      generalize Sp.check z.data.toList = ck at HR HCK
      by_cases hc0 : ck = 0
      ·
       subst hc0
       rw [if_pos rfl] at HR
       have hR := Option.some.inj HR.out
       subst hR
       go_upto_region 17 with (first | (go_at_call 137; refine HWK.out.mono ?_; rintro e w6 ⟨rfl, hw6⟩; obtain ⟨hq, hb6⟩ := hw6; obtain ⟨h6, l6, A6, c6, hk6⟩ := hq rfl; have y6 := pw_cell_below hb6 X4.out; obtain ⟨c0, c1, c2, c3⟩ := hk6.cells; have HK6 := qh hk6; have HB6 := qh (HB4.out.trans (hb6.mono HB4.out.size)); clear hk6 hq) | (go_at_call 69; refine (HKD.out _ (HT.out.below HB6.out)).mono ?_; rintro e w7 ⟨rfl, hb7⟩; have y7 := pw_cell_below hb7 y6; have c17 := pw_cell_below hb7 c1; have HB7 := qh (HB6.out.trans (hb7.mono HB6.out.size))) | (go_at_call 98; refine (HCK.out _).mono ?_; rintro e w8 ⟨rfl, hb8⟩; have y8 := pw_cell_below hb8 y7; have c18 := pw_cell_below hb8 c17; have HB8 := qh (HB7.out.trans (hb8.mono HB7.out.size))))
       clear hb6 hb7 hb8 y6 y7 c0 c1 c2 c3 c17
       go_quiet (fail)
       go_wp2
       go_ret3
       exact ⟨rfl, pw_below_drewN HB8.out nq⟩
      ·
       rw [if_neg hc0] at HR
       have b6 : (ck != 0) = true := bne_iff_ne.2 hc0
       have hR := Option.some.inj HR.out
       subst hR
       clear hc0
       go_wp2_with (first | (go_at_call 137; refine HWK.out.mono ?_; rintro e w6 ⟨rfl, hw6⟩; obtain ⟨hq, hb6⟩ := hw6; obtain ⟨h6, l6, A6, c6, hk6⟩ := hq rfl; have y6 := pw_cell_below hb6 X4.out; obtain ⟨c0, c1, c2, c3⟩ := hk6.cells; have HK6 := qh hk6; have HB6 := qh (HB4.out.trans (hb6.mono HB4.out.size)); clear hk6 hq) | (go_at_call 69; refine (HKD.out _ (HT.out.below HB6.out)).mono ?_; rintro e w7 ⟨rfl, hb7⟩; have y7 := pw_cell_below hb7 y6; have c17 := pw_cell_below hb7 c1; have HB7 := qh (HB6.out.trans (hb7.mono HB6.out.size))) | (go_at_call 98; refine (HCK.out _).mono ?_; rintro e w8 ⟨rfl, hb8⟩; have y8 := pw_cell_below hb8 y7; have c18 := pw_cell_below hb8 c17; have HB8 := qh (HB7.out.trans (hb8.mono HB7.out.size))))
       go_ret3
       exact ⟨rfl, HB8.out⟩
     ·
      rw [if_neg hkd] at HR
      have b5 : ((T.node rn).kind != 1) = true := bne_iff_ne.2 hkd
      generalize (T.node rn).kind = kd at HKD b5
      have hR := Option.some.inj HR.out
      subst hR
      clear hkd
      go_wp2_with (first | (go_at_call 137; refine HWK.out.mono ?_; rintro e w6 ⟨rfl, hw6⟩; obtain ⟨hq, hb6⟩ := hw6; obtain ⟨h6, l6, A6, c6, hk6⟩ := hq rfl; have y6 := pw_cell_below hb6 X4.out; obtain ⟨c0, c1, c2, c3⟩ := hk6.cells; have HK6 := qh hk6; have HB6 := qh (HB4.out.trans (hb6.mono HB4.out.size)); clear hk6 hq) | (go_at_call 69; refine (HKD.out _ (HT.out.below HB6.out)).mono ?_; rintro e w7 ⟨rfl, hb7⟩; have y7 := pw_cell_below hb7 y6; have c17 := pw_cell_below hb7 c1; have HB7 := qh (HB6.out.trans (hb7.mono HB6.out.size))))
      go_ret3
      exact ⟨rfl, HB7.out⟩
    ·
     rw [if_neg he] at HR
     have b4 : (re != 0) = true := bne_iff_ne.2 he
     have hR := Option.some.inj HR.out
     subst hR
     clear he
     go_wp2_with (go_at_call 137; refine HWK.out.mono ?_; rintro e w6 ⟨rfl, hw6⟩)
     go_ret3
     exact ⟨rfl, HB4.out.trans (hw6.2.mono HB4.out.size)⟩
 ·
  rw [if_neg h0] at hR
  have hR := Option.some.inj hR
  subst hR
  have b3 : (beginE s != 0) = true := bne_iff_ne.2 h0
  generalize beginE s = e0 at HBG b3
  clear h0 hT
  go_enter Tryz.func93, Tryz.ntmps93
  go_wp2_with (first | (go_at_call 134; refine (HBG.out _).mono ?_; rintro e w2 ⟨rfl, rfl⟩))
  go_ret3
  exact ⟨rfl, Below.refl _ _⟩
end Go.Proofs.YtnpeeiikdcankaaGreat.Tw

namespace Go.Proofs.YtnpeeiikdcankaaGreat.X
open Go.RowKit Go.Proofs.YtnpeeiikdcankaaGreatW.PrintWords Go.Proofs.YtnpeeiikdcankaaGreatW.PrintLast Go.Proofs.YtnpeeiikdcankaaGreatW.PrintMore Go.Proofs.YtnpeeiikdcankaaGreat.Ext
attribute [local go_sem] max2_int min2_int max_two min_two max_three min_three max_four min_four
mutual
def linhayref08_Go.j0 : Nat → Int → List ByteArray → Bool → Int → Int → Bool → List (S106) → Int → Int → Int → ByteArray → Int → ByteArray → Option (Int × Int × Int)
 | 0, _, _, _, _, _, _, _, _, _, _, _, _, _ => none
 | k + 1, x1, x2, x3, x4, x14, x75, x186000, x186001, x211000, x211001, x211002, x211003, x211004 => if x75 = true then (if 1 ≤ (x2.length : Int) then ((linhayref08_Go.f k x186000 x186001 x14 (x2.drop 1) x3 x4).bind fun bt212 => (some (bt212.1, bt212.2.1, bt212.2.2))) else (none)) else (if x4 = 40 then (some (0, x4, 10)) else (if 0 < (x211004.size : Int) then (if (bt x211004 0) = 47 then ((linhayref04_Parts.f k x211004).bind fun t215 => (if ([] : List ByteArray).length + t215.length < 8796093022208 then ((some (([] : List ByteArray) ++ t215 : List ByteArray)).bind fun y218 => (if 1 ≤ (x2.length : Int) then (if y218.length + (x2.drop 1).length < 8796093022208 then ((linhayref08_Go.f k x186000 x186001 1 (y218 ++ (x2.drop 1)) x3 (wrap64 (x4 + 1))).bind fun bt225 => (some (bt225.1, bt225.2.1, bt225.2.2))) else (none)) else (none))) else (none))) else ((linhayref04_Parts.f k x211004).bind fun t228 => (if ([] : List ByteArray).length + t228.length < 8796093022208 then ((some (([] : List ByteArray) ++ t228 : List ByteArray)).bind fun y231 => (if 1 ≤ (x2.length : Int) then (if y231.length + (x2.drop 1).length < 8796093022208 then ((linhayref08_Go.f k x186000 x186001 x1 (y231 ++ (x2.drop 1)) x3 (wrap64 (x4 + 1))).bind fun bt238 => (some (bt238.1, bt238.2.1, bt238.2.2))) else (none)) else (none))) else (none)))) else (none)))
def linhayref08_Go.f : Nat → List (S106) → Int → Int → List ByteArray → Bool → Int → Option (Int × Int × Int)
 | 0, _, _, _, _, _, _ => none
 | k + 1, l0_0, a0_1, a1, l2, a3, a4 => if (l2.length : Int) = 0 then (some (a1, a4, 0)) else ((linhayref07_At.f k l0_0 a0_1 a1).bind fun bt186 => (if bt186.2.2.2.1 = 1 then (if 0 < (l2.length : Int) then (if (rdOf ByteArray.empty l2 0).toList = ([46, 46] : List UInt8) then ((linhayref07_At.f k l0_0 a0_1 a1).bind fun bt192 => (if 1 ≤ (l2.length : Int) then ((linhayref08_Go.f k l0_0 a0_1 bt192.2.1 (l2.drop 1) a3 a4).bind fun bt198 => (some (bt198.1, bt198.2.1, bt198.2.2))) else (none))) else ((linhayref03_Check.f k (rdOf ByteArray.empty l2 0)).bind fun t202 => (if t202 = 0 then ((linhayref07_In.f k l0_0 a0_1 a1 (rdOf ByteArray.empty l2 0)).bind fun t204 => ((linhayref07_At.f k l0_0 a0_1 t204).bind fun bt205 => (if t204 = 0 then (some (0, a4, 5)) else (if bt205.2.2.2.1 = 3 then (if (l2.length : Int) = 1 then (linhayref08_Go.j0 k a1 l2 a3 a4 t204 (!a3) l0_0 a0_1 bt205.1 bt205.2.1 bt205.2.2.1 bt205.2.2.2.1 bt205.2.2.2.2) else (linhayref08_Go.j0 k a1 l2 a3 a4 t204 false l0_0 a0_1 bt205.1 bt205.2.1 bt205.2.2.1 bt205.2.2.2.1 bt205.2.2.2.2)) else (linhayref08_Go.j0 k a1 l2 a3 a4 t204 true l0_0 a0_1 bt205.1 bt205.2.1 bt205.2.2.1 bt205.2.2.2.1 bt205.2.2.2.2))))) else (some (0, a4, t202))))) else (none)) else (some (0, a4, 7))))
end
def linhayref08_Find.f (k : Nat) (l0_0 : List (S106)) (a0_1 : Int) (a1 : ByteArray) (a2 : Bool) : Option (Int × Int) := if a1.toList = ([] : List UInt8) then (some (0, 5)) else (if (a1.size : Int) > 1024 then (some (0, 11)) else ((linhayref04_Parts.f k a1).bind fun t242 => ((linhayref08_Go.f k l0_0 a0_1 1 t242 a2 0).bind fun bt245 => (some (bt245.1, bt245.2.2)))))
end Go.Proofs.YtnpeeiikdcankaaGreat.X

namespace Go.Proofs.YtnpeeiikdcankaaGreat.Tw
open Go Go.RowKit Go.Shelf Go.Proofs Go.Proofs.YtnpeeiikdcankaaGreat Go.Proofs.YtnpeeiikdcankaaGreatW.PrintWords Go.Proofs.YtnpeeiikdcankaaGreat.Ext Go.Proofs.YtnpeeiikdcankaaGreat.X Go.Proofs.YtnpeeiikdcankaaGreat.Pu
theorem walk_nil (T : Tr) (lst : Bool) (k : Nat) (a h : Int) : walkF T lst (k + 1) a h [] = some (a, 0) := rfl
theorem walk_cons (T : Tr) (lst : Bool) (k : Nat) (a h : Int) (s : ByteArray) (l : List ByteArray) : walkF T lst (k + 1) a h (s :: l) =
  if (T.node a).kind ≠ 1 then some (a, 7)
  else if s.toList = [46, 46] then walkF T lst k (T.node a).up h l
  else if (downT T a s).2 ≠ 0 then some (a, (downT T a s).2)
  else if (T.node (downT T a s).1).kind ≠ 3 ∨ (l = [] ∧ lst = false) then walkF T lst k (downT T a s).1 h l
  else if 40 ≤ h then some (a, 10)
  else walkF T lst k (if slashB (T.node (downT T a s).1).data = true then 1 else a) (h + 1) (partsB (T.node (downT T a s).1).data ++ l) := rfl
theorem slash_bt {x : ByteArray} (h : 0 < x.size) : slashB x = true ↔ bt x 0 = 47 := by
 obtain ⟨c, hc, hd⟩ := Pu.get_at x h
 have hb := bt_nat hc
 rw [Int.ofNat_zero] at hb
 rw [hb]
 rw [List.drop_zero] at hd
 unfold slashB
 rw [hd]
 have e : Lib.hasPrefix (c :: x.data.toList.drop 1) [47] = (c == 47) := by
  simp [Lib.hasPrefix, List.isPrefixOf]
  exact Bool.eq_iff_iff.2 (by rw [beq_iff_eq, beq_iff_eq]; exact eq_comm)
 rw [e, beq_iff_eq]
 constructor
 · rintro rfl; rfl
 ·
  intro h
  have : c.toNat = (47 : UInt8).toNat := by have : (47 : UInt8).toNat = 47 := rfl; omega
  exact UInt8.toNat_inj.1 this
theorem go_both {L : List RN} {last : Int} (hG : GoodL L last) (hM : GoodM L) (lst : Bool) : ∀ (j m : Nat) (l : List ByteArray) (a : Int), l.length = m → j ≤ 40 → (l.length : Int) ≤ 3000000 - 70000 * j →
  ∃ k q e h, walkF (trOf L last) lst k a (40 - j) l = some (q, e) ∧ Ev (fun k => linhayref08_Go.f k L last a l lst (40 - j)) (if e = 0 then q else 0, h, e) := by
 have hlen : L.length < 4294967296 := by have := hG.len; omega
 intro j
 induction j using Nat.strongRecOn with
 | _ j ihj =>
 intro m
 induction m with
 | zero =>
  intro l a hl hj hb
  obtain rfl : l = [] := List.eq_nil_of_length_eq_zero hl
  refine ⟨1, a, 0, 40 - j, rfl, ?_⟩
  rw [if_pos rfl]
  refine Ev.step (fun k => by rw [linhayref08_Go.f]) ?_
  exact ev_pos rfl (Ev.now _)
 | succ m ih =>
  intro l a hl hj hb
  obtain ⟨s, l, rfl⟩ : ∃ s l', l = s :: l' := by cases l with | nil => simp at hl | cons s l' => exact ⟨s, l', rfl⟩
  have hl' : l.length = m := by simpa using hl
  have hb' : (l.length : Int) ≤ 3000000 - 70000 * j := by simp only [List.length_cons] at hb; omega
  have hcons : ¬ (((s :: l).length : Nat) : Int) = 0 := by simp only [List.length_cons]; omega
  have hpos : 0 < (((s :: l).length : Nat) : Int) := by simp only [List.length_cons]; omega
  have h1le : 1 ≤ (((s :: l).length : Nat) : Int) := by simp only [List.length_cons]; omega
  have hn := node_of hG a
  have hnk : ((trOf L last).node a).kind = (atR L a).f3 := by rw [hn]
  have hnu : ((trOf L last).node a).up = (atR L a).f1 := by rw [hn]
  by_cases hk : (atR L a).f3 = 1
  ·
   have hw : ∀ k, walkF (trOf L last) lst (k + 1) a (40 - j) (s :: l) = _ := fun k => walk_cons (trOf L last) lst k a (40 - j) s l
   have start : ∀ {r : Int × Int × Int}, Ev (fun k => if (rdOf ByteArray.empty (s :: l) 0).toList = ([46, 46] : List UInt8) then ((linhayref07_At.f k L last a).bind fun bt204 => (if 1 ≤ (((s :: l).length : Nat) : Int) then ((linhayref08_Go.f k L last bt204.2.1 ((s :: l).drop 1) lst (40 - j)).bind fun bt210 => (some (bt210.1, bt210.2.1, bt210.2.2))) else (none))) else ((linhayref03_Check.f k (rdOf ByteArray.empty (s :: l) 0)).bind fun t214 => (if t214 = 0 then ((linhayref07_In.f k L last a (rdOf ByteArray.empty (s :: l) 0)).bind fun t216 => ((linhayref07_At.f k L last t216).bind fun bt217 => (if t216 = 0 then (some ((0 : Int), (40 : Int) - (j : Int), (5 : Int))) else (if bt217.2.2.2.1 = 3 then (if (((s :: l).length : Nat) : Int) = 1 then (linhayref08_Go.j0 k a (s :: l) lst (40 - j) t216 (!lst) L last bt217.1 bt217.2.1 bt217.2.2.1 bt217.2.2.2.1 bt217.2.2.2.2) else (linhayref08_Go.j0 k a (s :: l) lst (40 - j) t216 false L last bt217.1 bt217.2.1 bt217.2.2.1 bt217.2.2.2.1 bt217.2.2.2.2)) else (linhayref08_Go.j0 k a (s :: l) lst (40 - j) t216 true L last bt217.1 bt217.2.1 bt217.2.2.1 bt217.2.2.2.1 bt217.2.2.2.2))))) else (some ((0 : Int), (40 : Int) - (j : Int), t214))))) r → Ev (fun k => linhayref08_Go.f k L last a (s :: l) lst (40 - j)) r := by
    intro r hr
    refine Ev.step (fun k => by rw [linhayref08_Go.f]) ?_
    exact (ev_neg hcons (ev_bind (r07_at L a last hlen) (ev_pos hk (ev_pos hpos hr))))
   by_cases hdd : s.toList = [46, 46]
   ·
    obtain ⟨k, q, e, h, h1, h2⟩ := ih l (atR L a).f1 hl' hj hb'
    refine ⟨k + 1, q, e, h, ?_, start (ev_pos hdd (ev_bind (r07_at L a last hlen) (ev_pos h1le (ev_bind h2 (Ev.now _)))))⟩
    rw [hw, if_neg (by rw [hnk, hk]; simp), if_pos hdd, hnu, h1]
   ·
    have hdn := downT_of hG a s
    by_cases hc : Sp.check s.data.toList = 0
    ·
     rw [if_pos hc] at hdn
     have start2 : ∀ {r : Int × Int × Int}, Ev (fun k => if inR L a s = 0 then (some ((0 : Int), (40 : Int) - (j : Int), (5 : Int))) else (if (atR L (inR L a s)).f3 = 3 then (if (((s :: l).length : Nat) : Int) = 1 then (linhayref08_Go.j0 k a (s :: l) lst (40 - j) (inR L a s) (!lst) L last (atR L (inR L a s)).f0 (atR L (inR L a s)).f1 (atR L (inR L a s)).f2 (atR L (inR L a s)).f3 (atR L (inR L a s)).f4) else (linhayref08_Go.j0 k a (s :: l) lst (40 - j) (inR L a s) false L last (atR L (inR L a s)).f0 (atR L (inR L a s)).f1 (atR L (inR L a s)).f2 (atR L (inR L a s)).f3 (atR L (inR L a s)).f4)) else (linhayref08_Go.j0 k a (s :: l) lst (40 - j) (inR L a s) true L last (atR L (inR L a s)).f0 (atR L (inR L a s)).f1 (atR L (inR L a s)).f2 (atR L (inR L a s)).f3 (atR L (inR L a s)).f4))) r → Ev (fun k => linhayref08_Go.f k L last a (s :: l) lst (40 - j)) r := by
      intro r hr
      refine start (ev_neg hdd (ev_bind (r03_check s) (ev_pos hc (ev_bind (r07_in L a last s hlen) (ev_bind (r07_at L (inR L a s) last hlen) hr)))))
     by_cases hi : inR L a s = 0
     ·
      rw [if_pos hi] at hdn
      refine ⟨1, a, 5, 40 - j, ?_, start2 (ev_pos hi (Ev.now _))⟩
      rw [hw, if_neg (by rw [hnk, hk]; simp), if_neg hdd, hdn]; rfl
     ·
      rw [if_neg hi] at hdn
      obtain ⟨x, hx, hx0, hx1, hx2, hx3, hxe⟩ := inR_mem hG hi
      have hnn := node_of hG (inR L a s)
      have hnnk : ((trOf L last).node (inR L a s)).kind = x.f3 := by rw [hnn, hxe]
      have hnnd : ((trOf L last).node (inR L a s)).data = x.f4 := by rw [hnn, hxe]
      rw [hxe] at start2
      have goon : ((x.f3 ≠ 3 ∨ (l = [] ∧ lst = false))) → ∃ k q e h, walkF (trOf L last) lst k a (40 - j) (s :: l) = some (q, e) ∧ Ev (fun k => linhayref08_Go.f k L last a (s :: l) lst (40 - j)) (if e = 0 then q else 0, h, e) := by
       intro hgo
       obtain ⟨k, q, e, h, h1, h2⟩ := ih l (inR L a s) hl' hj hb'
       refine ⟨k + 1, q, e, h, ?_, start2 (ev_neg hi ?_)⟩
       · rw [hw, if_neg (by rw [hnk, hk]; simp), if_neg hdd, hdn, if_neg (by simp), if_pos (by rw [hnnk]; exact hgo)]; exact h1
       ·
        have hj0 : Ev (fun k => linhayref08_Go.j0 k a (s :: l) lst (40 - j) (inR L a s) true L last x.f0 x.f1 x.f2 x.f3 x.f4) (if e = 0 then q else 0, h, e) := by
         refine Ev.step (fun k => by rw [linhayref08_Go.j0]) ?_
         exact ev_pos rfl (ev_pos h1le (ev_bind h2 (Ev.now _)))
        by_cases h3 : x.f3 = 3
        ·
         obtain ⟨rfl, rfl⟩ := hgo.resolve_left (fun h => h h3)
         exact ev_pos h3 (ev_pos (by rfl) hj0)
        · exact ev_neg h3 hj0
      by_cases h3 : x.f3 = 3
      ·
       by_cases hls : l = [] ∧ lst = false
       · exact goon (.inr hls)
       ·
        have hsz := hM.link x hx h3
        have hs64 := hG.data x hx
        have body : ∀ {r : Int × Int × Int}, Ev (fun k => linhayref08_Go.j0 k a (s :: l) lst (40 - j) (inR L a s) false L last x.f0 x.f1 x.f2 x.f3 x.f4) r → Ev (fun k => linhayref08_Go.f k L last a (s :: l) lst (40 - j)) r := by
         intro r hr
         refine start2 (ev_neg hi (ev_pos h3 ?_))
         by_cases h1 : (((s :: l).length : Nat) : Int) = 1
         ·
          have hl0 : l = [] := List.eq_nil_of_length_eq_zero (by simp only [List.length_cons] at h1; omega)
          have hlt : lst = true := by cases lst with | true => rfl | false => exact absurd ⟨hl0, rfl⟩ hls
          refine ev_pos h1 ?_
          subst hlt
          exact hr
         · exact ev_neg h1 hr
        have hw2 : ∀ k, walkF (trOf L last) lst (k + 1) a (40 - j) (s :: l) = if (40 : Int) ≤ 40 - j then some (a, 10) else walkF (trOf L last) lst k (if slashB x.f4 = true then 1 else a) (40 - j + 1) (partsB x.f4 ++ l) := by
         intro k
         rw [hw, if_neg (by rw [hnk, hk]; simp), if_neg hdd, hdn, if_neg (by simp), if_neg (by rw [hnnk]; rintro (h | h); exact h h3; exact hls h), hnnd]
        cases j with
        | zero =>
         refine ⟨1, a, 10, 40 - (0 : Nat), ?_, body ?_⟩
         · rw [hw2, if_pos (by omega)]
         ·
          refine Ev.step (fun k => by rw [linhayref08_Go.j0]) ?_
          exact ev_neg (by simp) (ev_pos (by omega) (Ev.now _))
        | succ j =>
         have hpl := partsB_len' x.f4
         obtain ⟨k, q, e, h, h1, h2⟩ := ihj j (by omega) _ (partsB x.f4 ++ l) (if slashB x.f4 = true then 1 else a) rfl (by omega) (by rw [List.length_append]; omega)
         have ej : ((40 : Int) - ((j + 1 : Nat) : Int) + 1) = 40 - j := by omega
         refine ⟨k + 1, q, e, h, ?_, body ?_⟩
         · rw [hw2, if_neg (by omega), ej]; exact h1
         ·
          refine Ev.step (fun k => by rw [linhayref08_Go.j0]) ?_
          refine ev_neg (by simp) (ev_neg (by omega) (ev_pos (by omega) ?_))
          have hwr : wrap64 ((40 : Int) - ((j + 1 : Nat) : Int) + 1) = 40 - j := by unfold wrap64; omega
          have hp : Ev (fun k => linhayref04_Parts.f k x.f4) (partsB x.f4) := r04_parts x.f4 (by omega)
          have fin : ∀ (a' : Int), Ev (fun k => linhayref08_Go.f k L last a' (partsB x.f4 ++ l) lst (40 - j)) (if e = 0 then q else 0, h, e) → Ev (fun k => ((linhayref04_Parts.f k x.f4).bind fun t227 => (if ([] : List ByteArray).length + t227.length < 8796093022208 then ((some (([] : List ByteArray) ++ t227 : List ByteArray)).bind fun y230 => (if 1 ≤ (((s :: l).length : Nat) : Int) then (if y230.length + ((s :: l).drop 1).length < 8796093022208 then ((linhayref08_Go.f k L last a' (y230 ++ ((s :: l).drop 1)) lst (wrap64 ((40 : Int) - ((j + 1 : Nat) : Int) + 1))).bind fun bt237 => (some (bt237.1, bt237.2.1, bt237.2.2))) else (none)) else (none))) else (none)))) (if e = 0 then q else 0, h, e) := by
           intro a' hr
           refine ev_bind hp (ev_pos (by simp only [List.length_nil]; omega) (ev_some (ev_pos h1le (ev_pos (by simp only [List.nil_append, List.drop_one, List.tail_cons]; omega) ?_))))
           rw [hwr, List.nil_append]
           exact ev_bind hr (Ev.now _)
          by_cases hsl : bt x.f4 0 = 47
          ·
           rw [if_pos ((slash_bt hsz).2 hsl)] at h2
           exact ev_pos hsl (fin 1 h2)
          ·
           rw [if_neg (fun h => hsl ((slash_bt hsz).1 h))] at h2
           exact ev_neg hsl (fin a h2)
      · exact goon (.inl h3)
    ·
     rw [if_neg hc] at hdn
     refine ⟨1, a, Sp.check s.data.toList, 40 - j, ?_, start (ev_neg hdd (ev_bind (r03_check s) (ev_neg hc (by rw [if_neg hc]; exact Ev.now _))))⟩
     rw [hw, if_neg (by rw [hnk, hk]; simp), if_neg hdd, hdn, if_pos hc]
  ·
   refine ⟨1, a, 7, 40 - j, ?_, ?_⟩
   · rw [walk_cons, if_pos (by rw [hnk]; exact hk)]
   ·
    refine Ev.step (fun k => by rw [linhayref08_Go.f]) ?_
    exact ev_neg hcons (ev_bind (r07_at L a last hlen) (ev_neg hk (Ev.now _)))
theorem find_both {L : List RN} {last : Int} (hG : GoodL L last) (hM : GoodM L) (lst : Bool) (s : ByteArray) : ∃ k R, findF (trOf L last) lst k s = some R ∧ Ev (fun k => linhayref08_Find.f k L last s lst) R := by
 unfold findF beginE
 by_cases h0 : s.toList = []
 ·
  refine ⟨0, (0, 5), ?_, ?_⟩
  · rw [if_pos h0, if_neg (by decide)]
  · unfold linhayref08_Find.f; exact ev_pos h0 (Ev.now _)
 ·
  by_cases h1 : s.size > 1024
  ·
   refine ⟨0, (0, 11), ?_, ?_⟩
   · rw [if_neg h0, if_pos h1, if_neg (by decide)]
   · unfold linhayref08_Find.f; exact ev_neg h0 (ev_pos (by omega) (Ev.now _))
  ·
   have hpl := partsB_len' s
   obtain ⟨k, q, e, h, h2, h3⟩ := go_both hG hM lst 40 _ (partsB s) 1 rfl (by omega) (by omega)
   refine ⟨k, (if e = 0 then q else 0, e), ?_, ?_⟩
   ·
    rw [if_neg h0, if_neg h1, if_pos rfl, show walkF (trOf L last) lst k 1 0 (partsB s) = some (q, e) from h2]
    simp only [Option.bind_some]
    by_cases he : e = 0
    · rw [if_pos he, if_pos he, he]
    · rw [if_neg he, if_neg he]
   ·
    unfold linhayref08_Find.f
    exact ev_neg h0 (ev_neg (by omega) (ev_bind (r04_parts s (by omega)) (ev_bind h3 (Ev.now _))))
end Go.Proofs.YtnpeeiikdcankaaGreat.Tw

namespace Go.Sort
end Go.Sort
namespace Go.Proofs.YtnpeeiikdcankaaGreat.Tw
open Go Go.RowKit Go.Shelf Go.Proofs Go.Proofs.YtnpeeiikdcankaaGreat Go.Proofs.YtnpeeiikdcankaaGreatW.PrintWords Go.Proofs.YtnpeeiikdcankaaGreat.Ext Go.Proofs.YtnpeeiikdcankaaGreat.X Go.Proofs.YtnpeeiikdcankaaGreat.Pu Go.Sort
end Go.Proofs.YtnpeeiikdcankaaGreat.Tw

namespace Go.Proofs.YtnpeeiikdcankaaGreat.Tw
open Go Go.RowKit Go.Shelf Go.Proofs Go.Proofs.YtnpeeiikdcankaaGreat Go.Proofs.YtnpeeiikdcankaaGreatW.PrintWords Go.Proofs.YtnpeeiikdcankaaGreat.Ext Go.Proofs.YtnpeeiikdcankaaGreat.X Go.Proofs.YtnpeeiikdcankaaGreat.Pu
theorem root_at {L : List RN} {last : Int} (h : GoodL L last) : (atR L 1).f0 = 1 ∧ (atR L 1).f1 = 1 ∧ (atR L 1).f3 = 1 := by
 obtain ⟨r, hr, h0, h1, h3⟩ := h.root
 have := at_mem h hr
 rw [h0] at this
 rw [this]
 exact ⟨h0, h1, h3⟩
structure But (w w' : World) (k : Nat) : Prop where
 g : w.grownBy w' (some k)
 no : ∀ a s, a.block = k → w.cell? a ≠ some (.string s)
theorem But.cell {w w' : World} {k : Nat} (h : But w w' k) {a : Addr} {v : Value} (hne : a.block ≠ k) (hc : w.cell? a = some v) : w'.cell? a = some v := by
 have hlt := block_lt_of_cell hc
 rw [← hc]
 unfold World.cell?
 rw [h.g.block _ hlt (fun e => hne (Option.some.inj e))]
theorem add_block (ad : Addr) (n : Nat) : (ad.add n).block = ad.block := by unfold Addr.add; split <;> rfl
def IsI (u : Value) : Prop := ∃ m : Int, u = .int .i64 m
def OwnN (w : World) (base : Nat) (v : Value) (l : List Int) : Prop :=
 (v = .slice none 0 0 ∧ l = []) ∨
 ∃ g cap cur, v = .slice (some ⟨g, 0, none⟩) l.length cap ∧ base ≤ g ∧ w.heap[g]? = some (.cells cur 3 (0, 0)) ∧ l.length ≤ cap ∧ cap ≤ maxLen ∧ cur.size = cap ∧ cur.toList.take l.length = l.map (Value.int .i64) ∧ ∀ u ∈ cur.toList, IsI u
theorem infoI : (Tryz.prog.info? 3).map (fun i => (i.zero, i.size, i.bytes)) = some (some (.int .i64 0), 1, 8) := by kernel_rfl
theorem OwnN.made (W : World) (base : Nat) (hb : base ≤ W.heap.size) : OwnN (W.alloc (.cells #[] 3)) base (.slice (some ⟨W.heap.size, 0, none⟩) 0 0) [] :=
 .inr ⟨W.heap.size, 0, #[], rfl, hb, heap_alloc_new W _, Nat.le_refl _, by simp [maxLen], rfl, rfl, by simp⟩
theorem OwnN.toR {w : World} {base : Nat} {v : Value} {l : List Int} (h : OwnN w base v l) : Kd.R (Kd.int .i64) 3 w base (fun _ => True) v l := by
 refine Kd.R_of_own ?_ (fun _ _ => trivial)
 refine ⟨by simp [encs], ?_⟩
 rcases h with ⟨rfl, rfl⟩ | ⟨g, cap, cur, rfl, hb, hh, hle, hm, hc, ht, _⟩
 · exact .inl ⟨rfl, rfl⟩
 ·
  refine .inr ⟨g, cap, cur, rfl, hb, hh, hle, hm, by omega, ?_⟩
  rw [Nat.mul_one, ht]; rfl
theorem OwnN.step {w w' : World} {base : Nat} {v : Value} {l : List Int} (h : OwnN w base v l) (hs : ∀ k cur, k < w.heap.size → w.heap[k]? = some (.cells cur 3 (0, 0)) → w'.heap[k]? = w.heap[k]?) : OwnN w' base v l := by
 rcases h with h | ⟨g, cap, cur, e, hb, hh, r⟩
 · exact .inl h
 · exact .inr ⟨g, cap, cur, e, hb, (hs g cur (blk_lt hh) hh).trans hh, r⟩
theorem OwnN.below {w w' : World} {base : Nat} {v : Value} {l : List Int} (h : OwnN w base v l) (hb : Below w.heap.size w w') : OwnN w' base v l := h.step (fun k _ hk _ => hb.block k hk)
theorem OwnN.frm {w w' : World} {p B base : Nat} {T : Tr} {v : Value} {l : List Int} (h : OwnN w base v l) (hT : TreeB w p B T) (hf : Frm w w' p B) : OwnN w' base v l := by
 obtain ⟨hp, es, clock, hB⟩ := hT.two
 refine h.step (fun k cur hk hh => hf.block k hk ?_ ?_)
 ·
  rintro rfl
  rw [hp] at hh
  injection hh with hh
  injection hh with _ hh
  exact absurd hh (by decide)
 ·
  rintro rfl
  rw [hB] at hh
  cases hh
theorem OwnN.noS {w : World} {base : Nat} {v : Value} {l : List Int} (h : OwnN w base v l) (k : Nat) (hk : v.ownBlock = some k) : ∀ a s, a.block = k → w.cell? a ≠ some (.string s) := by
 rcases h with ⟨rfl, _⟩ | ⟨g, cap, cur, rfl, hb, hh, hle, hm, hc, ht, ha⟩
 · cases hk
 ·
  injection hk with hk
  change g = k at hk
  subst hk
  rintro ⟨b, o, sp⟩ s rfl
  simp only [World.cell?, hh]
  split
  · simp
  ·
   intro e
   obtain ⟨m, hm⟩ := ha _ (List.mem_of_getElem? (by simpa using e))
   cases hm
theorem drewAlloc (w : World) (o : Obj) (row : Option Nat) : w.grownBy (w.drew.alloc o) row := ⟨rfl, rfl, rfl, by simp, fun k hk _ => heap_alloc_old w.drew o k hk⟩
theorem zero_is (n : Nat) : ∀ u ∈ (Builtin.zeroCells (Value.cells (.int .i64 0)) n).toList, IsI u := by
 intro u hu
 simp only [Builtin.zeroCells] at hu
 simp at hu
 obtain ⟨_, hu⟩ := hu
 have : u = .int .i64 0 := by simp [Value.cells, Nat.mod_one] at hu; exact hu.2.symm
 exact ⟨0, this⟩
theorem OwnN.append {W : World} {base : Nat} {v : Value} {l : List Int} (h : OwnN W base v l) (x : Int) (ty : TypeId) (hb : base ≤ W.heap.size) (hl : l.length < 1000000) :
  ∃ v' w', (Builtin.append_ #[98, 98] ty #[v, .slice (some ⟨W.heap.size, 0, none⟩) 1 1]).run Tryz.prog (W.alloc (.cells #[.int .i64 x] 3)) = .ok v' w' ∧ OwnN w' base v' (l ++ [x]) ∧ W.grownBy w' v.ownBlock := by
 obtain ⟨i0, hi, hz0, hz1, hz2⟩ := info_parts infoI
 have ht := Tryz.underlying98
 have hnews := cell_one_new W (.int .i64 x) 3
 have h1 : ∀ u ∈ [Value.int .i64 x], u.oneCell' = true := by intro u hu; rw [List.mem_singleton.1 hu]; rfl
 have hgr := World.grownBy_alloc W (.cells #[.int .i64 x] 3)
 rcases h with ⟨rfl, rfl⟩ | ⟨g, cap, cur, rfl, hbg, hh, hle, hm, hc, htk, ha⟩
 ·
  have hr := run_append_nil (P := Tryz.prog) (W.alloc (.cells #[.int .i64 x] 3)) 98 ty 3 i0 (.int .i64 0) ht hi hz0 ⟨W.heap.size, 0, none⟩ 1 1 [.int .i64 x] (by rw [hz1]; rfl) hnews (by omega) (by omega) (by rw [hz2]; omega)
  refine ⟨_, _, hr, .inr ⟨_, _, _, rfl, ?_, heap_alloc_new _ _, ?_, ?_, ?_, ?_, ?_⟩, ?_⟩
  ·
   show base ≤ (W.alloc _).heap.size
   simp; omega
  · exact grownCap_ge _ 1 0 _
  · exact grownCap_le_maxLen _ 1 0 _ (by simp [maxLen])
  ·
   have := grownCap_ge (W.alloc (.cells #[.int .i64 x] 3)) 1 0 3
   simp only [Array.size_append, List.size_toArray, size_zeroCells]
   simp [Value.cells]
   omega
  · simp
  ·
   intro u hu
   rw [Array.toList_append] at hu
   rcases List.mem_append.1 hu with hu | hu
   · exact ⟨x, by simpa using hu⟩
   · exact zero_is _ u hu
  · exact World.grownBy.trans (hgr _) (drewAlloc _ _ _)
 ·
  have hg' : (W.alloc (.cells #[.int .i64 x] 3)).heap[g]? = some (.cells cur 3 (0, 0)) := (heap_alloc_old W _ g (blk_lt hh)).trans hh
  have hgr := World.grownBy_alloc W (.cells #[.int .i64 x] 3) (some g)
  by_cases hroom : l.length + 1 ≤ cap
  ·
   have hr := run_append_room (P := Tryz.prog) (W.alloc (.cells #[.int .i64 x] 3)) 98 ty 3 i0 ht hi g l.length cap cur hg' ⟨W.heap.size, 0, none⟩ 1 1 [.int .i64 x] (by rw [hz1]; rfl) hnews h1 hroom (by rw [hz1]; simp; omega)
   rw [hz1, Nat.mul_one] at hr
   refine ⟨_, _, hr, .inr ⟨g, cap, _, by simp, hbg, setRow_heap _ g cur _ _ _ hg', by simpa using hroom, hm, ?_, ?_, ?_⟩, ?_⟩
   ·
    have hcl : cur.toList.length = cap := by simpa using hc
    simp only [List.size_toArray, List.length_append, List.length_take, List.length_drop, hcl, List.length_singleton]
    omega
   ·
    rw [htk, List.map_append, List.length_append]
    have e : (l.map (Value.int .i64) ++ [Value.int .i64 x]).length = l.length + 1 := by simp
    show List.take (l.length + 1) (l.map (Value.int .i64) ++ [Value.int .i64 x] ++ _) = _
    rw [← e]
    exact List.take_left
   ·
    intro u hu
    simp only [List.mem_append] at hu
    rcases hu with (hu | hu) | hu
    · exact ha u (List.mem_of_mem_take hu)
    · exact ⟨x, by simpa using hu⟩
    · exact ha u (List.mem_of_mem_drop hu)
   · exact hgr.trans ⟨rfl, rfl, rfl, by simp [World.setRow], fun k hk hne => setRow_other _ g k _ (fun e => hne (by simp [e]))⟩
  ·
   have holds : ∀ j u, (l.map (Value.int .i64))[j]? = some u → (W.alloc (.cells #[.int .i64 x] 3)).cell? ((⟨g, 0, none⟩ : Addr).add j) = some u := by
    intro j u hu
    rw [← htk, List.getElem?_take] at hu
    have hadd : (⟨g, 0, none⟩ : Addr).add j = ⟨g, j, none⟩ := by simp [Addr.add_lit]
    rw [hadd, cell_of_row _ g j cur _ (0, 0) hg']
    split at hu
    · simpa using hu
    · cases hu
   have hle2 : l.length ≤ cap := hle
   have hr := run_append_grow (P := Tryz.prog) (W.alloc (.cells #[.int .i64 x] 3)) 98 ty 3 i0 (.int .i64 0) ht hi hz0 ⟨g, 0, none⟩ l.length cap (l.map (Value.int .i64)) (by rw [hz1]; simp) holds ⟨W.heap.size, 0, none⟩ 1 1 [.int .i64 x] (by rw [hz1]; rfl) hnews (by omega) (by omega) (growslice_fits (by omega) (by rw [hz2]; omega))
   refine ⟨_, _, hr, .inr ⟨_, grownCap (W.alloc (.cells #[.int .i64 x] 3)) (l.length + 1) cap 3, _, by simp, ?_, heap_alloc_new _ _, ?_, ?_, ?_, ?_, ?_⟩, ?_⟩
   ·
    show base ≤ (W.alloc _).heap.size
    simp; omega
   · simpa using grownCap_ge _ (l.length + 1) cap _
   · exact grownCap_le_maxLen _ (l.length + 1) cap _ (by simp [maxLen]; omega)
   ·
    have := grownCap_ge (W.alloc (.cells #[.int .i64 x] 3)) (l.length + 1) cap 3
    simp only [Array.size_append, List.size_toArray, size_zeroCells]
    simp [Value.cells]
    omega
   ·
    rw [Array.toList_append, Array.toList_append]
    have e : (l.map (Value.int .i64) ++ [Value.int .i64 x]).length = l.length + 1 := by simp
    show List.take (l ++ [x]).length (l.map (Value.int .i64) ++ [Value.int .i64 x] ++ _) = _
    rw [List.length_append, List.map_append]
    show List.take (l.length + 1) _ = _
    rw [← e]
    exact List.take_left
   ·
    intro u hu
    rw [Array.toList_append, Array.toList_append] at hu
    simp only [List.mem_append] at hu
    rcases hu with (hu | hu) | hu
    ·
     obtain ⟨m, _, rfl⟩ := List.mem_map.1 hu
     exact ⟨m, rfl⟩
    · exact ⟨x, by simpa using hu⟩
    · exact zero_is _ u hu
   · exact hgr.trans (drewAlloc _ _ _)
theorem OwnN.blk {w : World} {base : Nat} {v : Value} {l : List Int} (h : OwnN w base v l) (k : Nat) (hk : v.ownBlock = some k) : base ≤ k ∧ ∃ cur, w.heap[k]? = some (.cells cur 3 (0, 0)) := by
 rcases h with ⟨rfl, _⟩ | ⟨g, cap, cur, rfl, hb, hh, _⟩
 · cases hk
 ·
  injection hk with hk
  change g = k at hk
  subst hk
  exact ⟨hb, cur, hh⟩
section
variable {ops : Array Oper} {rest : List Oper} {o : Oper} {a : Act} {Q : Exit → Act → World → Prop}
end
def spotRF (L : List RN) (last : Int) (k : Nat) (s : ByteArray) : Option R3 :=
 if beginE s = 0 then
  match (partsB s).getLast? with
  | none => some (noS 6)
  | some z => if z.toList = [46, 46] then some (noS 6) else (linhayref08_Go.f k L last 1 (partsB s).dropLast true 0).bind fun r =>
    if r.2.2 = 0 then (if (atR L r.1).f3 = 1 then (if Sp.check z.data.toList = 0 then some (r.1, z, 0) else some (noS (Sp.check z.data.toList))) else some (noS 7)) else some (noS r.2.2)
 else some (noS (beginE s))
theorem spot_both {L : List RN} {last : Int} (hG : GoodL L last) (hM : GoodM L) (s : ByteArray) : ∃ k k2 R, spotF (trOf L last) k s = some R ∧ spotRF L last k2 s = some R := by
 unfold spotF spotRF
 by_cases h0 : beginE s = 0
 ·
  simp only [if_pos h0]
  have hz := (beginE_ok h0).1
  have hpl := partsB_len' s
  cases hl : (partsB s).getLast? with
  | none => exact ⟨0, 0, _, rfl, rfl⟩
  | some z =>
   by_cases hd : z.toList = [46, 46]
   · simp only [if_pos hd]; exact ⟨0, 0, _, rfl, rfl⟩
   ·
    simp only [if_neg hd]
    obtain ⟨k, q, e, h, h1, h2⟩ := go_both hG hM true 40 _ (partsB s).dropLast 1 rfl (by omega) (by rw [List.length_dropLast]; omega)
    obtain ⟨k2, h3⟩ := Ev.rounds h2
    have h1' : walkF (trOf L last) true k 1 0 (partsB s).dropLast = some (q, e) := h1
    have h3' : linhayref08_Go.f k2 L last 1 (partsB s).dropLast true 0 = some (if e = 0 then q else 0, h, e) := h3
    obtain ⟨R, hR⟩ : ∃ R, (if e = 0 then (if (atR L q).f3 = 1 then (if Sp.check z.data.toList = 0 then some (q, z, 0) else some (noS (Sp.check z.data.toList))) else some (noS 7)) else some (noS e)) = some R := by
     repeat' split
     all_goals exact ⟨_, rfl⟩
    refine ⟨k, k2, R, ?_, ?_⟩
    ·
     rw [h1', ← hR]
     simp only [Option.bind_some, node_of hG]
    ·
     rw [h3', ← hR]
     simp only [Option.bind_some]
     by_cases he : e = 0
     · rw [if_pos he, if_pos he, if_pos he]
     · rw [if_neg he, if_neg he]
 · simp only [if_neg h0]; exact ⟨0, 0, _, rfl, rfl⟩
theorem three_set {w : World} {k : Nat} {v0 v1 v2 u0 u1 u2 : Value} {t : TypeId} (h : w.heap[k]? = some (.cells #[v0, v1, v2] t (0, 0))) : (((w.setCell ⟨k, 0, none⟩ u0).setCell ⟨k, 1, none⟩ u1).setCell ⟨k, 2, none⟩ u2).heap[k]? = some (.cells #[u0, u1, u2] t (0, 0)) := by
 have k1 : (w.setCell ⟨k, 0, none⟩ u0).heap[k]? = some (.cells #[u0, v1, v2] t (0, 0)) := by rw [setCell_eq_setRow w _ 0 _ _ _ _ h, setRow_heap w _ _ _ _ _ h]; rfl
 have k2 : ((w.setCell ⟨k, 0, none⟩ u0).setCell ⟨k, 1, none⟩ u1).heap[k]? = some (.cells #[u0, u1, v2] t (0, 0)) := by rw [setCell_eq_setRow _ _ 1 _ _ _ _ k1, setRow_heap _ _ _ _ _ _ k1]; rfl
 rw [setCell_eq_setRow _ _ 2 _ _ _ _ k2, setRow_heap _ _ _ _ _ _ k2]; rfl
def sizeT (T : Tr) (n : Int) : Int := ((T.node n).data.size : Int) + ((T.node n).ents.length : Int)
def stT (T : Tr) (R : Int × Int) : Int × Int × Int := if R.2 = 0 then (R.1, (T.node R.1).kind, sizeT T R.1) else (0, 0, 0)
abbrev v3 (x : Int × Int × Int) : Value := .agg #[.int .i64 x.1, .int .i64 x.2.1, .int .i64 x.2.2]
theorem stat_calls (p : Nat) (T : Tr) (s : ByteArray) (last : Bool) (k : Nat) (R : Int × Int) (w : World) (hT : TreeAt w p T) (hO : TrOK T) (hw : wf R.1) (hR : findF T last k s = some R) :
  Calls Tryz.prog 133 #[pT p, .string s, .bool last] w fun e w' => e = .returned (.tuple #[v3 (stT T R), .int .i64 R.2]) ∧ Below w.heap.size w w' := by
 have HF := qh (fun W h => seekFind_calls p T s last k R W h hO hR)
 have HK := qh (fun W h => kind_calls p T R.1 W h hw)
 have HD := qh (fun W h => data_calls p T R.1 W h hw)
 have HL := qh (fun W h => list_calls p T R.1 W h hw (hO.small.node R.1))
 have hdz := hO.sz R.1
 have hlz := hO.small.node R.1
 have HT := qh hT
 have HST := qh (show stT T R = if R.2 = 0 then (R.1, (T.node R.1).kind, ((T.node R.1).data.size : Int) + ((T.node R.1).ents.length : Int)) else (0, 0, 0) from rfl)
 generalize stT T R = st at *
 obtain ⟨n, e⟩ := R
 simp only [] at *
 generalize T.node n = nd at *
 obtain ⟨kd, up, dt, es⟩ := nd
 simp only [] at *
 clear hT hO hw hR
 have hu := Tryz.underlying143
 have HB0 := qh ((Below.refl w.heap.size w).alloc (Nat.le_refl _) (.cells #[.int .i64 0, .int .i64 0, .int .i64 0] 143))
 have HX0 := qh (heap_alloc_new w (.cells #[.int .i64 0, .int .i64 0, .int .i64 0] 143))
 by_cases he : e = 0
 ·
  subst he
  have hst := HST.out
  rw [if_pos rfl] at hst
  subst hst
  clear HST
  go_enter Tryz.func133, Tryz.ntmps133
  go_upto_region 4 with (go_at_call 156; refine (HF.out _ (HT.out.below HB0.out)).mono ?_; rintro e w2 ⟨rfl, hb2⟩)
  have HB2 := qh (HB0.out.trans (hb2.mono HB0.out.size))
  have H2 := qh ((hb2.block _ (blk_lt HX0.out)).trans HX0.out)
  have HT2 := qh (HT.out.below HB2.out)
  clear hb2
  go_wp2_with (first
   | (go_at_call 69; refine (HK.out _ HT2.out).mono ?_; rintro e w3 ⟨rfl, hb3⟩)
   | (go_at_call 70; refine (HD.out _ (HT2.out.below hb3)).mono ?_; rintro e w4 ⟨rfl, hb4⟩)
   | (go_at_call 74; refine (HL.out _ ((HT2.out.below hb3).below hb4)).mono ?_; rintro e w5 ⟨v, rfl, ho, hb5⟩; obtain ⟨A5, c5, rfl, hl5, hC5⟩ := Kd.R_reads ho; have HB5 := qh (hb3.trans ((hb4.mono hb3.size).trans (hb5.mono (Nat.le_trans hb3.size hb4.size)))); have h5 := (HB5.out.block _ (blk_lt H2.out)).trans H2.out; have x0 : w5.cell? ⟨w.heap.size, 0, none⟩ = some (.int .i64 0) := (by rw [blk_cell h5]; rfl); have x1 : w5.cell? ⟨w.heap.size, 1, none⟩ = some (.int .i64 0) := (by rw [blk_cell h5]; rfl); have x2 : w5.cell? ⟨w.heap.size, 2, none⟩ = some (.int .i64 0) := (by rw [blk_cell h5]; rfl); have f0 := blk_frozen h5 0; have f1 := blk_frozen h5 1; have f2 := blk_frozen h5 2; have H5 := qh h5; clear h5 ho hC5 hb3 hb4 hb5))
  have H9 := qh (three_set (u0 := .int .i64 n) (u1 := .int .i64 kd) (u2 := .int .i64 ((dt.size : Int) + (es.length : Int))) H5.out)
  have HB9 := qh ((((HB2.out.trans (HB5.out.mono HB2.out.size)).setCell (p := ⟨w.heap.size, 0, none⟩) (Nat.le_refl _) (.int .i64 n)).setCell (p := ⟨w.heap.size, 1, none⟩) (Nat.le_refl _) (.int .i64 kd)).setCell (p := ⟨w.heap.size, 2, none⟩) (Nat.le_refl _) (.int .i64 ((dt.size : Int) + (es.length : Int))))
  clear x0 x1 x2
  generalize ((w5.setCell ⟨w.heap.size, 0, none⟩ (.int .i64 n)).setCell ⟨w.heap.size, 1, none⟩ (.int .i64 kd)).setCell ⟨w.heap.size, 2, none⟩ (.int .i64 ((dt.size : Int) + (es.length : Int))) = w9 at H9 HB9 ⊢
  have c0 : w9.cell? ⟨w.heap.size, 0, none⟩ = some (.int .i64 n) := by rw [blk_cell H9.out]; rfl
  have c1 : w9.cell? ⟨w.heap.size, 1, none⟩ = some (.int .i64 kd) := by rw [blk_cell H9.out]; rfl
  have c2 : w9.cell? ⟨w.heap.size, 2, none⟩ = some (.int .i64 ((dt.size : Int) + (es.length : Int))) := by rw [blk_cell H9.out]; rfl
  refine bodyPost_ret (v := .tuple #[.agg #[.int .i64 n, .int .i64 kd, .int .i64 ((dt.size : Int) + (es.length : Int))], .int .i64 0]) (by simp [results, Tryz.results133, go_sem, c0, c1, c2, hu]) rfl ⟨rfl, HB9.out⟩
 ·
  have hst := HST.out
  rw [if_neg he] at hst
  subst hst
  have he' : (e != 0) = true := bne_iff_ne.2 he
  clear HST he
  go_enter Tryz.func133, Tryz.ntmps133
  go_upto_region 3 with (go_at_call 156; refine (HF.out _ (HT.out.below HB0.out)).mono ?_; rintro e w2 ⟨rfl, hb2⟩)
  have h2 := (hb2.block _ (blk_lt HX0.out)).trans HX0.out
  have hB2 := HB0.out.trans (hb2.mono HB0.out.size)
  have x0 : w2.cell? ⟨w.heap.size, 0, none⟩ = some (.int .i64 0) := by rw [blk_cell h2]; rfl
  have x1 : w2.cell? ⟨w.heap.size, 1, none⟩ = some (.int .i64 0) := by rw [blk_cell h2]; rfl
  have x2 : w2.cell? ⟨w.heap.size, 2, none⟩ = some (.int .i64 0) := by rw [blk_cell h2]; rfl
  have f0 := blk_frozen h2 0
  have f1 := blk_frozen h2 1
  have f2 := blk_frozen h2 2
  have H3 := qh (three_set (u0 := .int .i64 0) (u1 := .int .i64 0) (u2 := .int .i64 0) h2)
  have HB3 := qh (((hB2.setCell (p := ⟨w.heap.size, 0, none⟩) (Nat.le_refl _) (.int .i64 0)).setCell (p := ⟨w.heap.size, 1, none⟩) (Nat.le_refl _) (.int .i64 0)).setCell (p := ⟨w.heap.size, 2, none⟩) (Nat.le_refl _) (.int .i64 0))
  clear h2 hB2 hb2
  go_wp2
  generalize ((w2.setCell ⟨w.heap.size, 0, none⟩ (.int .i64 0)).setCell ⟨w.heap.size, 1, none⟩ (.int .i64 0)).setCell ⟨w.heap.size, 2, none⟩ (.int .i64 0) = w9 at H3 HB3 ⊢
  have c0 : w9.cell? ⟨w.heap.size, 0, none⟩ = some (.int .i64 0) := by rw [blk_cell H3.out]; rfl
  have c1 : w9.cell? ⟨w.heap.size, 1, none⟩ = some (.int .i64 0) := by rw [blk_cell H3.out]; rfl
  have c2 : w9.cell? ⟨w.heap.size, 2, none⟩ = some (.int .i64 0) := by rw [blk_cell H3.out]; rfl
  refine bodyPost_ret (v := .tuple #[.agg #[.int .i64 0, .int .i64 0, .int .i64 0], .int .i64 e]) (by simp [results, Tryz.results133, go_sem, c0, c1, c2, hu]) rfl ⟨rfl, HB3.out⟩
theorem pstat_calls (p : Nat) (T : Tr) (s : ByteArray) (k : Nat) (R : Int × Int) (w : World) (hT : TreeAt w p T) (hO : TrOK T) (hw : wf R.1) (hR : findF T true k s = some R) :
  Calls Tryz.prog 91 #[pT p, .string s] w fun e w' => e = .returned (.tuple #[v3 (stT T R), .int .i64 R.2]) ∧ Below w.heap.size w w' := by
 have HS := qh (fun W h => stat_calls p T s true k R W h hO hw hR)
 have HT := qh hT
 have hu := Tryz.underlying143
 have HB0 := qh ((Below.refl w.heap.size w).alloc (Nat.le_refl _) (.cells #[.int .i64 0, .int .i64 0, .int .i64 0] 143))
 have HX0 := qh (heap_alloc_new w (.cells #[.int .i64 0, .int .i64 0, .int .i64 0] 143))
 generalize stT T R = st at *
 obtain ⟨a0, a1, a2⟩ := st
 generalize R.2 = e at *
 clear hT hO hw hR
 go_enter Tryz.func91, Tryz.ntmps91
 go_wp2_with (go_at_call 133; refine (HS.out _ (HT.out.below HB0.out)).mono ?_; rintro e w5 ⟨rfl, hb5⟩; have h5 := (hb5.block _ (blk_lt HX0.out)).trans HX0.out; have x0 : w5.cell? ⟨w.heap.size, 0, none⟩ = some (.int .i64 0) := (by rw [blk_cell h5]; rfl); have x1 : w5.cell? ⟨w.heap.size, 1, none⟩ = some (.int .i64 0) := (by rw [blk_cell h5]; rfl); have x2 : w5.cell? ⟨w.heap.size, 2, none⟩ = some (.int .i64 0) := (by rw [blk_cell h5]; rfl); have f0 := blk_frozen h5 0; have f1 := blk_frozen h5 1; have f2 := blk_frozen h5 2; have H5 := qh h5; have HB5 := qh (HB0.out.trans (hb5.mono HB0.out.size)); clear h5 hb5)
 have H9 := qh (three_set (u0 := .int .i64 a0) (u1 := .int .i64 a1) (u2 := .int .i64 a2) H5.out)
 have HB9 := qh (((HB5.out.setCell (p := ⟨w.heap.size, 0, none⟩) (Nat.le_refl _) (.int .i64 a0)).setCell (p := ⟨w.heap.size, 1, none⟩) (Nat.le_refl _) (.int .i64 a1)).setCell (p := ⟨w.heap.size, 2, none⟩) (Nat.le_refl _) (.int .i64 a2))
 clear x0 x1 x2
 generalize ((w5.setCell ⟨w.heap.size, 0, none⟩ (.int .i64 a0)).setCell ⟨w.heap.size, 1, none⟩ (.int .i64 a1)).setCell ⟨w.heap.size, 2, none⟩ (.int .i64 a2) = w9 at H9 HB9 ⊢
 have c0 : w9.cell? ⟨w.heap.size, 0, none⟩ = some (.int .i64 a0) := by rw [blk_cell H9.out]; rfl
 have c1 : w9.cell? ⟨w.heap.size, 1, none⟩ = some (.int .i64 a1) := by rw [blk_cell H9.out]; rfl
 have c2 : w9.cell? ⟨w.heap.size, 2, none⟩ = some (.int .i64 a2) := by rw [blk_cell H9.out]; rfl
 refine bodyPost_ret (v := .tuple #[.agg #[.int .i64 a0, .int .i64 a1, .int .i64 a2], .int .i64 e]) (by simp [results, Tryz.results91, go_sem, c0, c1, c2, hu]) rfl ⟨rfl, HB9.out⟩
def OnlyV (W : World) (v : Value) (kind e : Int) : Prop := ∃ g h : Nat, v = .func (.func 140) #[] #[.pointer (some ⟨g, 0, none⟩), .pointer (some ⟨h, 0, none⟩)] ∧ W.heap[g]? = some (.cells #[.int .i64 kind] 3 (0, 0)) ∧ W.heap[h]? = some (.cells #[.int .i64 e] 37 (0, 0))
theorem OnlyV.below {w W : World} {v : Value} {kind e : Int} (h : OnlyV w v kind e) (hb : Below w.heap.size w W) : OnlyV W v kind e := by
 obtain ⟨g, k, rfl, h1, h2⟩ := h
 exact ⟨g, k, rfl, (hb.block _ (blk_lt h1)).trans h1, (hb.block _ (blk_lt h2)).trans h2⟩
theorem only_calls (kind e : Int) (w : World) : Calls Tryz.prog 96 #[.int .i64 kind, .int .i64 e] w fun r w' => ∃ v, r = .returned v ∧ OnlyV w' v kind e ∧ Below w.heap.size w w' := by
 go_enter Tryz.func96, Tryz.ntmps96
 go_wp2
 go_ret
 have h1 := heap_alloc_new w (.cells #[.int .i64 kind] 3)
 have h2 := heap_alloc_new (w.alloc (.cells #[.int .i64 kind] 3)) (.cells #[.int .i64 e] 37)
 have e2 : (w.alloc (.cells #[.int .i64 kind] 3)).heap.size = w.heap.size + 1 := Array.size_push _
 rw [e2] at h2
 refine ⟨_, rfl, ⟨_, _, rfl, (heap_alloc_old _ _ _ (blk_lt h1)).trans h1, h2⟩, ?_⟩
 exact ((Below.refl w.heap.size w).alloc (Nat.le_refl _) _).alloc (by rw [e2]; omega) _
theorem only1_calls (k kind e : Int) (g h : Nat) (w : World) (h1 : w.heap[g]? = some (.cells #[.int .i64 kind] 3 (0, 0))) (h2 : w.heap[h]? = some (.cells #[.int .i64 e] 37 (0, 0))) :
  Calls Tryz.prog 140 #[.int .i64 k, .pointer (some ⟨g, 0, none⟩), .pointer (some ⟨h, 0, none⟩)] w fun r w' => r = .returned (.int .i64 (if k = kind then 0 else e)) ∧ Below w.heap.size w w' := by
 have x1 : w.cell? ⟨g, 0, none⟩ = some (.int .i64 kind) := by rw [blk_cell h1]; rfl
 have x2 : w.cell? ⟨h, 0, none⟩ = some (.int .i64 e) := by rw [blk_cell h2]; rfl
 by_cases hk : k = kind
 ·
  subst hk
  rw [if_pos rfl]
  go_enter Tryz.func140, Tryz.ntmps140
  go_wp2
  go_ret
  exact ⟨rfl, Below.refl _ _⟩
 ·
  rw [if_neg hk]
  have hk' : (k != kind) = true := bne_iff_ne.2 hk
  clear hk
  go_enter Tryz.func140, Tryz.ntmps140
  go_wp2
  go_ret
  exact ⟨rfl, Below.refl _ _⟩
def StrV (W : World) (v : Value) (l : List ByteArray) : Prop := ∃ A c, v = .slice A l.length c ∧ l.length ≤ c ∧ Kd.C Kd.string W A l.length l
theorem StrV.below {w W : World} {v : Value} {l : List ByteArray} (h : StrV w v l) (hb : Below w.heap.size w W) : StrV W v l := by
 obtain ⟨A, c, rfl, h1, h2⟩ := h
 exact ⟨A, c, rfl, h1, Kd.C_below h2 hb⟩
theorem node_rt {T : Tr} (hO : TrOK T) (n : Int) : Rt (T.node n).ents := by
 unfold Tr.node
 cases hx : T.get n with
 | none => exact List.Pairwise.nil
 | some x => exact hO.sorted n x hx
end Go.Proofs.YtnpeeiikdcankaaGreat.Tw

namespace Go.Proofs.YtnpeeiikdcankaaGreat.X
open Go.RowKit Go.Proofs.YtnpeeiikdcankaaGreatW.PrintWords Go.Proofs.YtnpeeiikdcankaaGreatW.PrintLast Go.Proofs.YtnpeeiikdcankaaGreatW.PrintMore Go.Proofs.YtnpeeiikdcankaaGreat.Ext
attribute [local go_sem] max2_int min2_int max_two min_two max_three min_three max_four min_four
end Go.Proofs.YtnpeeiikdcankaaGreat.X

namespace Go.Proofs.YtnpeeiikdcankaaGreat.Tw
open Go Go.RowKit Go.Proofs Go.Proofs.YtnpeeiikdcankaaGreat Go.Proofs.YtnpeeiikdcankaaGreatW.PrintWords Go.Proofs.YtnpeeiikdcankaaGreat.Ext Go.Proofs.YtnpeeiikdcankaaGreat.X Go.Proofs.YtnpeeiikdcankaaGreat.Pu
theorem walk_rng {L : List RN} {last : Int} (hG : GoodL L last) (hM : GoodM L) (lst : Bool) : ∀ (k : Nat) (a h : Int) (l : List ByteArray) (R : Int × Int), walkF (trOf L last) lst k a h l = some R → (atR L a).f3 ≠ 0 → R.2 = 0 → (atR L R.1).f3 ≠ 0 := by
 intro k
 induction k with
 | zero => intro a h l R hw; cases hw
 | succ k ih =>
  intro a h l R hw ha hR
  cases l with
  | nil =>
   rw [walk_nil] at hw
   obtain rfl := Option.some.inj hw
   exact ha
  | cons s l =>
   rw [walk_cons, node_of hG a] at hw
   simp only [] at hw
   split at hw
   · obtain rfl := Option.some.inj hw; cases hR
   rename_i hk
   have hk1 : (atR L a).f3 = 1 := by simpa using hk
   split at hw
   ·
    obtain ⟨r, hr, _, hat⟩ := at_kind ha
    refine ih _ _ _ _ hw ?_ hR
    rw [hat, hG.up r hr]
    decide
   split at hw
   ·
    rename_i h3
    obtain rfl := Option.some.inj hw
    exact absurd hR h3
   rename_i h3
   have hd : (atR L (downT (trOf L last) a s).1).f3 ≠ 0 := by
    rw [downT_of hG] at h3 ⊢
    split at h3
    ·
     rename_i hc
     rw [if_pos hc]
     split at h3
     · simp at h3
     ·
      rename_i h0
      rw [if_neg h0]
      obtain ⟨r, hr, _, _, _, _, hat⟩ := inR_mem hG h0
      rw [show (inR L a s, (0 : Int)).1 = inR L a s from rfl, hat]
      have := hM.kind r hr
      omega
    ·
     rename_i hc
     simp at h3
     exact absurd h3 hc
   split at hw
   · exact ih _ _ _ _ hw hd hR
   split at hw
   · obtain rfl := Option.some.inj hw; cases hR
   refine ih _ _ _ _ hw ?_ hR
   split
   ·
    obtain ⟨r, hr, h1, _, h2⟩ := hG.root
    rw [← h1, at_mem hG hr, h2]
    decide
   · exact ha
theorem find_rng {L : List RN} {last : Int} (hG : GoodL L last) (hM : GoodM L) {lst : Bool} {k : Nat} {s : ByteArray} {R : Int × Int} (h : findF (trOf L last) lst k s = some R) : (R.2 = 0 → 1 ≤ R.1 ∧ R.1 ≤ last) ∧ (R.2 ≠ 0 → R.1 = 0) := by
 have hroot : (atR L 1).f3 ≠ 0 := by
  obtain ⟨r, hr, h1, _, h2⟩ := hG.root
  rw [← h1, at_mem hG hr, h2]
  decide
 unfold findF at h
 split at h
 ·
  obtain ⟨q, hq, hr⟩ := Option.bind_eq_some_iff.1 h
  split at hr
  ·
   rename_i h0
   obtain rfl := Option.some.inj hr
   refine ⟨fun _ => ?_, fun h => absurd rfl h⟩
   obtain ⟨r, hr, h1, _⟩ := at_kind (walk_rng hG hM lst k 1 0 (partsB s) q hq hroot h0)
   have := hG.num r hr
   omega
  ·
   rename_i h0
   obtain rfl := Option.some.inj hr
   exact ⟨fun h => absurd h h0, fun _ => rfl⟩
 ·
  rename_i h0
  obtain rfl := Option.some.inj h
  exact ⟨fun h => absurd h h0, fun _ => rfl⟩
theorem find_wf {L : List RN} {last : Int} (hG : GoodL L last) (hM : GoodM L) (hla : last ≤ 1000000) {lst : Bool} {k : Nat} {s : ByteArray} {R : Int × Int} (h : findF (trOf L last) lst k s = some R) : wf R.1 := by
 obtain ⟨h1, h2⟩ := find_rng hG hM h
 by_cases h0 : R.2 = 0
 ·
  have := h1 h0
  exact wf_of (by omega)
 ·
  rw [h2 h0]
  exact wf0
section
variable {L : List RN} {last : Int} {s : ByteArray} {lst : Bool} {R : Int × Int}
end
end Go.Proofs.YtnpeeiikdcankaaGreat.Tw

namespace Go.Proofs.YtnpeeiikdcankaaGreat.Tw
open Go Go.RowKit Go.Shelf Go.Proofs Go.Proofs.YtnpeeiikdcankaaGreat Go.Proofs.YtnpeeiikdcankaaGreatW.PrintWords Go.Proofs.YtnpeeiikdcankaaGreat.Ext Go.Proofs.YtnpeeiikdcankaaGreat.X Go.Proofs.YtnpeeiikdcankaaGreat.Pu
end Go.Proofs.YtnpeeiikdcankaaGreat.Tw
