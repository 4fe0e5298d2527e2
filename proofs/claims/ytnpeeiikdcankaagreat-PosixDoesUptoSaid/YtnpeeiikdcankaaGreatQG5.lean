/- Texts of this session, merged: Made, Rspot, Lives08, Law08, PosA, PosB, PosC, PosD, X8, PosP, Rcut, Rmove. -/
import Derived.Test.YtnpeeiikdcankaaGreatQG1
import Derived.Test.YtnpeeiikdcankaaGreatQG2
import Derived.Test.YtnpeeiikdcankaaGreatQG3
import Derived.Test.YtnpeeiikdcankaaGreatQG4

set_option linter.unusedVariables false
set_option linter.unusedSimpArgs false

namespace Go.Proofs.YtnpeeiikdcankaaGreat.Tw
open Go Go.RowKit Go.Shelf Go.Proofs Go.Proofs.YtnpeeiikdcankaaGreat Go.Proofs.YtnpeeiikdcankaaGreatW.PrintWords Go.Proofs.YtnpeeiikdcankaaGreat.Ext Go.Proofs.YtnpeeiikdcankaaGreat.X Go.Proofs.YtnpeeiikdcankaaGreat.Pu
structure MW (w wr : World) (p B r : Nat) (v6 : Value) (st : MSt) : Prop where
 hb : Below w.heap.size w wr
 tree : TreeB wr p B (trOf st.L st.last)
 hp : w.heap.size ≤ p
 hB : w.heap.size ≤ B
 hr : w.heap.size < r
 cell : ∃ A c, wr.heap[r]? = some (.cells #[.slice A st.L.length c, .int .i64 st.last] 30 (0, 0)) ∧ st.L.length ≤ c ∧ Kd.C k106 wr A st.L.length st.L
 nums : OwnN wr w.heap.size v6 st.nums
 res : wr.heap[w.heap.size]? = some (.cells #[.slice none 0 0, .int .i64 0] 30 (0, 0))
theorem made_round {w w8 w9 : World} {p B r : Nat} {A7 : Option Addr} {c7 : Nat} {L7 : List RN} {n7 : Int} {v : Value} {l : List Int} {T : Tr}
  (F : TreeB w8 p B T ∧ RAt w8 (.agg #[.slice A7 L7.length c7, .int .i64 n7]) L7 n7 ∧ OwnN w8 w.heap.size v l ∧ w8.heap[w.heap.size]? = some (.cells #[.slice none 0 0, .int .i64 0] 30 (0, 0)) ∧ w8.heap[r]? = some (.cells #[.slice A7 L7.length c7, .int .i64 n7] 30 (0, 0)) ∧ Below w.heap.size w w8) (hle : L7.length ≤ c7) (hg : w8.grownBy w9 v.ownBlock) :
  Below w.heap.size w w9 ∧ TreeB w9 p B T ∧ w9.heap[r]? = some (.cells #[.slice A7 L7.length c7, .int .i64 n7] 30 (0, 0)) ∧ L7.length ≤ c7 ∧ Kd.C k106 w9 A7 L7.length L7 ∧ w9.heap[w.heap.size]? = some (.cells #[.slice none 0 0, .int .i64 0] 30 (0, 0)) := by
 obtain ⟨hT, hR, hN, hS, hc, hB⟩ := F
 obtain ⟨A', c', e, h1, h2⟩ := hR.app hN hg
 simp only [Value.agg.injEq, Array.mk.injEq, List.cons.injEq, Value.slice.injEq, true_and, and_true] at e
 obtain ⟨rfl, rfl⟩ := e
 exact ⟨below_app hB hN hB.size hg, hT.app hN hg, cells_app hc (by decide) hN hg, h1, h2, cells_app hS (by decide) hN hg⟩
set_option maxHeartbeats 2000000 in
set_option maxRecDepth 1000000 in
theorem made_calls (A : Option Addr) (c : Nat) (l : List MN) (w : World) (hC : Kd.C k93 w A l.length l) (hc : l.length ≤ c) (hl : l.length ≤ 60) (hs : ∀ x ∈ l, x.f1.size < 4294967281) :
  Calls Tryz.prog 14 #[.slice A l.length c] w fun e w' => ∃ p B v, e = .returned (.tuple #[pT p, v]) ∧ TreeB w' p B (trOf (madeF l).L (madeF l).last) ∧ RAt w' v (madeF l).L (madeF l).last ∧ Below w.heap.size w w' ∧ w.heap.size ≤ p ∧ w.heap.size ≤ B := by
 have HC := Lib.hid hC
 have HS := Lib.hid hs
 have HN := Lib.hid (fun W => new_calls W)
 have HRN := Lib.hid (fun W => linhayref07_New.calls [⟨1, 1, ⟨#[]⟩, 1, ⟨#[]⟩⟩] 1 W rfl)
 clear hC hs
 go_enter Tryz.func14, Tryz.ntmps14
 go_wp2_with (first | (go_at_call 54; refine (HN.out _).mono ?_; rintro e w2 ⟨p, B, rfl, hT2, hb2, hp2, hB2⟩) | (go_at_call 55; refine (HRN.out _).mono ?_; rintro e w3 ⟨v3, rfl, ho3, hb3⟩; obtain ⟨A3, c3, rfl, hle3, hC3⟩ := Kd.R_reads ho3))
 have hM0 : MW w ((w3.alloc (.cells #[.slice A3 1 c3, .int .i64 1] 30)).alloc (.cells #[] 3)) p B w3.heap.size (.slice (some ⟨w3.heap.size + 1, 0, none⟩) 0 0) made0 := by
  have hb0 := (Below.refl w.heap.size w).alloc (Nat.le_refl _) (.cells #[.slice none 0 0, .int .i64 0] 30)
  have hsz0 : w.heap.size + 1 = (w.alloc (.cells #[.slice none 0 0, .int .i64 0] 30)).heap.size := by simp
  have hbA := below_two w3 (.cells #[.slice A3 1 c3, .int .i64 1] 30) (.cells #[] 3)
  have hb3' : Below w.heap.size w w3 := (hb0.trans (hb2.mono (by omega))).trans (hb3.mono (Nat.le_trans (by omega) hb2.size))
  have hle : w.heap.size + 1 ≤ w3.heap.size := Nat.le_trans (Nat.le_trans (by omega) hb2.size) hb3.size
  have h1 := heap_alloc_new w (.cells #[.slice none 0 0, .int .i64 0] 30)
  refine ⟨hb3'.trans (hbA.mono hb3'.size), by
   have := (hT2.below hb3).below hbA
   rw [T0_eq] at this
   exact this, by omega, by omega, by omega, ⟨A3, c3, ?_, hle3, Kd.C_below hC3 hbA⟩, ?_, ?_⟩
  · exact (((Below.refl _ (w3.alloc (.cells #[.slice A3 1 c3, .int .i64 1] 30))).alloc (Nat.le_refl _) (.cells #[] 3)).block w3.heap.size (by simp)).trans (heap_alloc_new w3 _)
  ·
   have := OwnN.made (w3.alloc (.cells #[.slice A3 1 c3, .int .i64 1] 30)) w.heap.size (by simp; omega)
   simpa [made0] using this
  · exact (hbA.block _ (by omega)).trans ((hb3.block _ (by have := hb2.size; omega)).trans ((hb2.block _ (by omega)).trans h1))
 have HM0 := Aside0.mk hM0
 clear hM0 hb2 hb3 hT2 hp2 hB2 ho3 hle3 hC3
 go_loopw [6, 7] (fun v6 v7 wr => ∃ i : Nat, v7 = .int .i64 (i : Int) ∧ i ≤ l.length ∧ MW w wr p B w3.heap.size v6 ((l.take i).foldl madeStep made0) ∧ MInv ((l.take i).foldl madeStep made0) i) (fun _ v _ => l.length - (intOf v).toNat)
 case atStart => exact ⟨0, rfl, Nat.zero_le _, HM0.out, minv0⟩
 case round =>
  obtain ⟨i, rfl, hi, hM, hI⟩ := hrel
  have HM := Aside0.mk hM
  have HI := Aside0.mk hI
  by_cases hlt : i < l.length
  ·
   obtain ⟨ad, eA, a0, a1, a2, a3⟩ := at_T93 (Kd.C_below HC.out hM.hb) (i : Int) (by omega) (by omega)
   have hrd : rd_T93 l (i : Int) = l[i] := by simp [rd_T93, hlt]
   rw [hrd] at a0 a1 a2 a3
   rw [Int.toNat_natCast] at a0 a1 a2 a3
   subst eA
   have hsz := HS.out l[i] (List.getElem_mem hlt)
   have htk : (l.take (i + 1)).foldl madeStep made0 = madeStep ((l.take i).foldl madeStep made0) l[i] := by
    rw [List.take_succ_eq_append_getElem hlt, List.foldl_append]; rfl
   have HTK := Lib.hid htk
   have HRD := Lib.hid hrd
   clear htk hrd
   generalize (l.take i).foldl madeStep made0 = st at *
   generalize l[i] = x at *
   obtain ⟨A5, c5, hcl, hle5, hC5⟩ := hM.cell
   obtain ⟨A6, c6, rfl, hle6, hC6⟩ := Kd.R_reads hM.nums.toR
   have hlen := hI.len
   have hlt' : (i : Int) < (l.length : Int) := by omega
   have hi0 : (0 : Int) ≤ (i : Int) := by omega
   have HCL := Aside0.mk (And.intro hcl (And.intro hle5 hC5))
   have HARG := Lib.hid (fun (W : World) (h : Below w.heap.size w W) => show W.cell? ⟨(ad.add (i * 4)).block, (ad.add (i * 4)).off + 1, none⟩ = some (.string x.f1) ∧ W.cell? ⟨(ad.add (i * 4)).block, (ad.add (i * 4)).off + 2, none⟩ = some (.int .i64 x.f2) ∧ W.cell? ⟨(ad.add (i * 4)).block, (ad.add (i * 4)).off + 3, none⟩ = some (.string x.f3) by
    obtain ⟨ad', e', b0, b1, b2, b3⟩ := at_T93 (Kd.C_below HC.out h) (i : Int) hi0 hlt'
    cases e'
    rw [Int.toNat_natCast, HRD.out] at b0 b1 b2 b3
    exact ⟨b1, b2, b3⟩)
   have hdin := dirAt_in HI.out x
   have hla : st.last < 1000000 := by have := HI.out.last; omega
   have HPT := Lib.hid (fun W h => tput_calls p B st.L st.last (dirAt st.nums x) x.f1 x.f2 x.f3 W h HI.out.good (wf_of (by omega)) hsz hla)
   have HRP := Lib.hid (fun v W h => rput_calls st.L st.last (dirAt st.nums x) v x.f1 x.f2 x.f3 W h HI.out.good hla)
   have HSTEP := Lib.hid (show madeStep st x = ⟨putL st.L st.last (dirAt st.nums x) x.f1 x.f2 x.f3, putN st.L st.last (dirAt st.nums x) x.f1 x.f2 x.f3, st.nums ++ [putA st.L st.last (dirAt st.nums x) x.f1 x.f2 x.f3]⟩ from rfl)
   have hdir0 : dirAt st.nums x = (if 0 ≤ x.f0 ∧ x.f0 < (i : Int) then st.nums.getD x.f0.toNat 0 else 1) := by
    unfold dirAt; rw [hlen]
   generalize putL st.L st.last (dirAt st.nums x) x.f1 x.f2 x.f3 = L7 at HPT HRP HSTEP
   generalize putN st.L st.last (dirAt st.nums x) x.f1 x.f2 x.f3 = n7 at HPT HRP HSTEP
   generalize putA st.L st.last (dirAt st.nums x) x.f1 x.f2 x.f3 = m7 at HPT HRP HSTEP
   generalize putRE st.L (dirAt st.nums x) x.f1 x.f2 x.f3 = e7 at HPT HRP
   have HNL := Lib.hid hlen
   by_cases hd : 0 ≤ x.f0 ∧ x.f0 < (i : Int)
   case' pos =>
    obtain ⟨d0, d1⟩ := hd
    obtain ⟨a6, eA6, n0⟩ := Kd.at_int hC6 x.f0 d0 (by omega)
    have hdir : dirAt st.nums x = rd st.nums x.f0 := by
     rw [hdir0, if_pos ⟨d0, d1⟩]; rfl
    have d2 : x.f0 < (st.nums.length : Int) := by omega
    rw [← hdir] at n0
    subst eA6
    clear hdir
   case' neg =>
    have hdir : dirAt st.nums x = 1 := by rw [hdir0, if_neg hd]
    rw [hdir] at HPT HRP
    have hd2 : x.f0 < 0 ∨ ((0 : Int) ≤ x.f0 ∧ (i : Int) ≤ x.f0) := by omega
    clear hdir hd
    rcases hd2 with hd2 | ⟨hd2, hd3⟩
   all_goals
    clear hM hI hcl hle5 hC5 hC6 hdin hla hsz hlen hdir0
    go_upto_region 9 with (fail)
    go_region_held3 (fun w' => w'.cell? ⟨(ad.add (i * 4)).block, (ad.add (i * 4)).off + 1, none⟩ = some (.string x.f1) ∧ w'.cell? ⟨(ad.add (i * 4)).block, (ad.add (i * 4)).off + 2, none⟩ = some (.int .i64 x.f2) ∧ w'.cell? ⟨(ad.add (i * 4)).block, (ad.add (i * 4)).off + 3, none⟩ = some (.string x.f3)) (first | (go_keep; done) | exact HA5.out)
     ((go_at_call 56; refine (HPT.out _ (by first | exact HM.out.tree | exact HM.out.tree.drew | exact HM.out.tree.below (pw_below_drewN (Below.refl _ _) _))).mono ?_; rintro e w5 ⟨rfl, hT5, hf5⟩; have hf5' : Frm wr w5 p B := (by first | exact hf5 | exact (Frm.ofBelow (below_drew (Below.refl _ wr))).trans hf5 | exact (Frm.ofBelow (pw_below_drewN (Below.refl _ wr) _)).trans hf5); have HB5 := Aside0.mk (HM.out.hb.trans (Frm.below hf5' HM.out.hb.size HM.out.hp HM.out.hB)); have HA5 := Lib.hid (HARG.out w5 HB5.out)))
    obtain ⟨hcl, hle5, hC5⟩ := HCL.out
    have hcl5 := cells_frm hcl (by decide) HM.out.tree hf5'
    have hR5 : RAt w5 (.agg #[.slice A5 st.L.length c5, .int .i64 st.last]) st.L st.last := RAt.frm ⟨A5, c5, rfl, hle5, hC5⟩ HM.out.tree hf5'
    have hN5 := HM.out.nums.frm HM.out.tree hf5'
    have hS5 := cells_frm HM.out.res (by decide) HM.out.tree hf5'
    have r0 : w5.cell? ⟨w3.heap.size, 0, none⟩ = some (.slice A5 st.L.length c5) := by rw [blk_cell hcl5]; rfl
    have r1 : w5.cell? ⟨w3.heap.size, 1, none⟩ = some (.int .i64 st.last) := by rw [blk_cell hcl5]; rfl
    obtain ⟨b1, b2, b3⟩ := HA5.out
    have hrlt : w3.heap.size < w5.heap.size := blk_lt hcl5
    have HK5 := Lib.hid (fun (W : World) (h : Below w5.heap.size w5 W) => show W.cell? ⟨w3.heap.size, 0, none⟩ = some (.slice A5 st.L.length c5) ∧ W.cell? ⟨w3.heap.size, 1, none⟩ = some (.int .i64 st.last) ∧ W.cell? ⟨(ad.add (i * 4)).block, (ad.add (i * 4)).off + 1, none⟩ = some (.string x.f1) ∧ W.cell? ⟨(ad.add (i * 4)).block, (ad.add (i * 4)).off + 2, none⟩ = some (.int .i64 x.f2) ∧ W.cell? ⟨(ad.add (i * 4)).block, (ad.add (i * 4)).off + 3, none⟩ = some (.string x.f3) from ⟨pw_cell_below h r0, pw_cell_below h r1, pw_cell_below h b1, pw_cell_below h b2, pw_cell_below h b3⟩)
    have HF5 := Aside0.mk (And.intro hcl5 (And.intro hR5 (And.intro hN5 (And.intro hS5 hT5))))
    have HP := Aside0.mk (And.intro HM.out.hp (And.intro HM.out.hB HM.out.hr))
    clear hcl hle5 hC5 hcl5 hR5 hN5 hS5 hT5 hf5 hf5' HM HCL HARG HA5 HPT a0 a1 a2 a3
    go_upto_region 10 with (fail)
    go_region_held3 (fun w' => w'.cell? ⟨w3.heap.size, 0, none⟩ = some (.slice A5 st.L.length c5) ∧ w'.cell? ⟨w3.heap.size, 1, none⟩ = some (.int .i64 st.last) ∧ w'.cell? ⟨(ad.add (i * 4)).block, (ad.add (i * 4)).off + 1, none⟩ = some (.string x.f1) ∧ w'.cell? ⟨(ad.add (i * 4)).block, (ad.add (i * 4)).off + 2, none⟩ = some (.int .i64 x.f2) ∧ w'.cell? ⟨(ad.add (i * 4)).block, (ad.add (i * 4)).off + 3, none⟩ = some (.string x.f3)) (first | (go_keep; done) | exact HK5.out _ hb56 | exact HK5.out _ (hb56.alloc hb56.size _) | exact HK5.out _ (hb56.setCell (p := ⟨w5.heap.size, 0, none⟩) (Nat.le_refl _) _) | exact HK5.out _ ((hb56.setCell (p := ⟨w5.heap.size, 0, none⟩) (Nat.le_refl _) _).setCell (p := ⟨w5.heap.size, 1, none⟩) (Nat.le_refl _) _))
     ((go_at_call 57; refine (HRP.out _ _ (by first | exact HF5.out.2.1 | exact HF5.out.2.1.below (below_drew (Below.refl _ _)) | exact HF5.out.2.1.below (below_drew ((Below.refl _ w5).alloc (Nat.le_refl _) _)) | exact HF5.out.2.1.below ((Below.refl _ w5).alloc (Nat.le_refl _) _) | exact HF5.out.2.1.below (pw_below_drewN (Below.refl _ _) _) | exact HF5.out.2.1.below (pw_below_drewN ((Below.refl _ w5).alloc (Nat.le_refl _) _) _))).mono ?_; rintro e w6 ⟨v', rfl, ⟨A7, c7, rfl, hle7, hC7⟩, hb6⟩; have hb56 : Below w5.heap.size w5 w6 := (by first | exact (below_drew (Below.refl _ w5)).trans hb6 | exact (below_drew ((Below.refl _ w5).alloc (Nat.le_refl _) _)).trans (hb6.mono (by simp)) | exact (pw_below_drewN (Below.refl _ w5) _).trans hb6 | exact (pw_below_drewN ((Below.refl _ w5).alloc (Nat.le_refl _) _) _).trans (hb6.mono (by simp))); have HC7 := Aside0.mk hC7; clear hC7; (first | (have h9 := (hb6.block w5.heap.size (by simp)).trans (heap_alloc_new w5 _); have x90 : w6.cell? ⟨w5.heap.size, 0, none⟩ = some (.slice none 0 0) := (by rw [blk_cell h9]; rfl); have x91 : w6.cell? ⟨w5.heap.size, 1, none⟩ = some (.int .i64 0) := (by rw [blk_cell h9]; rfl); have f90 := blk_frozen h9 0; have f91 := blk_frozen h9 1; have H9 := Aside0.mk h9; clear h9) | skip)))
    all_goals first
     | (have h9' := H9.out; have hR7 : RAt ((w6.setCell ⟨w5.heap.size, 0, none⟩ (.slice A7 L7.length c7)).setCell ⟨w5.heap.size, 1, none⟩ (.int .i64 n7)) (.agg #[.slice A7 L7.length c7, .int .i64 n7]) L7 n7 := RAt.but ⟨A7, c7, rfl, hle7, HC7.out⟩ (but_two h9' (by simp) (by simp)); have hb57 : Below w5.heap.size w5 ((w6.setCell ⟨w5.heap.size, 0, none⟩ (.slice A7 L7.length c7)).setCell ⟨w5.heap.size, 1, none⟩ (.int .i64 n7)) := (hb56.setCell (p := ⟨w5.heap.size, 0, none⟩) (Nat.le_refl _) _).setCell (p := ⟨w5.heap.size, 1, none⟩) (Nat.le_refl _) _; have h7 := two_set (u0 := .slice A7 L7.length c7) (u1 := .int .i64 n7) h9'; have hgr : w3.heap.size < w5.heap.size := hrlt; clear x90 x91 f90 f91 H9 h9'; generalize (w6.setCell ⟨w5.heap.size, 0, none⟩ (.slice A7 L7.length c7)).setCell ⟨w5.heap.size, 1, none⟩ (.int .i64 n7) = w7 at hR7 hb57 h7 ⊢; generalize w5.heap.size = g at h7 hgr ⊢)
     | (have hb57 : Below w5.heap.size w5 (w6.alloc (.cells #[.slice A7 L7.length c7, .int .i64 n7] 30)) := hb56.alloc hb56.size _; have hR7 : RAt (w6.alloc (.cells #[.slice A7 L7.length c7, .int .i64 n7] 30)) (.agg #[.slice A7 L7.length c7, .int .i64 n7]) L7 n7 := RAt.below ⟨A7, c7, rfl, hle7, HC7.out⟩ ((Below.refl _ w6).alloc (Nat.le_refl _) _); have h7 := heap_alloc_new w6 (.cells #[.slice A7 L7.length c7, .int .i64 n7] 30); have hgr : w3.heap.size < w6.heap.size := Nat.lt_of_lt_of_le hrlt hb56.size; generalize w6.alloc (.cells #[.slice A7 L7.length c7, .int .i64 n7] 30) = w7 at hR7 hb57 h7 ⊢; generalize w6.heap.size = g at h7 hgr ⊢)
    all_goals
     obtain ⟨hcl5, hR5, hN5, hS5, hT5⟩ := HF5.out
     have hcl7 := (hb57.block _ hrlt).trans hcl5
     have hS7 := (hb57.block _ (blk_lt hS5)).trans hS5
     have hN7 := hN5.below hb57
     have hT7 := hT5.below hb57
     have hB7 := HB5.out.trans (hb57.mono HB5.out.size)
     have y0 : w7.cell? ⟨g, 0, none⟩ = some (.slice A7 L7.length c7) := by rw [blk_cell h7]; rfl
     have y1 : w7.cell? ⟨g, 1, none⟩ = some (.int .i64 n7) := by rw [blk_cell h7]; rfl
     have z0 : w7.cell? ⟨w3.heap.size, 0, none⟩ = some (.slice A5 st.L.length c5) := by rw [blk_cell hcl7]; rfl
     have z1 : w7.cell? ⟨w3.heap.size, 1, none⟩ = some (.int .i64 st.last) := by rw [blk_cell hcl7]; rfl
     have f0 := blk_frozen hcl7 0
     have f1 := blk_frozen hcl7 1
     have hgne : g ≠ w3.heap.size := by omega
     have hpne : p ≠ w3.heap.size := by
      rintro rfl
      have h1 := hcl7
      rw [hT7.two.1] at h1
      injection h1 with h1
      injection h1 with _ h1
      exact absurd h1 (by decide)
     have hBne : B ≠ w3.heap.size := by
      rintro rfl
      have h1 := hcl7
      obtain ⟨_, es, ck, h2⟩ := hT7.two
      rw [h2] at h1
      cases h1
     have hbut := but_two (u0 := .slice A7 L7.length c7) (u1 := .int .i64 n7) hcl7 (by simp) (by simp)
     have hT8 := hT7.but hbut hpne hBne
     have hR8 := RAt.but hR7 hbut
     have hN8 := hN7.but hcl7 (by decide) hbut
     have hS8 := (hbut.g.block _ (blk_lt hS7) (fun e => by have := Option.some.inj e; have := HP.out.2.2; omega)).trans hS7
     have hcl8 := two_set (u0 := .slice A7 L7.length c7) (u1 := .int .i64 n7) hcl7
     have hB8 := (hB7.setCell (p := ⟨w3.heap.size, 0, none⟩) (Nat.le_of_lt HP.out.2.2) (.slice A7 L7.length c7)).setCell (p := ⟨w3.heap.size, 1, none⟩) (Nat.le_of_lt HP.out.2.2) (.int .i64 n7)
     have F8 := Aside0.mk (And.intro hT8 (And.intro hR8 (And.intro hN8 (And.intro hS8 (And.intro hcl8 hB8)))))
     clear hcl5 hR5 hN5 hS5 hT5 hS7 hN7 hT7 hT8 hR8 hN8 hS8 hcl8 hB8 hbut hcl7 h7 hR7 hb57 hB7 hpne hBne hb6 HC7 r0 r1 b1 b2 b3 HF5 HK5
     go_upto_region 12 with (fail)
     generalize (w7.setCell ⟨w3.heap.size, 0, none⟩ (.slice A7 L7.length c7)).setCell ⟨w3.heap.size, 1, none⟩ (.int .i64 n7) = w8 at F8 ⊢
     clear y0 y1 z0 z1 f0 f1
     go_wp2_with ((with_reducible refine gate_builtin (b := .append) (xs := #[.tmp 85, .tmp 87]) rfl ?_); at_builtin; refine wpList_append_ints rfl (.tmp 85) (.tmp 87) rfl w.heap.size _ st.nums m7 rfl rfl F8.out.2.2.1 F8.out.2.2.2.2.2.size (by have := HNL.out; omega) ?_; intro v9 w9 ho9 hg9)
     have HO9 := Aside0.mk ho9
     have F9 := made_round F8.out hle7 hg9
     have HF9 := Aside0.mk F9
     clear ho9 hg9 F9
     go_roundw
     case rel =>
      refine ⟨i + 1, by go_num, hlt, ?_, ?_⟩
      ·
       rw [HTK.out, HSTEP.out]
       obtain ⟨g1, g2, g3, g4, g5, g6⟩ := HF9.out
       exact ⟨g1, g2, HP.out.1, HP.out.2.1, HP.out.2.2, ⟨A7, c7, g3, g4, g5⟩, HO9.out, g6⟩
      · rw [HTK.out]; exact minv_step HI.out x
     case measure => simp [intOf]; omega
  ·
   obtain rfl : i = l.length := by omega
   rw [List.take_length] at hM hI
   obtain ⟨A5, c5, hcl, hle5, hC5⟩ := hM.cell
   change wr.heap[w3.heap.size]? = some (.cells #[.slice A5 (madeF l).L.length c5, .int .i64 (madeF l).last] _ (0, 0)) at hcl
   change (madeF l).L.length ≤ c5 at hle5
   change Kd.C _ wr A5 (madeF l).L.length (madeF l).L at hC5
   have HT := Aside0.mk (show TreeB wr p B (trOf (madeF l).L (madeF l).last) from hM.tree)
   have HX := Aside0.mk (And.intro hle5 hC5)
   have HP := Aside0.mk (And.intro hM.hp hM.hB)
   have HBB := Aside0.mk hM.hb
   have HRES := Aside0.mk hM.res
   have x0 : wr.cell? ⟨w3.heap.size, 0, none⟩ = some (.slice A5 (madeF l).L.length c5) := by rw [blk_cell hcl]; rfl
   have x1 : wr.cell? ⟨w3.heap.size, 1, none⟩ = some (.int .i64 (madeF l).last) := by rw [blk_cell hcl]; rfl
   have y0 : wr.cell? ⟨w.heap.size, 0, none⟩ = some (.slice none 0 0) := by rw [blk_cell hM.res]; rfl
   have y1 : wr.cell? ⟨w.heap.size, 1, none⟩ = some (.int .i64 0) := by rw [blk_cell hM.res]; rfl
   have f0 := blk_frozen hM.res 0
   have f1 := blk_frozen hM.res 1
   have hbut := but_two (u0 := .slice A5 (madeF l).L.length c5) (u1 := .int .i64 (madeF l).last) hM.res (by simp) (by simp)
   have hpne : p ≠ w.heap.size := by
    rintro rfl
    have h1 := hM.res
    rw [hM.tree.two.1] at h1
    injection h1 with h1
    injection h1 with _ h1
    exact absurd h1 (by decide)
   have hBne : B ≠ w.heap.size := by
    rintro rfl
    have h1 := hM.res
    obtain ⟨_, es, ck, h2⟩ := hM.tree.two
    rw [h2] at h1
    cases h1
   have hT9 := HT.out.but hbut hpne hBne
   have hR9 : RAt ((wr.setCell ⟨w.heap.size, 0, none⟩ (.slice A5 (madeF l).L.length c5)).setCell ⟨w.heap.size, 1, none⟩ (.int .i64 (madeF l).last)) (.agg #[.slice A5 (madeF l).L.length c5, .int .i64 (madeF l).last]) (madeF l).L (madeF l).last := RAt.but ⟨A5, c5, rfl, hle5, hC5⟩ hbut
   have hB9 : Below w.heap.size w ((wr.setCell ⟨w.heap.size, 0, none⟩ (.slice A5 (madeF l).L.length c5)).setCell ⟨w.heap.size, 1, none⟩ (.int .i64 (madeF l).last)) := (hM.hb.setCell (Nat.le_refl _) _).setCell (Nat.le_refl _) _
   have k2 : ((wr.setCell ⟨w.heap.size, 0, none⟩ (.slice A5 (madeF l).L.length c5)).setCell ⟨w.heap.size, 1, none⟩ (.int .i64 (madeF l).last)).heap[w.heap.size]? = some (.cells #[.slice A5 (madeF l).L.length c5, .int .i64 (madeF l).last] 30 (0, 0)) := by
    have k1 : (wr.setCell ⟨w.heap.size, 0, none⟩ (.slice A5 (madeF l).L.length c5)).heap[w.heap.size]? = some (.cells #[.slice A5 (madeF l).L.length c5, .int .i64 0] 30 (0, 0)) := by rw [setCell_eq_setRow wr _ 0 _ _ _ _ hM.res, setRow_heap wr _ _ _ _ _ hM.res]; rfl
    rw [setCell_eq_setRow _ _ 1 _ _ _ _ k1, setRow_heap _ _ _ _ _ _ k1]; rfl
   have FIN := Aside0.mk (And.intro hT9 (And.intro hR9 (And.intro hB9 (And.intro k2 (And.intro hM.hp hM.hB)))))
   clear hM hI hcl hle5 hC5 hbut hpne hBne hT9 hR9 hB9 k2 HT HX HP HBB HRES
   go_wp2
   go_region
   go_wp2
   obtain ⟨hT9, hR9, hB9, k2, hp9, hBB9⟩ := FIN.out
   generalize (wr.setCell ⟨w.heap.size, 0, none⟩ (.slice A5 (madeF l).L.length c5)).setCell ⟨w.heap.size, 1, none⟩ (.int .i64 (madeF l).last) = w9 at hT9 hR9 hB9 k2 ⊢
   have c0 : w9.cell? ⟨w.heap.size, 0, none⟩ = some (.slice A5 (madeF l).L.length c5) := by rw [blk_cell k2]; rfl
   have c1 : w9.cell? ⟨w.heap.size, 1, none⟩ = some (.int .i64 (madeF l).last) := by rw [blk_cell k2]; rfl
   have hu := Tryz.underlying30
   refine bodyPost_ret (v := .tuple #[pT p, .agg #[.slice A5 (madeF l).L.length c5, .int .i64 (madeF l).last]]) (by simp [results, Tryz.results14, go_sem, c0, c1, hu]) rfl ⟨p, B, _, rfl, hT9.drew, hR9.below (below_drew (Below.refl _ _)), below_drew hB9, hp9, hBB9⟩
end Go.Proofs.YtnpeeiikdcankaaGreat.Tw

namespace Go.Proofs.YtnpeeiikdcankaaGreat.Tw
open Go Go.RowKit Go.Shelf Go.Proofs Go.Proofs.YtnpeeiikdcankaaGreat Go.Proofs.YtnpeeiikdcankaaGreatW.PrintWords Go.Proofs.YtnpeeiikdcankaaGreat.Ext Go.Proofs.YtnpeeiikdcankaaGreat.X Go.Proofs.YtnpeeiikdcankaaGreat.Pu
def spotRF (L : List RN) (last : Int) (k : Nat) (s : ByteArray) : Option R3 :=
 if beginE s = 0 then
  match (partsB s).getLast? with
  | none => some (noS 6)
  | some z => if z.toList = [46, 46] then some (noS 6) else (linhayref08_Go.f k L last 1 (partsB s).dropLast true 0).bind fun r =>
    if r.2.2 = 0 then (if (atR L r.1).f3 = 1 then (if Sp.check z.data.toList = 0 then some (r.1, z, 0) else some (noS (Sp.check z.data.toList))) else some (noS 7)) else some (noS r.2.2)
 else some (noS (beginE s))
theorem cutH (ad : Addr) (n len c : Nat) (h1 : n ≤ c) :
  ∀ W : World, (Instr.slice 186 (.slice (some ad) len c) none (some (.int .i64 (n : Int))) none).run Tryz.prog W = .ok (.slice (some ad) n c) W := by
 intro W
 obtain ⟨i0, hi, hz0, hz1, hz2⟩ := info_parts infoS
 have ht := Tryz.underlying186
 have hel : Tryz.prog.elem 186 = 9 := by simp [Program.elem, ht]
 have hu : Tryz.prog.underlying 186 = some (.slice (Tryz.prog.elem 186)) := by rw [hel]; exact ht
 rw [run_slice_h W 186 (some ad) len c hu .i64 (n : Int) (by omega) (by omega), hel]
 simp [sizeOf, typeInfo, hi, hz1, sliced, Result.andThen]
 intro _
 unfold Addr.add
 split <;> simp_all
theorem spot_both {L : List RN} {last : Int} (hG : GoodL L last) (hM : GoodM L) (s : ByteArray) : ∃ k k2 R, spotF (trOf L last) k s = some R ∧ spotRF L last k2 s = some R := by
 unfold spotF spotRF
 by_cases h0 : beginE s = 0
 ·
  simp only [if_pos h0]
  have hz := (beginE_ok h0).1
  have hpl := partsB_len' s
  cases hl : (partsB s).getLast? with
  | none => exact ⟨0, 0, _, rfl, rfl⟩
  | some z =>
   by_cases hd : z.toList = [46, 46]
   · simp only [if_pos hd]; exact ⟨0, 0, _, rfl, rfl⟩
   ·
    simp only [if_neg hd]
    obtain ⟨k, q, e, h, h1, h2⟩ := go_both hG hM true 40 _ (partsB s).dropLast 1 rfl (by omega) (by rw [List.length_dropLast]; omega)
    obtain ⟨k2, h3⟩ := Ev.rounds h2
    have h1' : walkF (trOf L last) true k 1 0 (partsB s).dropLast = some (q, e) := h1
    have h3' : linhayref08_Go.f k2 L last 1 (partsB s).dropLast true 0 = some (if e = 0 then q else 0, h, e) := h3
    obtain ⟨R, hR⟩ : ∃ R, (if e = 0 then (if (atR L q).f3 = 1 then (if Sp.check z.data.toList = 0 then some (q, z, 0) else some (noS (Sp.check z.data.toList))) else some (noS 7)) else some (noS e)) = some R := by
     repeat' split
     all_goals exact ⟨_, rfl⟩
    refine ⟨k, k2, R, ?_, ?_⟩
    ·
     rw [h1', ← hR]
     simp only [Option.bind_some, node_of hG]
    ·
     rw [h3', ← hR]
     simp only [Option.bind_some]
     by_cases he : e = 0
     · rw [if_pos he, if_pos he, if_pos he]
     · rw [if_neg he, if_neg he]
 · simp only [if_neg h0]; exact ⟨0, 0, _, rfl, rfl⟩
set_option maxHeartbeats 4000000 in
set_option maxRecDepth 1000000 in
theorem rspot_calls (L : List RN) (last : Int) (v : Value) (s : ByteArray) (k : Nat) (R : R3) (w : World) (hV : RAt w v L last) (hl : L.length < 4294967296) (hR : spotRF L last k s = some R) :
  Calls Tryz.prog 107 #[v, .string s] w fun e w' => e = .returned (.tuple #[.int .i64 R.1, .string R.2.1, .int .i64 R.2.2]) ∧ Below w.heap.size w w' := by
 obtain ⟨A, c, rfl, hc, hC⟩ := hV
 have hu28 := Tryz.underlying30
 have HB0 := Lib.hid ((Below.refl w.heap.size w).alloc (Nat.le_refl _) (.cells #[.slice A L.length c, .int .i64 last] 30))
 have HBX := Lib.hid (heap_alloc_new w (.cells #[.slice A L.length c, .int .i64 last] 30))
 unfold spotRF at hR
 by_cases h0 : beginE s = 0
 ·
  rw [if_pos h0] at hR
  obtain ⟨hz, hne⟩ := beginE_ok h0
  have b0 : (s.toList == []) = false := by simpa using hne
  have b0' : s.toList.isEmpty = false := by simpa using hne
  have hz' : (s.size : Int) ≤ 1024 := by omega
  obtain ⟨kp, hkp⟩ := Ev.rounds (r04_parts s (by omega))
  have HP := Lib.hid (fun W => linhayref04_Parts.calls kp s (partsB s) W hkp)
  have hpl := partsB_len' s
  generalize partsB s = l at hR HP hpl
  clear h0 hkp hne
  rcases List.eq_nil_or_concat l with rfl | ⟨ini, z, rfl⟩
  ·
   have hR := Option.some.inj hR
   subst hR
   go_enter Tryz.func107, Tryz.ntmps107
   go_wp2_with (go_at_call 143; refine (HP.out _).mono ?_; rintro e w3 ⟨v, rfl, ho, hb3⟩; obtain ⟨A3, c3, rfl, hl3, hC3⟩ := Kd.R_reads ho; clear ho hC3)
   go_ret3
   exact ⟨rfl, HB0.out.trans (hb3.mono HB0.out.size)⟩
  ·
   rw [List.concat_eq_append] at *
   rw [List.getLast?_concat, List.dropLast_concat] at hR
   simp only [] at hR
   have hlen : (ini ++ [z]).length = ini.length + 1 := by simp
   have hini : ini.length ≤ 2000 := by simp at hpl; omega
   by_cases hdd : z.toList = [46, 46]
   ·
    rw [if_pos hdd] at hR
    have hR := Option.some.inj hR
    subst hR
    have b2 : (z.toList == [46, 46]) = true := by rw [hdd]; rfl
    clear hdd hC
    go_enter Tryz.func107, Tryz.ntmps107
    go_upto_region 6 with (go_at_call 143; refine (HP.out _).mono ?_; rintro e w3 ⟨v, rfl, ho, hb3⟩; obtain ⟨A3, c3, rfl, hl3, hC3⟩ := Kd.R_reads ho; have HC3 := Lib.hid hC3; clear ho hC3)
    obtain ⟨ad, eA, x0⟩ := Kd.at_string HC3.out (ini.length : Int) (by omega) (by simp; omega)
    have e0 : rdOf ByteArray.empty (ini ++ [z]) (ini.length : Int) = z := by simp [rdOf]
    rw [e0, Int.toNat_natCast] at x0
    subst eA
    have i0 : (0 : Int) ≤ (ini.length : Int) := by omega
    have i1 : (ini.length : Int) < (ini.length : Int) + 1 := by omega
    have i2 : (ini.length : Int) ≤ (ini.length : Int) + 1 := by omega
    have d0 : ((ini.length : Int) + 1 == 0) = false := by simp; omega
    clear e0
    go_wp2
    go_ret3
    exact ⟨rfl, HB0.out.trans (hb3.mono HB0.out.size)⟩
   ·
    rw [if_neg hdd] at hR
    have b2 : (z.toList == [46, 46]) = false := by simpa using hdd
    clear hdd
    obtain ⟨r, hr, hR⟩ := Option.bind_eq_some_iff.1 hR
    obtain ⟨rn, rh, re⟩ := r
    simp only [] at hR
    have HGO := Lib.hid (fun W A2 c2 h1 h2 h3 => linhayref08_Go.calls k A c L last 1 A2 c2 ini true 0 rn rh re W h1 hc h2 h3 hr)
    obtain ⟨ka, hka⟩ := Ev.rounds (r07_at L rn last hl)
    have HAT := Lib.hid (fun W h1 => linhayref07_At.calls ka A c L last rn _ _ _ _ _ W h1 hc hka)
    obtain ⟨kc, hkc⟩ := Ev.rounds (r03_check z)
    have HCK := Lib.hid (fun W => linhayref03_Check.calls kc z _ W hkc)
    have HC := Lib.hid hC
    have HR := Lib.hid hR
    generalize (atR L rn).f3 = kd at HAT HR
    generalize (atR L rn).f0 = kd0 at HAT
    generalize (atR L rn).f1 = kd1 at HAT
    generalize (atR L rn).f2 = kd2 at HAT
    generalize (atR L rn).f4 = kd4 at HAT
    generalize Sp.check z.data.toList = ck at HCK HR
    clear hC hR hr hka hkc
    go_enter Tryz.func107, Tryz.ntmps107
    go_upto_region 6 with (go_at_call 143; refine (HP.out _).mono ?_; rintro e w3 ⟨v, rfl, ho, hb3⟩; obtain ⟨A3, c3, rfl, hl3, hC3⟩ := Kd.R_reads ho; have HC3 := Lib.hid hC3; clear ho hC3)
    obtain ⟨ad, eA, x0⟩ := Kd.at_string HC3.out (ini.length : Int) (by omega) (by simp; omega)
    have e0 : rdOf ByteArray.empty (ini ++ [z]) (ini.length : Int) = z := by simp [rdOf]
    rw [e0, Int.toNat_natCast] at x0
    subst eA
    have i0 : (0 : Int) ≤ (ini.length : Int) := by omega
    have i1 : (ini.length : Int) < (ini.length : Int) + 1 := by omega
    have i2 : (ini.length : Int) ≤ (ini.length : Int) + 1 := by omega
    have d0 : ((ini.length : Int) + 1 == 0) = false := by simp; omega
    have hct := Kd.C_take (m := ini.length) HC3.out (by simp)
    rw [List.take_left] at hct
    have HCT := Lib.hid hct
    have HB3 := Lib.hid (HB0.out.trans (hb3.mono HB0.out.size))
    have hbx := (hb3.block _ (blk_lt HBX.out)).trans HBX.out
    have y0 : w3.cell? ⟨w.heap.size, 0, none⟩ = some (.slice A L.length c) := by rw [blk_cell hbx]; rfl
    have y1 : w3.cell? ⟨w.heap.size, 1, none⟩ = some (.int .i64 last) := by rw [blk_cell hbx]; rfl
    have HX3 := Lib.hid hbx
    have X0 := Lib.hid x0
    clear e0 hct hb3 hbx
    go_upto_region 8 with (fail)
    clear x0
    have d1 : decide ((ini.length : Int) < 0) = false := decide_eq_false (by omega)
    have i3 : (ini.length : Int) ≤ (c3 : Int) := by simp at hl3; omega
    have d2 : decide ((c3 : Int) < (ini.length : Int)) = false := decide_eq_false (by omega)
    have i4 : ini.length ≤ c3 := by omega
    have i5 : ¬ c3 = 0 := by simp at hl3; omega
    have i6 : ad.add 0 = ad := by unfold Addr.add; split <;> simp_all
    have hcut := cutH ad ini.length (ini.length + 1) c3 (by omega)
    have w1 : IntKind.i64.wrap (ini.length : Int) = (ini.length : Int) := IntWalk.i64_in _ (by omega)
    go_region_held3 (fun w' => w'.cell? ⟨w.heap.size, 0, none⟩ = some (.slice A L.length c) ∧ w'.cell? ⟨w.heap.size, 1, none⟩ = some (.int .i64 last)) (first | (go_keep; done) | exact ⟨pw_cell_below hb4 y0, pw_cell_below hb4 y1⟩)
     ((go_at_call 144; refine (HGO.out _ _ _ (Kd.C_below HC.out (by first | exact HB3.out | exact below_drew HB3.out | exact pw_below_drewN HB3.out _)) (by first | exact HCT.out | exact Kd.C_below HCT.out (below_drew (Below.refl _ _)) | exact Kd.C_below HCT.out (pw_below_drewN (Below.refl _ _) _)) (by simp at hl3; omega)).mono ?_; rintro e w4 ⟨rfl, hb4'⟩; have hb4 : Below w3.heap.size w3 w4 := (by first | exact hb4' | exact (below_drew (Below.refl _ w3)).trans hb4' | exact (pw_below_drewN (Below.refl _ w3) _).trans hb4')))
    clear w1 d1 d2 i3 i4 i5 i6 hcut
    have HB4 := Lib.hid (HB3.out.trans (hb4.mono HB3.out.size))
    have HX4 := Lib.hid ((hb4.block _ (blk_lt HX3.out)).trans HX3.out)
    have z0 := pw_cell_below hb4 y0
    have z1 := pw_cell_below hb4 y1
    have x4 := pw_cell_below hb4 X0.out
    clear y0 y1 hb4
    by_cases he : re = 0
    ·
     subst he
     rw [if_pos rfl] at HR
     by_cases hkd : kd = 1
     ·
      subst hkd
      rw [if_pos rfl] at HR
      by_cases hc0 : ck = 0
      ·
       subst hc0
       rw [if_pos rfl] at HR
       have hR := Option.some.inj HR.out
       subst hR
       go_upto_region 15 with (first | (go_at_call 68; refine (HAT.out _ (Kd.C_below HC.out HB4.out)).mono ?_; rintro e w5 ⟨rfl, hb5⟩; have x5 := pw_cell_below hb5 x4; have HB5 := Lib.hid (HB4.out.trans (hb5.mono HB4.out.size))) | (go_at_call 104; refine (HCK.out _).mono ?_; rintro e w6 ⟨rfl, hd6⟩; have x6 := pw_cell_below hd6.below x5; have HB6 := Lib.hid (HB5.out.trans (hd6.below.mono HB5.out.size))))
       clear x4 x5 z0 z1
       go_quiet (fail)
       go_wp2
       go_ret3
       exact ⟨rfl, pw_below_drewN HB6.out nq⟩
      ·
       rw [if_neg hc0] at HR
       have b6 : (ck != 0) = true := bne_iff_ne.2 hc0
       have hR := Option.some.inj HR.out
       subst hR
       clear hc0
       go_wp2_with (first | (go_at_call 68; refine (HAT.out _ (Kd.C_below HC.out HB4.out)).mono ?_; rintro e w5 ⟨rfl, hb5⟩; have x5 := pw_cell_below hb5 x4; have HB5 := Lib.hid (HB4.out.trans (hb5.mono HB4.out.size))) | (go_at_call 104; refine (HCK.out _).mono ?_; rintro e w6 ⟨rfl, hd6⟩; have HB6 := Lib.hid (HB5.out.trans (hd6.below.mono HB5.out.size))))
       go_ret3
       exact ⟨rfl, HB6.out⟩
     ·
      rw [if_neg hkd] at HR
      have b5 : (kd != 1) = true := bne_iff_ne.2 hkd
      have hR := Option.some.inj HR.out
      subst hR
      clear hkd
      go_wp2_with (go_at_call 68; refine (HAT.out _ (Kd.C_below HC.out HB4.out)).mono ?_; rintro e w5 ⟨rfl, hb5⟩; have HB5 := Lib.hid (HB4.out.trans (hb5.mono HB4.out.size)))
      go_ret3
      exact ⟨rfl, HB5.out⟩
    ·
     rw [if_neg he] at HR
     have b4 : (re == 0) = false := by simpa using he
     have b4' : (re != 0) = true := bne_iff_ne.2 he
     have hR := Option.some.inj HR.out
     subst hR
     clear he
     go_wp2
     go_ret3
     exact ⟨rfl, HB4.out⟩
 ·
  rw [if_neg h0] at hR
  have hR := Option.some.inj hR
  subst hR
  unfold beginE at h0 ⊢
  by_cases h1 : s.toList = []
  ·
   rw [if_pos h1] at h0 ⊢
   have b0 : (s.toList == []) = true := by simpa using h1
   have b0' : s.toList.isEmpty = true := by simpa using h1
   clear hC
   go_enter Tryz.func107, Tryz.ntmps107
   go_wp2
   go_ret3
   exact ⟨rfl, HB0.out⟩
  ·
   have b0 : (s.toList == []) = false := by simpa using h1
   have b0' : s.toList.isEmpty = false := by simpa using h1
   by_cases h2 : s.size > 1024
   ·
    rw [if_neg h1, if_pos h2]
    have h2' : (1024 : Int) < (s.size : Int) := by omega
    clear hC h0 h1
    go_enter Tryz.func107, Tryz.ntmps107
    go_wp2
    go_ret3
    exact ⟨rfl, HB0.out⟩
   · rw [if_neg h1, if_neg h2] at h0; exact absurd rfl h0
end Go.Proofs.YtnpeeiikdcankaaGreat.Tw

namespace Go.Proofs.YtnpeeiikdcankaaGreat.Tw
open Go Go.RowKit Go.Shelf Go.Proofs Go.Proofs.YtnpeeiikdcankaaGreat Go.Proofs.YtnpeeiikdcankaaGreatW.PrintWords Go.Proofs.YtnpeeiikdcankaaGreat.Ext Go.Proofs.YtnpeeiikdcankaaGreat.X Go.Proofs.YtnpeeiikdcankaaGreat.Pu
def cellsN (x : MN) : List Value := [.int .i64 x.f0, .string x.f1, .int .i64 x.f2, .string x.f3]
theorem flat4 : ∀ (l : List MN) (j i : Nat) (x : MN) (u : Value), l[j]? = some x → (cellsN x)[i]? = some u → (l.flatMap cellsN)[j * 4 + i]? = some u
 | [], j, i, x, u, h, _ => by simp at h
 | a :: l, 0, i, x, u, h, hu => by
  have : a = x := by simpa using h
  subst this
  rw [List.flatMap_cons, Nat.zero_mul, Nat.zero_add, List.getElem?_append_left (List.getElem?_eq_some_iff.1 hu).1]
  exact hu
 | a :: l, j + 1, i, x, u, h, hu => by
  have hl : (cellsN a).length = 4 := rfl
  rw [List.flatMap_cons, List.getElem?_append_right (by rw [hl]; omega), hl, show (j + 1) * 4 + i - 4 = j * 4 + i by omega]
  exact flat4 l j i x u (by simpa using h) hu
theorem litN (w : World) (g : Nat) (l : List MN) (t : TypeId) (h : w.heap[g]? = some (.cells (l.flatMap cellsN).toArray t (0, 0))) (hn : l.length ≤ 1000000) : Kd.C k93 w (some ⟨g, 0, none⟩) l.length l := by
 refine ⟨rfl, by omega, fun _ => ⟨_, rfl, fun j x hj => ?_⟩⟩
 refine ⟨cellsN x, rfl, k93_mk _ _, fun i u hu => ?_⟩
 rw [Addr.add_lit, Nat.zero_add, cell_of_row w g _ _ t (0, 0) h]
 have := flat4 l j i x u hj hu
 have e : k93.sz = 4 := rfl
 rw [e]
 simpa using this
end Go.Proofs.YtnpeeiikdcankaaGreat.Tw

namespace Go.Proofs.YtnpeeiikdcankaaGreat.Tw
open Go Go.RowKit Go.Shelf Go.Proofs Go.Proofs.YtnpeeiikdcankaaGreat Go.Proofs.YtnpeeiikdcankaaGreatW.PrintWords Go.Proofs.YtnpeeiikdcankaaGreat.Ext Go.Proofs.YtnpeeiikdcankaaGreat.X Go.Proofs.YtnpeeiikdcankaaGreat.Pu
def bulkN (x : MN) : Nat := 1 + (x.f1.size + 1 + (1 + (x.f3.size + 1))) + 1
theorem sum_in8 {α : Type} (β : α → Nat) {x : α} : ∀ {l : List α}, x ∈ l → β x ≤ (l.map β).sum
 | y :: l, h => by
  rw [List.map_cons, List.sum_cons]
  rcases List.mem_cons.1 h with rfl | h
  · omega
  · have := sum_in8 β h; omega
theorem few_ev (l : List MN) (hl : l.length < 4294967296) : ∃ b, Ev (fun k => linhaylaw08_Few.f k l) b ∧ (b = true → l.length ≤ 60) := by
 have key : ∀ (d i : Nat), i + d = l.length → ∃ b, Ev (fun k => linhaylaw08_Few.l0 k l (i : Int)) b ∧ (b = true → l.length ≤ 60) := by
  intro d
  induction d with
  | zero =>
   intro i hi
   refine ⟨decide ((l.length : Int) ≤ 60), ?_, fun h => by have := of_decide_eq_true h; omega⟩
   refine Ev.step (fun k => by rw [linhaylaw08_Few.l0]) ?_
   exact ev_neg (by omega) (Ev.now _)
  | succ d ih =>
   intro i hi
   obtain ⟨b, h1, h2⟩ := ih (i + 1) (by omega)
   by_cases hz : (((rd_T93 l (i : Int)).f3).size : Int) > 2000
   ·
    refine ⟨false, ?_, fun h => by cases h⟩
    refine Ev.step (fun k => by rw [linhaylaw08_Few.l0]) ?_
    exact ev_pos (by omega) (ev_pos (by omega) (ev_pos hz (Ev.now _)))
   ·
    refine ⟨b, ?_, h2⟩
    refine Ev.step (fun k => by rw [linhaylaw08_Few.l0]) ?_
    refine ev_pos (by omega) (ev_pos (by omega) (ev_neg hz ?_))
    rw [w1 (by omega)]
    exact h1
 exact key l.length 0 (by omega)
end Go.Proofs.YtnpeeiikdcankaaGreat.Tw

namespace Go.Proofs.YtnpeeiikdcankaaGreat.Tw
open Go Go.RowKit Go.Shelf Go.Proofs Go.Proofs.YtnpeeiikdcankaaGreat Go.Proofs.YtnpeeiikdcankaaGreatW.PrintWords Go.Proofs.YtnpeeiikdcankaaGreat.Ext Go.Proofs.YtnpeeiikdcankaaGreat.X Go.Proofs.YtnpeeiikdcankaaGreat.Pu
theorem three_set {w : World} {k : Nat} {v0 v1 v2 u0 u1 u2 : Value} {t : TypeId} (h : w.heap[k]? = some (.cells #[v0, v1, v2] t (0, 0))) : (((w.setCell ⟨k, 0, none⟩ u0).setCell ⟨k, 1, none⟩ u1).setCell ⟨k, 2, none⟩ u2).heap[k]? = some (.cells #[u0, u1, u2] t (0, 0)) := by
 have k1 : (w.setCell ⟨k, 0, none⟩ u0).heap[k]? = some (.cells #[u0, v1, v2] t (0, 0)) := by rw [setCell_eq_setRow w _ 0 _ _ _ _ h, setRow_heap w _ _ _ _ _ h]; rfl
 have k2 : ((w.setCell ⟨k, 0, none⟩ u0).setCell ⟨k, 1, none⟩ u1).heap[k]? = some (.cells #[u0, u1, v2] t (0, 0)) := by rw [setCell_eq_setRow _ _ 1 _ _ _ _ k1, setRow_heap _ _ _ _ _ _ k1]; rfl
 rw [setCell_eq_setRow _ _ 2 _ _ _ _ k2, setRow_heap _ _ _ _ _ _ k2]; rfl
def sizeT (T : Tr) (n : Int) : Int := ((T.node n).data.size : Int) + ((T.node n).ents.length : Int)
def stT (T : Tr) (R : Int × Int) : Int × Int × Int := if R.2 = 0 then (R.1, (T.node R.1).kind, sizeT T R.1) else (0, 0, 0)
abbrev v3 (x : Int × Int × Int) : Value := .agg #[.int .i64 x.1, .int .i64 x.2.1, .int .i64 x.2.2]
set_option maxHeartbeats 2000000 in
set_option maxRecDepth 1000000 in
theorem stat_calls (p : Nat) (T : Tr) (s : ByteArray) (last : Bool) (k : Nat) (R : Int × Int) (w : World) (hT : TreeAt w p T) (hO : TrOK T) (hw : wf R.1) (hR : findF T last k s = some R) :
  Calls Tryz.prog 133 #[pT p, .string s, .bool last] w fun e w' => e = .returned (.tuple #[v3 (stT T R), .int .i64 R.2]) ∧ Below w.heap.size w w' := by
 have HF := Lib.hid (fun W h => seekFind_calls p T s last k R W h hO hR)
 have HK := Lib.hid (fun W h => kind_calls p T R.1 W h hw)
 have HD := Lib.hid (fun W h => data_calls p T R.1 W h hw)
 have HL := Lib.hid (fun W h => list_calls p T R.1 W h hw (hO.small.node R.1))
 have hdz := hO.sz R.1
 have hlz := hO.small.node R.1
 have HT := Lib.hid hT
 have HST := Lib.hid (show stT T R = if R.2 = 0 then (R.1, (T.node R.1).kind, ((T.node R.1).data.size : Int) + ((T.node R.1).ents.length : Int)) else (0, 0, 0) from rfl)
 generalize stT T R = st at *
 obtain ⟨n, e⟩ := R
 simp only [] at *
 generalize T.node n = nd at *
 obtain ⟨kd, up, dt, es⟩ := nd
 simp only [] at *
 clear hT hO hw hR
 have hu := Tryz.underlying143
 have HB0 := Lib.hid ((Below.refl w.heap.size w).alloc (Nat.le_refl _) (.cells #[.int .i64 0, .int .i64 0, .int .i64 0] 143))
 have HX0 := Lib.hid (heap_alloc_new w (.cells #[.int .i64 0, .int .i64 0, .int .i64 0] 143))
 by_cases he : e = 0
 ·
  subst he
  have hst := HST.out
  rw [if_pos rfl] at hst
  subst hst
  clear HST
  go_enter Tryz.func133, Tryz.ntmps133
  go_upto_region 4 with (go_at_call 156; refine (HF.out _ (HT.out.below HB0.out)).mono ?_; rintro e w2 ⟨rfl, hb2⟩)
  have HB2 := Lib.hid (HB0.out.trans (hb2.mono HB0.out.size))
  have H2 := Lib.hid ((hb2.block _ (blk_lt HX0.out)).trans HX0.out)
  have HT2 := Lib.hid (HT.out.below HB2.out)
  clear hb2
  go_wp2_with (first
   | (go_at_call 69; refine (HK.out _ HT2.out).mono ?_; rintro e w3 ⟨rfl, hb3⟩)
   | (go_at_call 70; refine (HD.out _ (HT2.out.below hb3)).mono ?_; rintro e w4 ⟨rfl, hb4⟩)
   | (go_at_call 74; refine (HL.out _ ((HT2.out.below hb3).below hb4)).mono ?_; rintro e w5 ⟨v, rfl, ho, hb5⟩; obtain ⟨A5, c5, rfl, hl5, hC5⟩ := Kd.R_reads ho; have HB5 := Lib.hid (hb3.trans ((hb4.mono hb3.size).trans (hb5.mono (Nat.le_trans hb3.size hb4.size)))); have h5 := (HB5.out.block _ (blk_lt H2.out)).trans H2.out; have x0 : w5.cell? ⟨w.heap.size, 0, none⟩ = some (.int .i64 0) := (by rw [blk_cell h5]; rfl); have x1 : w5.cell? ⟨w.heap.size, 1, none⟩ = some (.int .i64 0) := (by rw [blk_cell h5]; rfl); have x2 : w5.cell? ⟨w.heap.size, 2, none⟩ = some (.int .i64 0) := (by rw [blk_cell h5]; rfl); have f0 := blk_frozen h5 0; have f1 := blk_frozen h5 1; have f2 := blk_frozen h5 2; have H5 := Lib.hid h5; clear h5 ho hC5 hb3 hb4 hb5))
  have H9 := Lib.hid (three_set (u0 := .int .i64 n) (u1 := .int .i64 kd) (u2 := .int .i64 ((dt.size : Int) + (es.length : Int))) H5.out)
  have HB9 := Lib.hid ((((HB2.out.trans (HB5.out.mono HB2.out.size)).setCell (p := ⟨w.heap.size, 0, none⟩) (Nat.le_refl _) (.int .i64 n)).setCell (p := ⟨w.heap.size, 1, none⟩) (Nat.le_refl _) (.int .i64 kd)).setCell (p := ⟨w.heap.size, 2, none⟩) (Nat.le_refl _) (.int .i64 ((dt.size : Int) + (es.length : Int))))
  clear x0 x1 x2
  generalize ((w5.setCell ⟨w.heap.size, 0, none⟩ (.int .i64 n)).setCell ⟨w.heap.size, 1, none⟩ (.int .i64 kd)).setCell ⟨w.heap.size, 2, none⟩ (.int .i64 ((dt.size : Int) + (es.length : Int))) = w9 at H9 HB9 ⊢
  have c0 : w9.cell? ⟨w.heap.size, 0, none⟩ = some (.int .i64 n) := by rw [blk_cell H9.out]; rfl
  have c1 : w9.cell? ⟨w.heap.size, 1, none⟩ = some (.int .i64 kd) := by rw [blk_cell H9.out]; rfl
  have c2 : w9.cell? ⟨w.heap.size, 2, none⟩ = some (.int .i64 ((dt.size : Int) + (es.length : Int))) := by rw [blk_cell H9.out]; rfl
  refine bodyPost_ret (v := .tuple #[.agg #[.int .i64 n, .int .i64 kd, .int .i64 ((dt.size : Int) + (es.length : Int))], .int .i64 0]) (by simp [results, Tryz.results133, go_sem, c0, c1, c2, hu]) rfl ⟨rfl, HB9.out⟩
 ·
  have hst := HST.out
  rw [if_neg he] at hst
  subst hst
  have he' : (e != 0) = true := bne_iff_ne.2 he
  clear HST he
  go_enter Tryz.func133, Tryz.ntmps133
  go_upto_region 3 with (go_at_call 156; refine (HF.out _ (HT.out.below HB0.out)).mono ?_; rintro e w2 ⟨rfl, hb2⟩)
  have h2 := (hb2.block _ (blk_lt HX0.out)).trans HX0.out
  have hB2 := HB0.out.trans (hb2.mono HB0.out.size)
  have x0 : w2.cell? ⟨w.heap.size, 0, none⟩ = some (.int .i64 0) := by rw [blk_cell h2]; rfl
  have x1 : w2.cell? ⟨w.heap.size, 1, none⟩ = some (.int .i64 0) := by rw [blk_cell h2]; rfl
  have x2 : w2.cell? ⟨w.heap.size, 2, none⟩ = some (.int .i64 0) := by rw [blk_cell h2]; rfl
  have f0 := blk_frozen h2 0
  have f1 := blk_frozen h2 1
  have f2 := blk_frozen h2 2
  have H3 := Lib.hid (three_set (u0 := .int .i64 0) (u1 := .int .i64 0) (u2 := .int .i64 0) h2)
  have HB3 := Lib.hid (((hB2.setCell (p := ⟨w.heap.size, 0, none⟩) (Nat.le_refl _) (.int .i64 0)).setCell (p := ⟨w.heap.size, 1, none⟩) (Nat.le_refl _) (.int .i64 0)).setCell (p := ⟨w.heap.size, 2, none⟩) (Nat.le_refl _) (.int .i64 0))
  clear h2 hB2 hb2
  go_wp2
  generalize ((w2.setCell ⟨w.heap.size, 0, none⟩ (.int .i64 0)).setCell ⟨w.heap.size, 1, none⟩ (.int .i64 0)).setCell ⟨w.heap.size, 2, none⟩ (.int .i64 0) = w9 at H3 HB3 ⊢
  have c0 : w9.cell? ⟨w.heap.size, 0, none⟩ = some (.int .i64 0) := by rw [blk_cell H3.out]; rfl
  have c1 : w9.cell? ⟨w.heap.size, 1, none⟩ = some (.int .i64 0) := by rw [blk_cell H3.out]; rfl
  have c2 : w9.cell? ⟨w.heap.size, 2, none⟩ = some (.int .i64 0) := by rw [blk_cell H3.out]; rfl
  refine bodyPost_ret (v := .tuple #[.agg #[.int .i64 0, .int .i64 0, .int .i64 0], .int .i64 e]) (by simp [results, Tryz.results133, go_sem, c0, c1, c2, hu]) rfl ⟨rfl, HB3.out⟩
set_option maxHeartbeats 2000000 in
set_option maxRecDepth 1000000 in
theorem pstat_calls (p : Nat) (T : Tr) (s : ByteArray) (k : Nat) (R : Int × Int) (w : World) (hT : TreeAt w p T) (hO : TrOK T) (hw : wf R.1) (hR : findF T true k s = some R) :
  Calls Tryz.prog 91 #[pT p, .string s] w fun e w' => e = .returned (.tuple #[v3 (stT T R), .int .i64 R.2]) ∧ Below w.heap.size w w' := by
 have HS := Lib.hid (fun W h => stat_calls p T s true k R W h hO hw hR)
 have HT := Lib.hid hT
 have hu := Tryz.underlying143
 have HB0 := Lib.hid ((Below.refl w.heap.size w).alloc (Nat.le_refl _) (.cells #[.int .i64 0, .int .i64 0, .int .i64 0] 143))
 have HX0 := Lib.hid (heap_alloc_new w (.cells #[.int .i64 0, .int .i64 0, .int .i64 0] 143))
 generalize stT T R = st at *
 obtain ⟨a0, a1, a2⟩ := st
 generalize R.2 = e at *
 clear hT hO hw hR
 go_enter Tryz.func91, Tryz.ntmps91
 go_wp2_with (go_at_call 133; refine (HS.out _ (HT.out.below HB0.out)).mono ?_; rintro e w5 ⟨rfl, hb5⟩; have h5 := (hb5.block _ (blk_lt HX0.out)).trans HX0.out; have x0 : w5.cell? ⟨w.heap.size, 0, none⟩ = some (.int .i64 0) := (by rw [blk_cell h5]; rfl); have x1 : w5.cell? ⟨w.heap.size, 1, none⟩ = some (.int .i64 0) := (by rw [blk_cell h5]; rfl); have x2 : w5.cell? ⟨w.heap.size, 2, none⟩ = some (.int .i64 0) := (by rw [blk_cell h5]; rfl); have f0 := blk_frozen h5 0; have f1 := blk_frozen h5 1; have f2 := blk_frozen h5 2; have H5 := Lib.hid h5; have HB5 := Lib.hid (HB0.out.trans (hb5.mono HB0.out.size)); clear h5 hb5)
 have H9 := Lib.hid (three_set (u0 := .int .i64 a0) (u1 := .int .i64 a1) (u2 := .int .i64 a2) H5.out)
 have HB9 := Lib.hid (((HB5.out.setCell (p := ⟨w.heap.size, 0, none⟩) (Nat.le_refl _) (.int .i64 a0)).setCell (p := ⟨w.heap.size, 1, none⟩) (Nat.le_refl _) (.int .i64 a1)).setCell (p := ⟨w.heap.size, 2, none⟩) (Nat.le_refl _) (.int .i64 a2))
 clear x0 x1 x2
 generalize ((w5.setCell ⟨w.heap.size, 0, none⟩ (.int .i64 a0)).setCell ⟨w.heap.size, 1, none⟩ (.int .i64 a1)).setCell ⟨w.heap.size, 2, none⟩ (.int .i64 a2) = w9 at H9 HB9 ⊢
 have c0 : w9.cell? ⟨w.heap.size, 0, none⟩ = some (.int .i64 a0) := by rw [blk_cell H9.out]; rfl
 have c1 : w9.cell? ⟨w.heap.size, 1, none⟩ = some (.int .i64 a1) := by rw [blk_cell H9.out]; rfl
 have c2 : w9.cell? ⟨w.heap.size, 2, none⟩ = some (.int .i64 a2) := by rw [blk_cell H9.out]; rfl
 refine bodyPost_ret (v := .tuple #[.agg #[.int .i64 a0, .int .i64 a1, .int .i64 a2], .int .i64 e]) (by simp [results, Tryz.results91, go_sem, c0, c1, c2, hu]) rfl ⟨rfl, HB9.out⟩
end Go.Proofs.YtnpeeiikdcankaaGreat.Tw

namespace Go.Proofs.YtnpeeiikdcankaaGreat.Tw
open Go Go.RowKit Go.Shelf Go.Proofs Go.Proofs.YtnpeeiikdcankaaGreat Go.Proofs.YtnpeeiikdcankaaGreatW.PrintWords Go.Proofs.YtnpeeiikdcankaaGreat.Ext Go.Proofs.YtnpeeiikdcankaaGreat.X Go.Proofs.YtnpeeiikdcankaaGreat.Pu
def OnlyV (W : World) (v : Value) (kind e : Int) : Prop := ∃ g h : Nat, v = .func (.func 140) #[] #[.pointer (some ⟨g, 0, none⟩), .pointer (some ⟨h, 0, none⟩)] ∧ W.heap[g]? = some (.cells #[.int .i64 kind] 3 (0, 0)) ∧ W.heap[h]? = some (.cells #[.int .i64 e] 37 (0, 0))
theorem OnlyV.below {w W : World} {v : Value} {kind e : Int} (h : OnlyV w v kind e) (hb : Below w.heap.size w W) : OnlyV W v kind e := by
 obtain ⟨g, k, rfl, h1, h2⟩ := h
 exact ⟨g, k, rfl, (hb.block _ (blk_lt h1)).trans h1, (hb.block _ (blk_lt h2)).trans h2⟩
set_option maxHeartbeats 1000000 in
set_option maxRecDepth 1000000 in
theorem only_calls (kind e : Int) (w : World) : Calls Tryz.prog 96 #[.int .i64 kind, .int .i64 e] w fun r w' => ∃ v, r = .returned v ∧ OnlyV w' v kind e ∧ Below w.heap.size w w' := by
 go_enter Tryz.func96, Tryz.ntmps96
 go_wp2
 go_ret
 have h1 := heap_alloc_new w (.cells #[.int .i64 kind] 3)
 have h2 := heap_alloc_new (w.alloc (.cells #[.int .i64 kind] 3)) (.cells #[.int .i64 e] 37)
 have e2 : (w.alloc (.cells #[.int .i64 kind] 3)).heap.size = w.heap.size + 1 := Array.size_push _
 rw [e2] at h2
 refine ⟨_, rfl, ⟨_, _, rfl, (heap_alloc_old _ _ _ (blk_lt h1)).trans h1, h2⟩, ?_⟩
 exact ((Below.refl w.heap.size w).alloc (Nat.le_refl _) _).alloc (by rw [e2]; omega) _
set_option maxHeartbeats 1000000 in
set_option maxRecDepth 1000000 in
theorem only1_calls (k kind e : Int) (g h : Nat) (w : World) (h1 : w.heap[g]? = some (.cells #[.int .i64 kind] 3 (0, 0))) (h2 : w.heap[h]? = some (.cells #[.int .i64 e] 37 (0, 0))) :
  Calls Tryz.prog 140 #[.int .i64 k, .pointer (some ⟨g, 0, none⟩), .pointer (some ⟨h, 0, none⟩)] w fun r w' => r = .returned (.int .i64 (if k = kind then 0 else e)) ∧ Below w.heap.size w w' := by
 have x1 : w.cell? ⟨g, 0, none⟩ = some (.int .i64 kind) := by rw [blk_cell h1]; rfl
 have x2 : w.cell? ⟨h, 0, none⟩ = some (.int .i64 e) := by rw [blk_cell h2]; rfl
 by_cases hk : k = kind
 ·
  subst hk
  rw [if_pos rfl]
  go_enter Tryz.func140, Tryz.ntmps140
  go_wp2
  go_ret
  exact ⟨rfl, Below.refl _ _⟩
 ·
  rw [if_neg hk]
  have hk' : (k != kind) = true := bne_iff_ne.2 hk
  clear hk
  go_enter Tryz.func140, Tryz.ntmps140
  go_wp2
  go_ret
  exact ⟨rfl, Below.refl _ _⟩
def askD (T : Tr) (R : Int × Int) (kind e0 : Int) : ByteArray × Int := if R.2 ≠ 0 then (⟨#[]⟩, R.2) else if (T.node R.1).kind = kind then ((T.node R.1).data, 0) else (⟨#[]⟩, e0)
set_option maxHeartbeats 2000000 in
set_option maxRecDepth 1000000 in
theorem asked_calls (p : Nat) (T : Tr) (s : ByteArray) (last : Bool) (k : Nat) (R : Int × Int) (kind e0 : Int) (v : Value) (w : World) (hT : TreeAt w p T) (hO : TrOK T) (hw : wf R.1) (hR : findF T last k s = some R) (he0 : e0 ≠ 0) (hv : OnlyV w v kind e0) :
  Calls Tryz.prog 95 #[pT p, .string s, .bool last, v, .func (.func 70) #[pT p] #[]] w fun e w' => e = .returned (.tuple #[.string (askD T R kind e0).1, .int .i64 (askD T R kind e0).2]) ∧ Below w.heap.size w w' := by
 have HS := Lib.hid (fun W h => stat_calls p T s last k R W h hO hw hR)
 have HD := Lib.hid (fun W h => data_calls p T R.1 W h hw)
 have HT := Lib.hid hT
 have HV := Lib.hid hv
 obtain ⟨g, h, rfl, h1, h2⟩ := hv
 have HO := Lib.hid (fun x W q1 q2 => only1_calls x kind e0 g h W q1 q2)
 have H1 := Lib.hid h1
 have H2 := Lib.hid h2
 have HA : Hid (askD T R kind e0 = if R.2 ≠ 0 then (⟨#[]⟩, R.2) else if (T.node R.1).kind = kind then ((T.node R.1).data, 0) else (⟨#[]⟩, e0)) := Lib.hid rfl
 have HST : Hid (stT T R = if R.2 = 0 then (R.1, (T.node R.1).kind, sizeT T R.1) else (0, 0, 0)) := Lib.hid rfl
 generalize askD T R kind e0 = ak at *
 generalize sizeT T R.1 = sz at *
 generalize stT T R = st at *
 obtain ⟨n, e⟩ := R
 simp only [] at *
 generalize T.node n = nd at *
 obtain ⟨kd, up, dt, es⟩ := nd
 simp only [] at *
 clear hT hO hw hR h1 h2
 have hu := Tryz.underlying143
 have arm5 : True := trivial
 by_cases he : e = 0
 ·
  subst he
  have hst := HST.out
  rw [if_pos rfl] at hst
  subst hst
  have ha := HA.out
  rw [if_neg (by simp)] at ha
  have HBX := Lib.hid (fun (W : World) (o : Obj) (hb : Below w.heap.size w W) => (show TreeAt (W.alloc o) p T ∧ (W.alloc o).heap[g]? = some (.cells #[.int .i64 kind] 3 (0, 0)) ∧ (W.alloc o).heap[h]? = some (.cells #[.int .i64 e0] 37 (0, 0)) ∧ Below w.heap.size w (W.alloc o) from (fun hb2 => ⟨HT.out.below hb2, (hb2.block _ (blk_lt H1.out)).trans H1.out, (hb2.block _ (blk_lt H2.out)).trans H2.out, hb2⟩) (hb.alloc hb.size o)))
  by_cases hk : kd = kind
  ·
   subst hk
   rw [if_pos rfl] at ha
   subst ha
   have HO1 := Lib.hid (fun W q1 q2 => HO.out kd W q1 q2)
   rw [if_pos rfl] at HO1
   clear HST HA HO
   go_enter Tryz.func95, Tryz.ntmps95
   go_wp2_with (first
    | (go_at_call 133; refine (HS.out _ HT.out).mono ?_; rintro e w2 ⟨rfl, hb2⟩; have HB2 := Lib.hid hb2; clear hb2)
    | (go_at_call 140; refine (HO1.out _ (HBX.out _ _ HB2.out).2.1 (HBX.out _ _ HB2.out).2.2.1).mono ?_; rintro e w4 ⟨rfl, hb4⟩; have h4 := (hb4.block _ (blk_lt (heap_alloc_new _ _))).trans (heap_alloc_new _ _); have x0 : w4.cell? ⟨w2.heap.size, 0, none⟩ = some (.int .i64 n) := (by rw [blk_cell h4]; rfl); have HB4 := Lib.hid ((HBX.out _ _ HB2.out).2.2.2.trans (hb4.mono (HBX.out _ _ HB2.out).2.2.2.size)); clear h4 hb4)
    | (go_at_call 70; refine (HD.out _ (HT.out.below HB4.out)).mono ?_; rintro e w5 ⟨rfl, hb5⟩))
   refine bodyPost_ret (v := .tuple #[.string dt, .int .i64 0]) (by simp [results, Tryz.results95, go_sem]) rfl ⟨rfl, HB4.out.trans (hb5.mono HB4.out.size)⟩
  ·
   rw [if_neg hk] at ha
   subst ha
   have HO1 := Lib.hid (fun W q1 q2 => HO.out kd W q1 q2)
   rw [if_neg hk] at HO1
   have he0' : (e0 != 0) = true := bne_iff_ne.2 he0
   clear HST HA HO hk he0
   go_enter Tryz.func95, Tryz.ntmps95
   go_wp2_with (first
    | (go_at_call 133; refine (HS.out _ HT.out).mono ?_; rintro e w2 ⟨rfl, hb2⟩; have HB2 := Lib.hid hb2; clear hb2)
    | (go_at_call 140; refine (HO1.out _ (HBX.out _ _ HB2.out).2.1 (HBX.out _ _ HB2.out).2.2.1).mono ?_; rintro e w4 ⟨rfl, hb4⟩; have HB4 := Lib.hid ((HBX.out _ _ HB2.out).2.2.2.trans (hb4.mono (HBX.out _ _ HB2.out).2.2.2.size)); clear hb4))
   refine bodyPost_ret (v := .tuple #[.string ⟨#[]⟩, .int .i64 e0]) (by simp [results, Tryz.results95, go_sem]) rfl ⟨rfl, HB4.out⟩
 ·
  have ha := HA.out
  rw [if_pos he] at ha
  subst ha
  have hst := HST.out
  rw [if_neg he] at hst
  subst hst
  have he' : (e != 0) = true := bne_iff_ne.2 he
  clear HA HST he
  go_enter Tryz.func95, Tryz.ntmps95
  go_wp2_with (go_at_call 133; refine (HS.out _ HT.out).mono ?_; rintro e w2 ⟨rfl, hb2⟩)
  refine bodyPost_ret (v := .tuple #[.string ⟨#[]⟩, .int .i64 e]) (by simp [results, Tryz.results95, go_sem]) rfl ⟨rfl, hb2.alloc hb2.size _⟩
set_option maxHeartbeats 1000000 in
set_option maxRecDepth 1000000 in
theorem pread_calls (p : Nat) (T : Tr) (s : ByteArray) (k : Nat) (R : Int × Int) (w : World) (hT : TreeAt w p T) (hO : TrOK T) (hw : wf R.1) (hR : findF T true k s = some R) :
  Calls Tryz.prog 53 #[pT p, .string s] w fun e w' => e = .returned (.tuple #[.string (askD T R 2 8).1, .int .i64 (askD T R 2 8).2]) ∧ Below w.heap.size w w' := by
 have HS := Lib.hid (fun v W h hv => asked_calls p T s true k R 2 8 v W h hO hw hR (by decide) hv)
 have HN := Lib.hid (fun W => only_calls 2 8 W)
 have HT := Lib.hid hT
 generalize askD T R 2 8 = ak at *
 obtain ⟨d, e⟩ := ak
 clear hT hO hw hR
 go_enter Tryz.func53, Tryz.ntmps53
 go_wp2_with (first
  | (go_at_call 96; refine (HN.out _).mono ?_; rintro e w2 ⟨v, rfl, hv, hb2⟩; have HB2 := Lib.hid hb2; have HV := Lib.hid hv; clear hb2 hv)
  | (go_at_call 95; refine (HS.out _ _ (HT.out.below HB2.out) HV.out).mono ?_; rintro e w3 ⟨rfl, hb3⟩))
 refine bodyPost_ret (v := .tuple #[.string d, .int .i64 e]) (by simp [results, Tryz.results53, go_sem]) rfl ⟨rfl, HB2.out.trans (hb3.mono HB2.out.size)⟩
end Go.Proofs.YtnpeeiikdcankaaGreat.Tw

namespace Go.Proofs.YtnpeeiikdcankaaGreat.Tw
open Go Go.RowKit Go.Shelf Go.Proofs Go.Proofs.YtnpeeiikdcankaaGreat Go.Proofs.YtnpeeiikdcankaaGreatW.PrintWords Go.Proofs.YtnpeeiikdcankaaGreat.Ext Go.Proofs.YtnpeeiikdcankaaGreat.X Go.Proofs.YtnpeeiikdcankaaGreat.Pu
def StrV (W : World) (v : Value) (l : List ByteArray) : Prop := ∃ A c, v = .slice A l.length c ∧ l.length ≤ c ∧ Kd.C Kd.string W A l.length l
theorem StrV.below {w W : World} {v : Value} {l : List ByteArray} (h : StrV w v l) (hb : Below w.heap.size w W) : StrV W v l := by
 obtain ⟨A, c, rfl, h1, h2⟩ := h
 exact ⟨A, c, rfl, h1, Kd.C_below h2 hb⟩
end Go.Proofs.YtnpeeiikdcankaaGreat.Tw

namespace Go.Proofs.YtnpeeiikdcankaaGreat.Tw
open Go Go.RowKit Go.Shelf Go.Proofs Go.Proofs.YtnpeeiikdcankaaGreat Go.Proofs.YtnpeeiikdcankaaGreatW.PrintWords Go.Proofs.YtnpeeiikdcankaaGreat.Ext Go.Proofs.YtnpeeiikdcankaaGreat.X Go.Proofs.YtnpeeiikdcankaaGreat.Pu
theorem node_rt {T : Tr} (hO : TrOK T) (n : Int) : Rt (T.node n).ents := by
 unfold Tr.node
 cases hx : T.get n with
 | none => exact List.Pairwise.nil
 | some x => exact hO.sorted n x hx
end Go.Proofs.YtnpeeiikdcankaaGreat.Tw

namespace Go.Proofs.YtnpeeiikdcankaaGreat.Ext
end Go.Proofs.YtnpeeiikdcankaaGreat.Ext
namespace Go.Proofs.YtnpeeiikdcankaaGreat.X
open Go.RowKit Go.Proofs.YtnpeeiikdcankaaGreatW.PrintWords Go.Proofs.YtnpeeiikdcankaaGreatW.PrintLast Go.Proofs.YtnpeeiikdcankaaGreatW.PrintMore Go.Proofs.YtnpeeiikdcankaaGreat.Ext
attribute [local go_sem] max2_int min2_int max_two min_two max_three min_three max_four min_four   -- for this text's walks alone

def linhayref06_Right.l0 : Nat → List (S162) → Int → Option (Bool)
 | 0, _, _ => none
 | k + 1, x0, x3 => if (wrap64 (x3 + 1)) < (x0.length : Int) then (if 0 ≤ x3 then (if x3 < (x0.length : Int) then (if 0 ≤ (wrap64 (x3 + 1)) then (if ((Op.bytesLess (((rd_T162 x0 x3).f0).toList) (((rd_T162 x0 (wrap64 (x3 + 1))).f0).toList)) = true) then (linhayref06_Right.l0 k x0 (wrap64 (x3 + 1))) else (some false)) else (none)) else (none)) else (none)) else (some true)
def linhayref06_Right.f (k : Nat) (l0 : List (S162)) : Option (Bool) := linhayref06_Right.l0 k l0 0
set_option maxHeartbeats 8000000 in
set_option maxRecDepth 100000 in
theorem linhayref06_Right.calls (k : Nat) (A0 : Option Addr) (c0 : Nat) (l0 : List (S162)) (r : Bool) (w : World) (hr0 : Kd.C k162 w A0 l0.length l0) (hc0 : l0.length ≤ c0) (h : linhayref06_Right.f k l0 = some r) :
  Calls Tryz.prog 179 #[.slice A0 l0.length c0] w fun e w' => e = .returned (.bool r) ∧ Drawn0 w w' := by
 have hu36 := Tryz.underlying36
 have hu49 := Tryz.underlying49
 have hu66 := Tryz.underlying66
 have hu93 := Tryz.underlying93
 have hu106 := Tryz.underlying106
 have hu115 := Tryz.underlying115
 have hu130 := Tryz.underlying130
 have hu162 := Tryz.underlying162
 have HR0 := Aside0.mk hr0
 have HC0 := Aside0.mk hc0
 clear hr0 hc0
 have H : (linhayref06_Right.l0 k l0 0) = some r := h
 clear h
 have H' := Aside0.mk H
 clear H
 go_enter Tryz.func179, Tryz.ntmps179
 go_wp2
 repeat (go_quiet (fail); try go_wp2)
 go_loopg [3] k (fun kq v3 w' => ∃ (x3_1 : Int), v3 = .int .i64 x3_1 ∧ Aside0 (linhayref06_Right.l0 kq l0 x3_1 = some r) ∧ Aside0 (kq ≤ k) ∧ Drawn0 w w')
 case atStart => exact ⟨(0), (by first | rfl | (simp; done) | (simp [*]; done) | (simp [bne_nil]; done)), H', ⟨Nat.le_refl _⟩, by repeat (first | exact Drawn0.refl _ | apply Drawn0.step)⟩
 case round =>
  clear H'
  try clear c1
  obtain ⟨x3_1, rfl, HA, HK1, ⟨m1, rfl⟩⟩ := hrel
  cases gk with
  | zero => exact absurd HA.out (by simp [linhayref06_Right.l0])
  | succ k1 =>
   have H := HA.out
   clear HA
   simp only [linhayref06_Right.l0] at H
   by_cases c2 : (wrap64 (x3_1 + 1)) < (l0.length : Int)
   ·
    rw [if_pos c2] at H
    have c2b0 : decide ((wrap64 (x3_1 + 1)) < (l0.length : Int)) = true := decide_eq_true c2
    clear c2
    by_cases c3 : 0 ≤ x3_1
    ·
     rw [if_pos c3] at H
     have c3b0 : decide (0 ≤ x3_1) = true := decide_eq_true c3
     clear c3
     by_cases c4 : x3_1 < (l0.length : Int)
     ·
      rw [if_pos c4] at H
      have c4b0 : decide (x3_1 < (l0.length : Int)) = true := decide_eq_true c4
      clear c4
      obtain ⟨ji5, hji5⟩ : ∃ j_ : Int, (wrap64 (x3_1 + 1)) = j_ := ⟨_, rfl⟩
      replace H : (if 0 ≤ (ji5) then (if ((Op.bytesLess (((rd_T162 l0 x3_1).f0).toList) (((rd_T162 l0 (ji5)).f0).toList)) = true) then (linhayref06_Right.l0 k1 l0 ji5) else (some false)) else (none)) = some r := by first | (rw [hji5] at H; exact H) | (simp only [hji5] at H ⊢; exact H)
      (try rw [hji5] at c2b0)
      have hji5w : (IntKind.i64.wrap (x3_1 + 1)) = ji5 := (i64_w _).trans hji5
      by_cases c6 : 0 ≤ (ji5)
      ·
       rw [if_pos c6] at H
       have c6b0 : decide (0 ≤ (ji5)) = true := decide_eq_true c6
       clear c6
       by_cases c7 : ((Op.bytesLess (((rd_T162 l0 x3_1).f0).toList) (((rd_T162 l0 (ji5)).f0).toList)) = true)
       ·
        rw [if_pos c7] at H
        have c7b0 : (Op.bytesLess (((rd_T162 l0 x3_1).f0).toList) (((rd_T162 l0 (ji5)).f0).toList)) = true := c7
        (try (have c7L1 : Op.bytesLess (((rd_T162 l0 (ji5)).f0).toList) (((rd_T162 l0 x3_1).f0).toList) = false := less_asym _ _ c7b0; have c7L2 : ((((rd_T162 l0 (ji5)).f0).toList) == (((rd_T162 l0 x3_1).f0).toList)) = false := less_flip c7b0))
        clear c7
        have H' := Aside0.mk H
        clear H
        have p149 : 0 ≤ (x3_1 : Int) := of_decide_eq_true (by first | (with_reducible assumption) | assumption)
        have q149 : x3_1 < (l0.length : Int) := of_decide_eq_true (by first | (with_reducible assumption) | assumption)
        obtain ⟨ad149, e149, hx149_0, hx149_1⟩ := at_T162 HR0.out x3_1 p149 q149
        cases e149
        replace p149 := eq_true p149
        replace q149 := eq_true q149
        have p150 : 0 ≤ ((ji5) : Int) := of_decide_eq_true (by first | (with_reducible assumption) | assumption)
        have q150 : (ji5) < (l0.length : Int) := of_decide_eq_true (by first | (with_reducible assumption) | assumption)
        obtain ⟨ad150, e150, hx150_0, hx150_1⟩ := at_T162 HR0.out (ji5) p150 q150
        obtain rfl : ad149 = ad150 := (by injection e150)
        replace p150 := eq_true p150
        replace q150 := eq_true q150
        go_wp2
        repeat (go_quiet (fail); try go_wp2)
        go_roundg k1
        case measure => have := HK1.out; omega
        case rel => exact ⟨(ji5), (by first | rfl | (simp; done) | (simp only [← hji5] <;> (first | rfl | simp)) | (simp [*]; done)), H', ⟨by have := HK1.out; omega⟩, by repeat (first | exact Drawn0.refl _ | apply Drawn0.step)⟩
       ·
        rw [if_neg c7] at H
        have c7b0 : (Op.bytesLess (((rd_T162 l0 x3_1).f0).toList) (((rd_T162 l0 (ji5)).f0).toList)) = false := by simpa using c7
        (try (have c7L1 : (Op.bytesLess (((rd_T162 l0 (ji5)).f0).toList) (((rd_T162 l0 x3_1).f0).toList) || (((rd_T162 l0 (ji5)).f0).toList) == (((rd_T162 l0 x3_1).f0).toList)) = true := less_tot _ _ c7b0))
        clear c7
        obtain rfl := Option.some.inj H
        have p149 : 0 ≤ (x3_1 : Int) := of_decide_eq_true (by first | (with_reducible assumption) | assumption)
        have q149 : x3_1 < (l0.length : Int) := of_decide_eq_true (by first | (with_reducible assumption) | assumption)
        obtain ⟨ad149, e149, hx149_0, hx149_1⟩ := at_T162 HR0.out x3_1 p149 q149
        cases e149
        replace p149 := eq_true p149
        replace q149 := eq_true q149
        have p150 : 0 ≤ ((ji5) : Int) := of_decide_eq_true (by first | (with_reducible assumption) | assumption)
        have q150 : (ji5) < (l0.length : Int) := of_decide_eq_true (by first | (with_reducible assumption) | assumption)
        obtain ⟨ad150, e150, hx150_0, hx150_1⟩ := at_T162 HR0.out (ji5) p150 q150
        obtain rfl : ad149 = ad150 := (by injection e150)
        replace p150 := eq_true p150
        replace q150 := eq_true q150
        go_wp2
        repeat (go_quiet (fail); try go_wp2)
        go_ret
        exact ⟨by first | rfl | (simp; done) | (simp only [← hji5] <;> (first | rfl | simp)) | (simp [*]; done), by repeat (first | exact Drawn0.refl _ | apply Drawn0.step)⟩
      ·
       rw [if_neg c6] at H
       exact absurd H (by simp)
     ·
      rw [if_neg c4] at H
      exact absurd H (by simp)
    ·
     rw [if_neg c3] at H
     exact absurd H (by simp)
   ·
    rw [if_neg c2] at H
    have c2b0 : decide ((wrap64 (x3_1 + 1)) < (l0.length : Int)) = false := decide_eq_false c2
    clear c2
    obtain rfl := Option.some.inj H
    go_wp2
    repeat (go_quiet (fail); try go_wp2)
    go_ret
    exact ⟨by first | rfl | (simp; done) | (simp [*]; done), by repeat (first | exact Drawn0.refl _ | apply Drawn0.step)⟩

def linhayref06_all.f (k : Nat) (l0 : List (S162)) : Option ((List (S162))) := (linhayref06_Right.f k l0).bind fun t151 => (if t151 = true then (some l0) else (some ([] : List (S162))))
set_option maxHeartbeats 8000000 in
set_option maxRecDepth 100000 in
theorem linhayref06_all.calls (k : Nat) (P0_ : Nat → Prop) (u9000_ : Value) (l0 : List (S162)) (r : List (S162)) (w0 w : World) (hB : Below w0.heap.size w0 w) (ho0 : Kd.R k162 162 w w0.heap.size P0_ u9000_ l0) (h : linhayref06_all.f k l0 = some r) :
  Calls Tryz.prog 167 #[u9000_] w fun e w' => ∃ v0_ : Value, e = .returned (v0_) ∧ Kd.R k162 162 w' w0.heap.size (fun k_ => (P0_ k_ ∨ w.heap.size ≤ k_)) v0_ r ∧ Below w0.heap.size w0 w' ∧ Kept w w' (fun k_ => P0_ k_) := by
 have hu36 := Tryz.underlying36
 have hu49 := Tryz.underlying49
 have hu66 := Tryz.underlying66
 have hu93 := Tryz.underlying93
 have hu106 := Tryz.underlying106
 have hu115 := Tryz.underlying115
 have hu130 := Tryz.underlying130
 have hu162 := Tryz.underlying162
 have HO0 := Aside0.mk (show Kd.R k162 162 w w0.heap.size (fun k_ => (P0_ k_ ∨ w.heap.size ≤ k_)) u9000_ l0 from Kd.R_mono ho0 (fun k_ hk => (.inl hk)))
 have HK := Aside0.mk (Kept.refl w (fun k_ => P0_ k_))
 have HW0 := Aside0.mk hB.size
 have HB := Aside0.mk hB
 clear hB
 have H : ((linhayref06_Right.f k l0).bind fun t151 => (if t151 = true then (some l0) else (some ([] : List (S162))))) = some r := h
 clear h
 replace H := Option.bind_eq_some_iff.mp H
 obtain ⟨t151, A20, H⟩ := H
 replace H : (if t151 = true then (some l0) else (some ([] : List (S162)))) = some r := H
 have A2 := Aside0.mk A20
 clear A20
 by_cases c3 : t151 = true
 ·
  subst c3
  have H1 : (some l0) = some r := by rw [if_pos rfl] at H; exact H
  clear H
  have H := H1
  clear H1
  obtain rfl := Option.some.inj H
  obtain ⟨Ao4, co4, eo4⟩ := Kd.R_slice HO0.out
  subst eo4
  go_enter Tryz.func167, Tryz.ntmps167
  go_wp2_with (first | ((with_reducible refine gate_callee (f := 179) rfl ?_); refine goesL_ (some 4) rfl rfl Tryz.func179 (by kernel_rfl) rfl #[.slice Ao4 l0.length co4] rfl (by (try simp only [List.map_toArray, List.map_cons, List.map_nil]); first | done | rfl | (simp only [List.length_drop, List.length_take]; rfl)) ?_; (with_reducible refine (linhayref06_Right.calls k _ _ l0 true _ ?side1 ?side2 A2.out).mono ?_); (case side1 => repeat (first | exact (Kd.R_reads' HO0.out).2.2 | (with_reducible refine Kd.C_alloc ?_ _) | (with_reducible refine Kd.C_drewN ?_ _) | (with_reducible refine Kd.C_drew ?_))); (case side2 => exact (Kd.R_reads' HO0.out).2.1); rintro e w' ⟨rfl, ⟨nd, rfl⟩⟩; refine ⟨_, rfl, ?_⟩))
  go_ret
  exact ⟨_, by first | rfl | (simp [errW_none, errW_some] <;> rfl) | (simp [*, errW_none, errW_some] <;> rfl) | (simp [errW_none, errW_some, bne_nil]; done) | (simp [*, bne_nil]; done) | (simp [bne]; done), by (with_reducible repeat (first | apply Kd.R_alloc | apply Kd.R_drewN | apply Kd.R_drew)); exact HO0.out, by repeat (first | (with_reducible first | exact HB.out | apply below_alloc | apply pw_below_drewN | apply below_drew1) | exact HB.out), by repeat (first | (with_reducible first | exact HK.out | apply Kept.alloc | apply Kept.drewN | apply Kept.drew) | exact HK.out)⟩
 ·
  replace c3 := Bool.eq_false_iff.mpr c3
  subst c3
  have H1 : (some ([] : List (S162))) = some r := by rw [if_neg (show ¬ (false = true) by decide)] at H; exact H
  clear H
  have H := H1
  clear H1
  obtain rfl := Option.some.inj H
  obtain ⟨Ao5, co5, eo5⟩ := Kd.R_slice HO0.out
  subst eo5
  go_enter Tryz.func167, Tryz.ntmps167
  go_wp2_with (first | ((with_reducible refine gate_callee (f := 179) rfl ?_); refine goesL_ (some 4) rfl rfl Tryz.func179 (by kernel_rfl) rfl #[.slice Ao5 l0.length co5] rfl (by (try simp only [List.map_toArray, List.map_cons, List.map_nil]); first | done | rfl | (simp only [List.length_drop, List.length_take]; rfl)) ?_; (with_reducible refine (linhayref06_Right.calls k _ _ l0 false _ ?side1 ?side2 A2.out).mono ?_); (case side1 => repeat (first | exact (Kd.R_reads' HO0.out).2.2 | (with_reducible refine Kd.C_alloc ?_ _) | (with_reducible refine Kd.C_drewN ?_ _) | (with_reducible refine Kd.C_drew ?_))); (case side2 => exact (Kd.R_reads' HO0.out).2.1); rintro e w' ⟨rfl, ⟨nd, rfl⟩⟩; refine ⟨_, rfl, ?_⟩))
  go_ret
  exact ⟨_, by first | rfl | (simp [errW_none, errW_some] <;> rfl) | (simp [*, errW_none, errW_some] <;> rfl) | (simp [errW_none, errW_some, bne_nil]; done) | (simp [*, bne_nil]; done) | (simp [bne]; done), by first | exact Kd.R_nil _ _ _ _ _ | exact Kd.N_nil _ _ _ _ _ | exact Kd.V_nil _ _ _ _ _ | exact Kd.Q_nil _ _ _ _ _ | exact Kd.S_nil _ _ _ _ _, by repeat (first | (with_reducible first | exact HB.out | apply below_alloc | apply pw_below_drewN | apply below_drew1) | exact HB.out), by repeat (first | (with_reducible first | exact HK.out | apply Kept.alloc | apply Kept.drewN | apply Kept.drew) | exact HK.out)⟩

def linhayref06_Cut.l0 : Nat → List (S162) → ByteArray → List (S162) → Int → Option ((List (S162)))
 | 0, _, _, _, _ => none
 | k + 1, x0, x1, x5, x6 => if x6 < (x0.length : Int) then (if 0 ≤ x6 then (if ((rd_T162 x0 x6).f0).toList = x1.toList then (linhayref06_Cut.l0 k x0 x1 x5 (wrap64 (x6 + 1))) else (if x5.length < 5864062014805 then (linhayref06_Cut.l0 k x0 x1 (x5 ++ [(⟨(rd_T162 x0 x6).f0, (rd_T162 x0 x6).f1⟩ : S162)]) (wrap64 (x6 + 1))) else (none))) else (none)) else (some x5)
def linhayref06_Cut.f (k : Nat) (l0 : List (S162)) (a1 : ByteArray) : Option ((List (S162))) := (linhayref06_all.f k l0).bind fun t152 => (linhayref06_Cut.l0 k t152 a1 ([] : List (S162)) 0)
set_option maxHeartbeats 8000000 in
set_option maxRecDepth 100000 in
theorem linhayref06_Cut.calls (k : Nat) (P0_ : Nat → Prop) (u9000_ : Value) (l0 : List (S162)) (a1 : ByteArray) (r : List (S162)) (w0 w : World) (hB : Below w0.heap.size w0 w) (ho0 : Kd.R k162 162 w w0.heap.size P0_ u9000_ l0) (h : linhayref06_Cut.f k l0 a1 = some r) :
  Calls Tryz.prog 150 #[u9000_, .string a1] w fun e w' => ∃ v0_ : Value, e = .returned (v0_) ∧ Kd.R k162 162 w' w0.heap.size (fun k_ => (P0_ k_ ∨ w.heap.size ≤ k_)) v0_ r ∧ Below w0.heap.size w0 w' ∧ Kept w w' (fun k_ => P0_ k_) := by
 have hu36 := Tryz.underlying36
 have hu49 := Tryz.underlying49
 have hu66 := Tryz.underlying66
 have hu93 := Tryz.underlying93
 have hu106 := Tryz.underlying106
 have hu115 := Tryz.underlying115
 have hu130 := Tryz.underlying130
 have hu162 := Tryz.underlying162
 have HO0 := Aside0.mk (show Kd.R k162 162 w w0.heap.size (fun k_ => (P0_ k_ ∨ w.heap.size ≤ k_)) u9000_ l0 from Kd.R_mono ho0 (fun k_ hk => (.inl hk)))
 have HK := Aside0.mk (Kept.refl w (fun k_ => P0_ k_))
 have HW0 := Aside0.mk hB.size
 have HB := Aside0.mk hB
 clear hB
 have H : ((linhayref06_all.f k l0).bind fun t152 => (linhayref06_Cut.l0 k t152 a1 ([] : List (S162)) 0)) = some r := h
 clear h
 replace H := Option.bind_eq_some_iff.mp H
 obtain ⟨t152, A30, H⟩ := H
 replace H : (linhayref06_Cut.l0 k t152 a1 ([] : List (S162)) 0) = some r := H
 have A3 := Aside0.mk A30
 clear A30
 have H' := Aside0.mk H
 clear H
 obtain ⟨Ao4, co4, eo4⟩ := Kd.R_slice HO0.out
 subst eo4
 go_enter Tryz.func150, Tryz.ntmps150
 go_wp2_with (first | ((with_reducible refine gate_callee (f := 167) rfl ?_); refine goesL_ (some 8) rfl rfl Tryz.func167 (by kernel_rfl) rfl #[.slice Ao4 l0.length co4] rfl (by (try simp only [List.map_toArray, List.map_cons, List.map_nil]); first | done | rfl | (simp only [List.length_drop, List.length_take]; rfl)) ?_; (with_reducible refine (linhayref06_all.calls k (fun k_ => some k_ = (.slice Ao4 l0.length co4 : Value).ownBlock) (.slice Ao4 l0.length co4) l0 t152 w0 _ ?side1 ?side2 A3.out).mono ?_); (case side1 => repeat (first | (with_reducible first | exact HB.out | apply below_alloc | apply pw_below_drewN | apply below_drew1) | exact HB.out)); (case side2 => exact Kd.R_tight rfl HO0.out); rintro e w5 ⟨v153, rfl, ho0, hb, hkp⟩; refine ⟨_, rfl, ?_⟩; have n0_ := Aside0.mk (Kd.R_mono (ok' := fun k_ => (P0_ k_ ∨ w.heap.size ≤ k_)) ho0 (fun k_ hk_ => Or.elim hk_ (fun hs_ => (HO0.out.1 k_ (hs_).symm)) (fun hn_ => (.inr (Nat.le_trans (by first | exact HK.out.1 | exact (show Kept w _ (fun k_ => P0_ k_) from by repeat (first | (with_reducible first | exact HK.out | apply Kept.alloc | apply Kept.drewN | apply Kept.drew) | exact HK.out)).1) hn_))))); have n1_ := Aside0.mk (Kept.then_ (S := (fun k_ => P0_ k_)) (by repeat (first | (with_reducible first | exact HK.out | apply Kept.alloc | apply Kept.drewN | apply Kept.drew) | exact HK.out)) hkp (fun k_ hs_ => (fun e_ => (HO0.out.1 k_ e_.symm)) hs_)); have n2_ := Aside0.mk (hb); clear HK; clear HB; clear HO0; have HO154 := n0_; have HK := n1_; have HB := n2_; clear n0_ n1_ n2_; (try clear hb); (try clear hkp); (try clear ho0)))
 go_loopg [5, 6] k (fun kq v5 v6 w' => ∃ (x5_1 : List (S162)) (x6_1 : Int), v6 = .int .i64 x6_1 ∧ Aside0 (linhayref06_Cut.l0 kq t152 a1 x5_1 x6_1 = some r) ∧ Aside0 (kq ≤ k) ∧ Aside0 (Kd.R k162 162 w' w0.heap.size (fun k_ => (P0_ k_ ∨ w.heap.size ≤ k_) ∧ some k_ ≠ (v5 : Value).ownBlock) v153 t152) ∧ Aside0 (Kd.R k162 162 w' w0.heap.size (fun k_ => (P0_ k_ ∨ w.heap.size ≤ k_) ∧ some k_ ≠ (v153 : Value).ownBlock) v5 x5_1) ∧ Aside0 (Kept w w' (fun k_ => P0_ k_)) ∧ Aside0 (Below w0.heap.size w0 w'))
 case atStart => exact ⟨(([] : List (S162))), (0), (by first | rfl | (simp; done) | (simp [*]; done) | (simp [bne_nil]; done)), H', ⟨Nat.le_refl _⟩, ⟨by (with_reducible repeat (first | apply Kd.R_alloc | apply Kd.R_drewN | apply Kd.R_drew)); exact Kd.R_mono HO154.out (fun _ hk => ⟨hk, (by simp [Value.ownBlock])⟩)⟩, ⟨by first | exact Kd.R_nil _ _ _ _ _ | exact Kd.N_nil _ _ _ _ _ | exact Kd.V_nil _ _ _ _ _ | exact Kd.Q_nil _ _ _ _ _ | exact Kd.S_nil _ _ _ _ _⟩, ⟨by repeat (first | (with_reducible first | exact HK.out | apply Kept.alloc | apply Kept.drewN | apply Kept.drew) | exact HK.out)⟩, ⟨by repeat (first | (with_reducible first | exact HB.out | apply below_alloc | apply pw_below_drewN | apply below_drew1) | exact HB.out)⟩⟩
 case round =>
  clear H'
  try clear c1
  try clear p2
  obtain ⟨x5_1, x6_1, rfl, HA, HK1, HO_0, HO_5, HK, HB⟩ := hrel
  cases gk with
  | zero => exact absurd HA.out (by simp [linhayref06_Cut.l0])
  | succ k1 =>
   have H := HA.out
   clear HA
   simp only [linhayref06_Cut.l0] at H
   by_cases c6 : x6_1 < (t152.length : Int)
   ·
    rw [if_pos c6] at H
    have c6b0 : decide (x6_1 < (t152.length : Int)) = true := decide_eq_true c6
    clear c6
    by_cases c7 : 0 ≤ x6_1
    ·
     rw [if_pos c7] at H
     have c7b0 : decide (0 ≤ x6_1) = true := decide_eq_true c7
     clear c7
     by_cases c8 : ((rd_T162 t152 x6_1).f0).toList = a1.toList
     ·
      rw [if_pos c8] at H
      have c8b0 : (((rd_T162 t152 x6_1).f0).toList == a1.toList) = true := beq_iff_eq.mpr c8
      have c8b1 : (((rd_T162 t152 x6_1).f0).toList != a1.toList) = false := bne_eq_false_iff_eq.mpr c8
      clear c8
      have H' := Aside0.mk H
      clear H
      obtain ⟨Ao9, co9, eo9⟩ := Kd.R_slice HO_0.out
      subst eo9
      have p155 : 0 ≤ (x6_1 : Int) := of_decide_eq_true (by first | (with_reducible assumption) | assumption)
      have q155 : x6_1 < (t152.length : Int) := of_decide_eq_true (by first | (with_reducible assumption) | assumption)
      obtain ⟨ad155, e155, hx155_0, hx155_1⟩ := at_T162 (Kd.R_reads' HO_0.out).2.2 x6_1 p155 q155
      cases e155
      replace p155 := eq_true p155
      replace q155 := eq_true q155
      go_wp2
      go_roundg k1
      case measure => have := HK1.out; omega
      case rel => exact ⟨(x5_1), (wrap64 (x6_1 + 1)), (by first | rfl | (simp; done) | (simp [*]; done) | (simp [bne_nil]; done)), H', ⟨by have := HK1.out; omega⟩, ⟨by (with_reducible repeat (first | apply Kd.R_alloc | apply Kd.R_drewN | apply Kd.R_drew)); first | exact HO_0.out | exact own_cut HO_0.out⟩, ⟨by (with_reducible repeat (first | apply Kd.R_alloc | apply Kd.R_drewN | apply Kd.R_drew)); first | exact HO_5.out | exact own_cut HO_5.out⟩, ⟨by repeat (first | (with_reducible first | exact HK.out | apply Kept.alloc | apply Kept.drewN | apply Kept.drew) | exact HK.out)⟩, ⟨by repeat (first | (with_reducible first | exact HB.out | apply below_alloc | apply pw_below_drewN | apply below_drew1) | exact HB.out)⟩⟩
     ·
      rw [if_neg c8] at H
      have c8b0 : (((rd_T162 t152 x6_1).f0).toList == a1.toList) = false := beq_eq_false_iff_ne.mpr c8
      have c8b1 : (((rd_T162 t152 x6_1).f0).toList != a1.toList) = true := bne_iff_ne.mpr c8
      by_cases c10 : x5_1.length < 5864062014805
      ·
       rw [if_pos c10] at H
       have LMc10 := Aside0.mk c10
       clear c10
       obtain ⟨y157, hy157⟩ : ∃ y_ : List (S162), y_ = (x5_1 ++ [(⟨(rd_T162 t152 x6_1).f0, (rd_T162 t152 x6_1).f1⟩ : S162)]) := ⟨_, rfl⟩
       replace H : (linhayref06_Cut.l0 k1 t152 a1 y157 (wrap64 (x6_1 + 1))) = some r := by first | (rw [hy157]; with_reducible exact H) | (have H2_ := (Option.bind_some _ _).symm.trans H; rw [hy157]; with_reducible exact H2_) | (have H2_ := (Option.bind_some _ _).symm.trans H; with_reducible exact H2_) | with_reducible exact H | (rw [hy157]; exact H) | exact H
       have Ny157 := Aside0.mk hy157
       clear hy157
       have H' := Aside0.mk H
       clear H
       obtain ⟨Ao11, co11, eo11⟩ := Kd.R_slice HO_0.out
       subst eo11
       have p155 : 0 ≤ (x6_1 : Int) := of_decide_eq_true (by first | (with_reducible assumption) | assumption)
       have q155 : x6_1 < (t152.length : Int) := of_decide_eq_true (by first | (with_reducible assumption) | assumption)
       obtain ⟨ad155, e155, hx155_0, hx155_1⟩ := at_T162 (Kd.R_reads' HO_0.out).2.2 x6_1 p155 q155
       cases e155
       replace p155 := eq_true p155
       replace q155 := eq_true q155
       have p156 : 0 ≤ (x6_1 : Int) := of_decide_eq_true (by first | (with_reducible assumption) | assumption)
       have q156 : x6_1 < (t152.length : Int) := of_decide_eq_true (by first | (with_reducible assumption) | assumption)
       obtain ⟨ad156, e156, hx156_0, hx156_1⟩ := at_T162 (Kd.R_reads' HO_0.out).2.2 x6_1 p156 q156
       obtain rfl : ad155 = ad156 := (by injection e156)
       replace p156 := eq_true p156
       replace q156 := eq_true q156
       go_wp2_with (first | ((with_reducible refine gate_builtin (b := .append) (xs := #[.tmp 22, .tmp 27]) rfl ?_); at_builtin; refine Kd.R_append k162 (w0 := w0) w0.heap.size rfl (.tmp 22) (.tmp 27) 110 162 (.agg #[(.string ⟨#[]⟩), (.int .i64 0)]) 24 rfl Tryz.underlying110 info162 rfl (by decide) (by omega) u5 x5_1 (⟨(rd_T162 t152 x6_1).f0, (rd_T162 t152 x6_1).f1⟩ : S162) [.string ((rd_T162 t152 x6_1).f0), .int .i64 ((rd_T162 t152 x6_1).f1)] (fun k_ => (P0_ k_ ∨ w.heap.size ≤ k_) ∧ some k_ ≠ (.slice (some ad155) t152.length co11 : Value).ownBlock) (fun _ => False) rfl rfl ?aP (fun _ hk => hk.elim) ?aF ?aO ?aB ?aS ?aL ?_; (case aP => exact k162_mkM _ _ _ (⟨(rd_T162 t152 x6_1).f0, (rd_T162 t152 x6_1).f1⟩ : S162)); (case aB => exact (by repeat (first | (with_reducible first | exact HB.out | apply below_alloc | apply pw_below_drewN | apply below_drew1) | exact HB.out))); (case aF => exact (fun k_ hk => ⟨(.inr (Nat.le_trans (by first | exact HK.out.1 | exact (show Kept w _ (fun k_ => P0_ k_) from by repeat (first | (with_reducible first | exact HK.out | apply Kept.alloc | apply Kept.drewN | apply Kept.drew) | exact HK.out)).1) hk)), Kd.fresh' (Kd.R_lt (by (with_reducible repeat (first | apply Kd.R_alloc | apply Kd.R_drewN | apply Kd.R_drew)); exact HO_0.out)) k_ hk⟩)); (case aO => exact (by (with_reducible repeat (first | apply Kd.R_alloc | apply Kd.R_drewN | apply Kd.R_drew)); exact HO_5.out)); (case aS => exact (below_size (by repeat (first | (with_reducible first | exact HB.out | apply below_alloc | apply pw_below_drewN | apply below_drew1) | exact HB.out)))); (case aL => have := LMc10.out; omega); intro v158 w12 ho hb hg hat; rw [← Ny157.out] at ho; have n0_ := Aside0.mk (Kd.R_after (ok := (fun k_ => (P0_ k_ ∨ w.heap.size ≤ k_))) (by (with_reducible repeat (first | apply Kd.R_alloc | apply Kd.R_drewN | apply Kd.R_drew)); exact HO_0.out) hg hat); have n1_ := Aside0.mk (hb); have n2_ := Aside0.mk (Kept.of_grown (S := (fun k_ => P0_ k_)) hg (by repeat (first | (with_reducible first | exact HK.out | apply Kept.alloc | apply Kept.drewN | apply Kept.drew) | exact HK.out)) (fun k_ e_ => (HO_5.out.1 k_ e_).1)); have n3_ := Aside0.mk (ho); clear HO_0; clear HB; clear HK; clear HO_5; have HO_0 := n0_; have HB := n1_; have HK := n2_; have HO159 := n3_; clear n0_ n1_ n2_ n3_; clear ho hb hg hat))
       go_roundg k1
       case measure => have := HK1.out; omega
       case rel => exact ⟨(y157), (wrap64 (x6_1 + 1)), (by first | rfl | (simp; done) | (simp [*]; done) | (simp [bne_nil]; done)), H', ⟨by have := HK1.out; omega⟩, ⟨by (with_reducible repeat (first | apply Kd.R_alloc | apply Kd.R_drewN | apply Kd.R_drew)); first | exact HO_0.out | exact own_cut HO_0.out⟩, ⟨by (with_reducible repeat (first | apply Kd.R_alloc | apply Kd.R_drewN | apply Kd.R_drew)); first | exact HO159.out | exact own_cut HO159.out⟩, ⟨by repeat (first | (with_reducible first | exact HK.out | apply Kept.alloc | apply Kept.drewN | apply Kept.drew) | exact HK.out)⟩, ⟨by repeat (first | (with_reducible first | exact HB.out | apply below_alloc | apply pw_below_drewN | apply below_drew1) | exact HB.out)⟩⟩
      ·
       rw [if_neg c10] at H
       exact absurd H (by simp)
    ·
     rw [if_neg c7] at H
     exact absurd H (by simp)
   ·
    rw [if_neg c6] at H
    have c6b0 : decide (x6_1 < (t152.length : Int)) = false := decide_eq_false c6
    clear c6
    obtain rfl := Option.some.inj H
    obtain ⟨Ao13, co13, eo13⟩ := Kd.R_slice HO_0.out
    subst eo13
    go_wp2
    go_ret
    exact ⟨_, by first | rfl | (simp [errW_none, errW_some] <;> rfl) | (simp [*, errW_none, errW_some] <;> rfl) | (simp [errW_none, errW_some, bne_nil]; done) | (simp [*, bne_nil]; done) | (simp [bne]; done), by (with_reducible repeat (first | apply Kd.R_alloc | apply Kd.R_drewN | apply Kd.R_drew)); exact Kd.R_mono HO_5.out (fun _ hk => hk.1), by repeat (first | (with_reducible first | exact HB.out | apply below_alloc | apply pw_below_drewN | apply below_drew1) | exact HB.out), by repeat (first | (with_reducible first | exact HK.out | apply Kept.alloc | apply Kept.drewN | apply Kept.drew) | exact HK.out)⟩

mutual
def linhayref06_Put.l0 : Nat → List (S162) → List (S162) → Int → ByteArray → Int → Option ((List (S162)))
 | 0, _, _, _, _, _ => none
 | k + 1, x0, x5, x6, x161000, x161001 => if x6 < (x0.length : Int) then (if 0 ≤ x6 then (if (Op.bytesLess (((rd_T162 x0 x6).f0).toList) x161000.toList) = true then (if x5.length < 5864062014805 then (linhayref06_Put.l0 k x0 (x5 ++ [(⟨(rd_T162 x0 x6).f0, (rd_T162 x0 x6).f1⟩ : S162)]) (wrap64 (x6 + 1)) x161000 x161001) else (none)) else (linhayref06_Put.l0 k x0 x5 (wrap64 (x6 + 1)) x161000 x161001)) else (none)) else (if x5.length < 5864062014805 then (linhayref06_Put.l1 k x0 (x5 ++ [(⟨x161000, x161001⟩ : S162)]) 0 x161000 x161001) else (none))
def linhayref06_Put.l1 : Nat → List (S162) → List (S162) → Int → ByteArray → Int → Option ((List (S162)))
 | 0, _, _, _, _, _ => none
 | k + 1, x0, x5, x7, x161000, x161001 => if x7 < (x0.length : Int) then (if 0 ≤ x7 then (if (Op.bytesLess x161000.toList (((rd_T162 x0 x7).f0).toList)) = true then (if x5.length < 5864062014805 then (linhayref06_Put.l1 k x0 (x5 ++ [(⟨(rd_T162 x0 x7).f0, (rd_T162 x0 x7).f1⟩ : S162)]) (wrap64 (x7 + 1)) x161000 x161001) else (none)) else (linhayref06_Put.l1 k x0 x5 (wrap64 (x7 + 1)) x161000 x161001)) else (none)) else (some x5)
end
def linhayref06_Put.f (k : Nat) (l0 : List (S162)) (a1_0 : ByteArray) (a1_1 : Int) : Option ((List (S162))) := (linhayref06_Cut.f k l0 a1_0).bind fun t161 => (linhayref06_Put.l0 k t161 ([] : List (S162)) 0 a1_0 a1_1)
set_option maxHeartbeats 8000000 in
set_option maxRecDepth 100000 in
theorem linhayref06_Put.calls (k : Nat) (P0_ : Nat → Prop) (u9000_ : Value) (l0 : List (S162)) (a1_0 : ByteArray) (a1_1 : Int) (r : List (S162)) (w0 w : World) (hB : Below w0.heap.size w0 w) (ho0 : Kd.R k162 162 w w0.heap.size P0_ u9000_ l0) (h : linhayref06_Put.f k l0 a1_0 a1_1 = some r) :
  Calls Tryz.prog 117 #[u9000_, .agg #[.string a1_0, .int .i64 a1_1]] w fun e w' => ∃ v0_ : Value, e = .returned (v0_) ∧ Kd.R k162 162 w' w0.heap.size (fun k_ => (P0_ k_ ∨ w.heap.size ≤ k_)) v0_ r ∧ Below w0.heap.size w0 w' ∧ Kept w w' (fun k_ => P0_ k_) := by
 have hu36 := Tryz.underlying36
 have hu49 := Tryz.underlying49
 have hu66 := Tryz.underlying66
 have hu93 := Tryz.underlying93
 have hu106 := Tryz.underlying106
 have hu115 := Tryz.underlying115
 have hu130 := Tryz.underlying130
 have hu162 := Tryz.underlying162
 have HO0 := Aside0.mk (show Kd.R k162 162 w w0.heap.size (fun k_ => (P0_ k_ ∨ w.heap.size ≤ k_)) u9000_ l0 from Kd.R_mono ho0 (fun k_ hk => (.inl hk)))
 have HK := Aside0.mk (Kept.refl w (fun k_ => P0_ k_))
 have HW0 := Aside0.mk hB.size
 have HB := Aside0.mk hB
 clear hB
 have H : ((linhayref06_Cut.f k l0 a1_0).bind fun t161 => (linhayref06_Put.l0 k t161 ([] : List (S162)) 0 a1_0 a1_1)) = some r := h
 clear h
 replace H := Option.bind_eq_some_iff.mp H
 obtain ⟨t161, A30, H⟩ := H
 replace H : (linhayref06_Put.l0 k t161 ([] : List (S162)) 0 a1_0 a1_1) = some r := H
 have A3 := Aside0.mk A30
 clear A30
 have H' := Aside0.mk H
 clear H
 go_enter Tryz.func117, Tryz.ntmps117
 go_wp2_with (first | ((with_reducible refine gate_dst (N := 3) rfl ?_); refine box_event ?hg (N := 3) ?hd (cs := #[.string a1_0, .int .i64 a1_1]) (t := 162) ?hr ?_; (case hd => rfl); (case hg => rfl); (case hr => first | (go_simp; done) | (go_simp; rfl)); intro gb160 hg w4 hbox hb; have n0_ := Aside0.mk (Kd.R_below (Kd.R_elderB (by (with_reducible repeat (first | apply Kd.R_alloc | apply Kd.R_drewN | apply Kd.R_drew)); exact HO0.out) gb160 (Nat.le_of_eq hg.symm)) hb); have n1_ := Aside0.mk (Kept.below (S := (fun k_ => P0_ k_)) (by repeat (first | (with_reducible first | exact HK.out | apply Kept.alloc | apply Kept.drewN | apply Kept.drew) | exact HK.out)) hb); have n2_ := Aside0.mk (below_step (by repeat (first | (with_reducible first | exact HB.out | apply below_alloc | apply pw_below_drewN | apply below_drew1) | exact HB.out)) hb); have n3_ := Aside0.mk (hbox); have n4_ := Aside0.mk ((by rw [hg]; exact (by first | exact HK.out.1 | exact (show Kept w _ (fun k_ => P0_ k_) from by repeat (first | (with_reducible first | exact HK.out | apply Kept.alloc | apply Kept.drewN | apply Kept.drew) | exact HK.out)).1) : w.heap.size ≤ gb160)); have n5_ := Aside0.mk ((by rw [hg]; exact (below_size (by repeat (first | (with_reducible first | exact HB.out | apply below_alloc | apply pw_below_drewN | apply below_drew1) | exact HB.out))) : w0.heap.size ≤ gb160)); clear HO0; clear HK; clear HB; have HO0 := n0_; have HK := n1_; have HB := n2_; have BK160 := n3_; have GW160 := n4_; have GE160 := n5_; clear n0_ n1_ n2_ n3_ n4_ n5_; clear hb hbox hg; have hcz5_0 : w4.cell? ⟨gb160, 0, none⟩ = some (.string a1_0) := (blk_cell BK160.out 0).trans rfl; have hcz5_1 : w4.cell? ⟨gb160, 1, none⟩ = some (.int .i64 a1_1) := (blk_cell BK160.out 1).trans rfl; have hfz5_0 := blk_frozen BK160.out 0; have hfz5_1 := blk_frozen BK160.out 1; obtain ⟨Ao6, co6, eo6⟩ := Kd.R_slice HO0.out; subst eo6) | (go_at_call 150; (with_reducible refine (linhayref06_Cut.calls k (fun k_ => some k_ = (.slice Ao6 l0.length co6 : Value).ownBlock) (.slice Ao6 l0.length co6) l0 a1_0 t161 w0 _ ?side1 ?side2 A3.out).mono ?_); (case side1 => repeat (first | (with_reducible first | exact HB.out | apply below_alloc | apply pw_below_drewN | apply below_drew1 | refine below_set ?_ GE160.out) | exact HB.out)); (case side2 => exact Kd.R_tight rfl HO0.out); rintro e w7 ⟨v162, rfl, ho0, hb, hkp⟩; have n0_ := Aside0.mk (blk_kept (by (with_reducible repeat (first | refine blk_drewN ?_ _ | refine blk_drew ?_ | refine blk_alloc ?_ _)); exact BK160.out) hkp (fun hs_ => (fun e_ => (Kd.R_away HO0.out (fun _ hk => hk.2)) e_) hs_)); have n1_ := Aside0.mk (Kd.R_mono (ok' := fun k_ => (P0_ k_ ∨ w.heap.size ≤ k_) ∧ k_ ≠ gb160) ho0 (fun k_ hk_ => ⟨Or.elim hk_ (fun hs_ => (HO0.out.1 k_ (hs_).symm).1) (fun hn_ => (.inr (Nat.le_trans (by first | exact HK.out.1 | exact (show Kept w _ (fun k_ => P0_ k_) from by repeat (first | (with_reducible first | exact HK.out | apply Kept.alloc | apply Kept.drewN | apply Kept.drew | refine Kept.setCell ?_ (.inr GW160.out) _) | exact HK.out)).1) hn_))), Or.elim hk_ (fun hs_ => fun e_ => (Kd.R_away HO0.out (fun _ hk => hk.2)) (by rw [← e_]; exact hs_)) (fun hn_ => (Kd.freshB (g := gb160) (o := .cells #[.string a1_0, .int .i64 a1_1] 162 (0, 0)) (by (with_reducible repeat (first | refine blk_drewN ?_ _ | refine blk_drew ?_ | refine blk_alloc ?_ _)); exact BK160.out) k_ hn_))⟩)); have n2_ := Aside0.mk (Kept.then_ (S := (fun k_ => P0_ k_)) (by repeat (first | (with_reducible first | exact HK.out | apply Kept.alloc | apply Kept.drewN | apply Kept.drew | refine Kept.setCell ?_ (.inr GW160.out) _) | exact HK.out)) hkp (fun k_ hs_ => (fun e_ => (HO0.out.1 k_ e_.symm).1) hs_)); have n3_ := Aside0.mk (hb); clear BK160; clear HK; clear HB; clear HO0; have BK160 := n0_; have HO163 := n1_; have HK := n2_; have HB := n3_; clear n0_ n1_ n2_ n3_; (try clear hb); (try clear hkp); (try clear ho0)))
 repeat (go_quiet (first | ((with_reducible refine gate_dst (N := 3) rfl ?_); refine box_event ?hg (N := 3) ?hd (cs := #[.string a1_0, .int .i64 a1_1]) (t := 162) ?hr ?_; (case hd => rfl); (case hg => rfl); (case hr => first | (go_simp; done) | (go_simp; rfl)); intro gb160 hg w4 hbox hb; have n0_ := Aside0.mk (Kd.R_below (Kd.R_elderB (by (with_reducible repeat (first | apply Kd.R_alloc | apply Kd.R_drewN | apply Kd.R_drew)); exact HO0.out) gb160 (Nat.le_of_eq hg.symm)) hb); have n1_ := Aside0.mk (Kept.below (S := (fun k_ => P0_ k_)) (by repeat (first | (with_reducible first | exact HK.out | apply Kept.alloc | apply Kept.drewN | apply Kept.drew) | exact HK.out)) hb); have n2_ := Aside0.mk (below_step (by repeat (first | (with_reducible first | exact HB.out | apply below_alloc | apply pw_below_drewN | apply below_drew1) | exact HB.out)) hb); have n3_ := Aside0.mk (hbox); have n4_ := Aside0.mk ((by rw [hg]; exact (by first | exact HK.out.1 | exact (show Kept w _ (fun k_ => P0_ k_) from by repeat (first | (with_reducible first | exact HK.out | apply Kept.alloc | apply Kept.drewN | apply Kept.drew) | exact HK.out)).1) : w.heap.size ≤ gb160)); have n5_ := Aside0.mk ((by rw [hg]; exact (below_size (by repeat (first | (with_reducible first | exact HB.out | apply below_alloc | apply pw_below_drewN | apply below_drew1) | exact HB.out))) : w0.heap.size ≤ gb160)); clear HO0; clear HK; clear HB; have HO0 := n0_; have HK := n1_; have HB := n2_; have BK160 := n3_; have GW160 := n4_; have GE160 := n5_; clear n0_ n1_ n2_ n3_ n4_ n5_; clear hb hbox hg; have hcz5_0 : w4.cell? ⟨gb160, 0, none⟩ = some (.string a1_0) := (blk_cell BK160.out 0).trans rfl; have hcz5_1 : w4.cell? ⟨gb160, 1, none⟩ = some (.int .i64 a1_1) := (blk_cell BK160.out 1).trans rfl; have hfz5_0 := blk_frozen BK160.out 0; have hfz5_1 := blk_frozen BK160.out 1; obtain ⟨Ao6, co6, eo6⟩ := Kd.R_slice HO0.out; subst eo6) | (go_at_call 150; (with_reducible refine (linhayref06_Cut.calls k (fun k_ => some k_ = (.slice Ao6 l0.length co6 : Value).ownBlock) (.slice Ao6 l0.length co6) l0 a1_0 t161 w0 _ ?side1 ?side2 A3.out).mono ?_); (case side1 => repeat (first | (with_reducible first | exact HB.out | apply below_alloc | apply pw_below_drewN | apply below_drew1 | refine below_set ?_ GE160.out) | exact HB.out)); (case side2 => exact Kd.R_tight rfl HO0.out); rintro e w7 ⟨v162, rfl, ho0, hb, hkp⟩; have n0_ := Aside0.mk (blk_kept (by (with_reducible repeat (first | refine blk_drewN ?_ _ | refine blk_drew ?_ | refine blk_alloc ?_ _)); exact BK160.out) hkp (fun hs_ => (fun e_ => (Kd.R_away HO0.out (fun _ hk => hk.2)) e_) hs_)); have n1_ := Aside0.mk (Kd.R_mono (ok' := fun k_ => (P0_ k_ ∨ w.heap.size ≤ k_) ∧ k_ ≠ gb160) ho0 (fun k_ hk_ => ⟨Or.elim hk_ (fun hs_ => (HO0.out.1 k_ (hs_).symm).1) (fun hn_ => (.inr (Nat.le_trans (by first | exact HK.out.1 | exact (show Kept w _ (fun k_ => P0_ k_) from by repeat (first | (with_reducible first | exact HK.out | apply Kept.alloc | apply Kept.drewN | apply Kept.drew | refine Kept.setCell ?_ (.inr GW160.out) _) | exact HK.out)).1) hn_))), Or.elim hk_ (fun hs_ => fun e_ => (Kd.R_away HO0.out (fun _ hk => hk.2)) (by rw [← e_]; exact hs_)) (fun hn_ => (Kd.freshB (g := gb160) (o := .cells #[.string a1_0, .int .i64 a1_1] 162 (0, 0)) (by (with_reducible repeat (first | refine blk_drewN ?_ _ | refine blk_drew ?_ | refine blk_alloc ?_ _)); exact BK160.out) k_ hn_))⟩)); have n2_ := Aside0.mk (Kept.then_ (S := (fun k_ => P0_ k_)) (by repeat (first | (with_reducible first | exact HK.out | apply Kept.alloc | apply Kept.drewN | apply Kept.drew | refine Kept.setCell ?_ (.inr GW160.out) _) | exact HK.out)) hkp (fun k_ hs_ => (fun e_ => (HO0.out.1 k_ e_.symm).1) hs_)); have n3_ := Aside0.mk (hb); clear BK160; clear HK; clear HB; clear HO0; have BK160 := n0_; have HO163 := n1_; have HK := n2_; have HB := n3_; clear n0_ n1_ n2_ n3_; (try clear hb); (try clear hkp); (try clear ho0))); try go_wp2_with (first | ((with_reducible refine gate_dst (N := 3) rfl ?_); refine box_event ?hg (N := 3) ?hd (cs := #[.string a1_0, .int .i64 a1_1]) (t := 162) ?hr ?_; (case hd => rfl); (case hg => rfl); (case hr => first | (go_simp; done) | (go_simp; rfl)); intro gb160 hg w4 hbox hb; have n0_ := Aside0.mk (Kd.R_below (Kd.R_elderB (by (with_reducible repeat (first | apply Kd.R_alloc | apply Kd.R_drewN | apply Kd.R_drew)); exact HO0.out) gb160 (Nat.le_of_eq hg.symm)) hb); have n1_ := Aside0.mk (Kept.below (S := (fun k_ => P0_ k_)) (by repeat (first | (with_reducible first | exact HK.out | apply Kept.alloc | apply Kept.drewN | apply Kept.drew) | exact HK.out)) hb); have n2_ := Aside0.mk (below_step (by repeat (first | (with_reducible first | exact HB.out | apply below_alloc | apply pw_below_drewN | apply below_drew1) | exact HB.out)) hb); have n3_ := Aside0.mk (hbox); have n4_ := Aside0.mk ((by rw [hg]; exact (by first | exact HK.out.1 | exact (show Kept w _ (fun k_ => P0_ k_) from by repeat (first | (with_reducible first | exact HK.out | apply Kept.alloc | apply Kept.drewN | apply Kept.drew) | exact HK.out)).1) : w.heap.size ≤ gb160)); have n5_ := Aside0.mk ((by rw [hg]; exact (below_size (by repeat (first | (with_reducible first | exact HB.out | apply below_alloc | apply pw_below_drewN | apply below_drew1) | exact HB.out))) : w0.heap.size ≤ gb160)); clear HO0; clear HK; clear HB; have HO0 := n0_; have HK := n1_; have HB := n2_; have BK160 := n3_; have GW160 := n4_; have GE160 := n5_; clear n0_ n1_ n2_ n3_ n4_ n5_; clear hb hbox hg; have hcz5_0 : w4.cell? ⟨gb160, 0, none⟩ = some (.string a1_0) := (blk_cell BK160.out 0).trans rfl; have hcz5_1 : w4.cell? ⟨gb160, 1, none⟩ = some (.int .i64 a1_1) := (blk_cell BK160.out 1).trans rfl; have hfz5_0 := blk_frozen BK160.out 0; have hfz5_1 := blk_frozen BK160.out 1; obtain ⟨Ao6, co6, eo6⟩ := Kd.R_slice HO0.out; subst eo6) | (go_at_call 150; (with_reducible refine (linhayref06_Cut.calls k (fun k_ => some k_ = (.slice Ao6 l0.length co6 : Value).ownBlock) (.slice Ao6 l0.length co6) l0 a1_0 t161 w0 _ ?side1 ?side2 A3.out).mono ?_); (case side1 => repeat (first | (with_reducible first | exact HB.out | apply below_alloc | apply pw_below_drewN | apply below_drew1 | refine below_set ?_ GE160.out) | exact HB.out)); (case side2 => exact Kd.R_tight rfl HO0.out); rintro e w7 ⟨v162, rfl, ho0, hb, hkp⟩; have n0_ := Aside0.mk (blk_kept (by (with_reducible repeat (first | refine blk_drewN ?_ _ | refine blk_drew ?_ | refine blk_alloc ?_ _)); exact BK160.out) hkp (fun hs_ => (fun e_ => (Kd.R_away HO0.out (fun _ hk => hk.2)) e_) hs_)); have n1_ := Aside0.mk (Kd.R_mono (ok' := fun k_ => (P0_ k_ ∨ w.heap.size ≤ k_) ∧ k_ ≠ gb160) ho0 (fun k_ hk_ => ⟨Or.elim hk_ (fun hs_ => (HO0.out.1 k_ (hs_).symm).1) (fun hn_ => (.inr (Nat.le_trans (by first | exact HK.out.1 | exact (show Kept w _ (fun k_ => P0_ k_) from by repeat (first | (with_reducible first | exact HK.out | apply Kept.alloc | apply Kept.drewN | apply Kept.drew | refine Kept.setCell ?_ (.inr GW160.out) _) | exact HK.out)).1) hn_))), Or.elim hk_ (fun hs_ => fun e_ => (Kd.R_away HO0.out (fun _ hk => hk.2)) (by rw [← e_]; exact hs_)) (fun hn_ => (Kd.freshB (g := gb160) (o := .cells #[.string a1_0, .int .i64 a1_1] 162 (0, 0)) (by (with_reducible repeat (first | refine blk_drewN ?_ _ | refine blk_drew ?_ | refine blk_alloc ?_ _)); exact BK160.out) k_ hn_))⟩)); have n2_ := Aside0.mk (Kept.then_ (S := (fun k_ => P0_ k_)) (by repeat (first | (with_reducible first | exact HK.out | apply Kept.alloc | apply Kept.drewN | apply Kept.drew | refine Kept.setCell ?_ (.inr GW160.out) _) | exact HK.out)) hkp (fun k_ hs_ => (fun e_ => (HO0.out.1 k_ e_.symm).1) hs_)); have n3_ := Aside0.mk (hb); clear BK160; clear HK; clear HB; clear HO0; have BK160 := n0_; have HO163 := n1_; have HK := n2_; have HB := n3_; clear n0_ n1_ n2_ n3_; (try clear hb); (try clear hkp); (try clear ho0))))
 go_loopg [5, 6] k (fun kq v5 v6 w' => ∃ (x5_1 : List (S162)) (x6_1 : Int), v6 = .int .i64 x6_1 ∧ Aside0 (linhayref06_Put.l0 kq t161 x5_1 x6_1 a1_0 a1_1 = some r) ∧ Aside0 (kq ≤ k) ∧ Aside0 (Kd.R k162 162 w' w0.heap.size (fun k_ => (P0_ k_ ∨ w.heap.size ≤ k_) ∧ some k_ ≠ (v5 : Value).ownBlock ∧ k_ ≠ gb160) v162 t161) ∧ Aside0 (Kd.R k162 162 w' w0.heap.size (fun k_ => (P0_ k_ ∨ w.heap.size ≤ k_) ∧ some k_ ≠ (v162 : Value).ownBlock ∧ k_ ≠ gb160) v5 x5_1) ∧ Aside0 (w'.heap[gb160]? = some (.cells #[.string a1_0, .int .i64 a1_1] 162 (0, 0))) ∧ Aside0 (Kept w w' (fun k_ => P0_ k_)) ∧ Aside0 (Below w0.heap.size w0 w'))
 case atStart => exact ⟨(([] : List (S162))), (0), (by first | rfl | (simp; done) | (simp [*]; done) | (simp [bne_nil]; done)), H', ⟨Nat.le_refl _⟩, ⟨by (with_reducible repeat (first | apply Kd.R_alloc | apply Kd.R_drewN | apply Kd.R_drew)); exact Kd.R_mono HO163.out (fun _ hk => ⟨hk.1, ⟨(by simp [Value.ownBlock]), hk.2⟩⟩)⟩, ⟨by first | exact Kd.R_nil _ _ _ _ _ | exact Kd.N_nil _ _ _ _ _ | exact Kd.V_nil _ _ _ _ _ | exact Kd.Q_nil _ _ _ _ _ | exact Kd.S_nil _ _ _ _ _⟩, ⟨by (with_reducible repeat (first | refine blk_drewN ?_ _ | refine blk_drew ?_ | refine blk_alloc ?_ _)); exact BK160.out⟩, ⟨by repeat (first | (with_reducible first | exact HK.out | apply Kept.alloc | apply Kept.drewN | apply Kept.drew | refine Kept.setCell ?_ (.inr GW160.out) _) | exact HK.out)⟩, ⟨by repeat (first | (with_reducible first | exact HB.out | apply below_alloc | apply pw_below_drewN | apply below_drew1 | refine below_set ?_ GE160.out) | exact HB.out)⟩⟩
 case round =>
  clear H'
  try clear c1
  try clear p2
  try clear hcz5_0
  try clear hcz5_1
  try clear hfz5_0
  try clear hfz5_1
  obtain ⟨x5_1, x6_1, rfl, HA, HK1, HO_0, HO_5, BK160, HK, HB⟩ := hrel
  cases gk with
  | zero => exact absurd HA.out (by simp [linhayref06_Put.l0])
  | succ k1 =>
   have H := HA.out
   clear HA
   simp only [linhayref06_Put.l0] at H
   by_cases c8 : x6_1 < (t161.length : Int)
   ·
    rw [if_pos c8] at H
    have c8b0 : decide (x6_1 < (t161.length : Int)) = true := decide_eq_true c8
    clear c8
    by_cases c9 : 0 ≤ x6_1
    ·
     rw [if_pos c9] at H
     have c9b0 : decide (0 ≤ x6_1) = true := decide_eq_true c9
     clear c9
     by_cases c10 : (Op.bytesLess (((rd_T162 t161 x6_1).f0).toList) a1_0.toList) = true
     ·
      rw [if_pos c10] at H
      have c10b0 : (Op.bytesLess (((rd_T162 t161 x6_1).f0).toList) a1_0.toList) = true := c10
      (try (have c10L1 : Op.bytesLess a1_0.toList (((rd_T162 t161 x6_1).f0).toList) = false := less_asym _ _ c10b0; have c10L2 : (a1_0.toList == (((rd_T162 t161 x6_1).f0).toList)) = false := less_flip c10b0))
      clear c10
      by_cases c11 : x5_1.length < 5864062014805
      ·
       rw [if_pos c11] at H
       have LMc11 := Aside0.mk c11
       clear c11
       obtain ⟨y166, hy166⟩ : ∃ y_ : List (S162), y_ = (x5_1 ++ [(⟨(rd_T162 t161 x6_1).f0, (rd_T162 t161 x6_1).f1⟩ : S162)]) := ⟨_, rfl⟩
       replace H : (linhayref06_Put.l0 k1 t161 y166 (wrap64 (x6_1 + 1)) a1_0 a1_1) = some r := by first | (rw [hy166]; with_reducible exact H) | (have H2_ := (Option.bind_some _ _).symm.trans H; rw [hy166]; with_reducible exact H2_) | (have H2_ := (Option.bind_some _ _).symm.trans H; with_reducible exact H2_) | with_reducible exact H | (rw [hy166]; exact H) | exact H
       have Ny166 := Aside0.mk hy166
       clear hy166
       have H' := Aside0.mk H
       clear H
       obtain ⟨Ao12, co12, eo12⟩ := Kd.R_slice HO_0.out
       subst eo12
       have p164 : 0 ≤ (x6_1 : Int) := of_decide_eq_true (by first | (with_reducible assumption) | assumption)
       have q164 : x6_1 < (t161.length : Int) := of_decide_eq_true (by first | (with_reducible assumption) | assumption)
       obtain ⟨ad164, e164, hx164_0, hx164_1⟩ := at_T162 (Kd.R_reads' HO_0.out).2.2 x6_1 p164 q164
       cases e164
       replace p164 := eq_true p164
       replace q164 := eq_true q164
       have hcz13_0 : wr.cell? ⟨gb160, 0, none⟩ = some (.string a1_0) := (blk_cell BK160.out 0).trans rfl
       have hcz13_1 : wr.cell? ⟨gb160, 1, none⟩ = some (.int .i64 a1_1) := (blk_cell BK160.out 1).trans rfl
       have hfz13_0 := blk_frozen BK160.out 0
       have hfz13_1 := blk_frozen BK160.out 1
       have p165 : 0 ≤ (x6_1 : Int) := of_decide_eq_true (by first | (with_reducible assumption) | assumption)
       have q165 : x6_1 < (t161.length : Int) := of_decide_eq_true (by first | (with_reducible assumption) | assumption)
       obtain ⟨ad165, e165, hx165_0, hx165_1⟩ := at_T162 (Kd.R_reads' HO_0.out).2.2 x6_1 p165 q165
       obtain rfl : ad164 = ad165 := (by injection e165)
       replace p165 := eq_true p165
       replace q165 := eq_true q165
       go_wp2_with (first | ((with_reducible refine gate_builtin (b := .append) (xs := #[.tmp 26, .tmp 31]) rfl ?_); at_builtin; refine Kd.R_append k162 (w0 := w0) w0.heap.size rfl (.tmp 26) (.tmp 31) 110 162 (.agg #[(.string ⟨#[]⟩), (.int .i64 0)]) 24 rfl Tryz.underlying110 info162 rfl (by decide) (by omega) u5 x5_1 (⟨(rd_T162 t161 x6_1).f0, (rd_T162 t161 x6_1).f1⟩ : S162) [.string ((rd_T162 t161 x6_1).f0), .int .i64 ((rd_T162 t161 x6_1).f1)] (fun k_ => (P0_ k_ ∨ w.heap.size ≤ k_) ∧ some k_ ≠ (.slice (some ad164) t161.length co12 : Value).ownBlock ∧ k_ ≠ gb160) (fun _ => False) rfl rfl ?aP (fun _ hk => hk.elim) ?aF ?aO ?aB ?aS ?aL ?_; (case aP => exact k162_mkM _ _ _ (⟨(rd_T162 t161 x6_1).f0, (rd_T162 t161 x6_1).f1⟩ : S162)); (case aB => exact (by repeat (first | (with_reducible first | exact HB.out | apply below_alloc | apply pw_below_drewN | apply below_drew1 | refine below_set ?_ GE160.out) | exact HB.out))); (case aF => exact (fun k_ hk => ⟨(.inr (Nat.le_trans (by first | exact HK.out.1 | exact (show Kept w _ (fun k_ => P0_ k_) from by repeat (first | (with_reducible first | exact HK.out | apply Kept.alloc | apply Kept.drewN | apply Kept.drew | refine Kept.setCell ?_ (.inr GW160.out) _) | exact HK.out)).1) hk)), Kd.fresh' (Kd.R_lt (by (with_reducible repeat (first | apply Kd.R_alloc | apply Kd.R_drewN | apply Kd.R_drew)); exact HO_0.out)) k_ hk, Kd.freshB (g := gb160) (o := .cells #[.string a1_0, .int .i64 a1_1] 162 (0, 0)) (by (with_reducible repeat (first | refine blk_drewN ?_ _ | refine blk_drew ?_ | refine blk_alloc ?_ _)); exact BK160.out) k_ hk⟩)); (case aO => exact (by (with_reducible repeat (first | apply Kd.R_alloc | apply Kd.R_drewN | apply Kd.R_drew)); exact HO_5.out)); (case aS => exact (below_size (by repeat (first | (with_reducible first | exact HB.out | apply below_alloc | apply pw_below_drewN | apply below_drew1 | refine below_set ?_ GE160.out) | exact HB.out)))); (case aL => have := LMc11.out; omega); intro v167 w14 ho hb hg hat; rw [← Ny166.out] at ho; have n0_ := Aside0.mk (Kd.R_after (ok := (fun k_ => (P0_ k_ ∨ w.heap.size ≤ k_) ∧ k_ ≠ gb160)) (by (with_reducible repeat (first | apply Kd.R_alloc | apply Kd.R_drewN | apply Kd.R_drew)); exact Kd.R_mono HO_0.out (fun _ hk => ⟨⟨hk.1, hk.2.2⟩, hk.2.1⟩)) hg hat); have n1_ := Aside0.mk (blk_grown (g := gb160) (o := .cells #[.string a1_0, .int .i64 a1_1] 162 (0, 0)) (by (with_reducible repeat (first | refine blk_drewN ?_ _ | refine blk_drew ?_ | refine blk_alloc ?_ _)); exact BK160.out) hg (Kd.R_away HO_5.out (fun _ hk => hk.2.2))); have n2_ := Aside0.mk (hb); have n3_ := Aside0.mk (Kept.of_grown (S := (fun k_ => P0_ k_)) hg (by repeat (first | (with_reducible first | exact HK.out | apply Kept.alloc | apply Kept.drewN | apply Kept.drew | refine Kept.setCell ?_ (.inr GW160.out) _) | exact HK.out)) (fun k_ e_ => (HO_5.out.1 k_ e_).1)); have n4_ := Aside0.mk (ho); clear HO_0; clear BK160; clear HB; clear HK; clear HO_5; have HO_0 := n0_; have BK160 := n1_; have HB := n2_; have HK := n3_; have HO168 := n4_; clear n0_ n1_ n2_ n3_ n4_; clear ho hb hg hat))
       repeat (go_quiet (first | ((with_reducible refine gate_builtin (b := .append) (xs := #[.tmp 26, .tmp 31]) rfl ?_); at_builtin; refine Kd.R_append k162 (w0 := w0) w0.heap.size rfl (.tmp 26) (.tmp 31) 110 162 (.agg #[(.string ⟨#[]⟩), (.int .i64 0)]) 24 rfl Tryz.underlying110 info162 rfl (by decide) (by omega) u5 x5_1 (⟨(rd_T162 t161 x6_1).f0, (rd_T162 t161 x6_1).f1⟩ : S162) [.string ((rd_T162 t161 x6_1).f0), .int .i64 ((rd_T162 t161 x6_1).f1)] (fun k_ => (P0_ k_ ∨ w.heap.size ≤ k_) ∧ some k_ ≠ (.slice (some ad164) t161.length co12 : Value).ownBlock ∧ k_ ≠ gb160) (fun _ => False) rfl rfl ?aP (fun _ hk => hk.elim) ?aF ?aO ?aB ?aS ?aL ?_; (case aP => exact k162_mkM _ _ _ (⟨(rd_T162 t161 x6_1).f0, (rd_T162 t161 x6_1).f1⟩ : S162)); (case aB => exact (by repeat (first | (with_reducible first | exact HB.out | apply below_alloc | apply pw_below_drewN | apply below_drew1 | refine below_set ?_ GE160.out) | exact HB.out))); (case aF => exact (fun k_ hk => ⟨(.inr (Nat.le_trans (by first | exact HK.out.1 | exact (show Kept w _ (fun k_ => P0_ k_) from by repeat (first | (with_reducible first | exact HK.out | apply Kept.alloc | apply Kept.drewN | apply Kept.drew | refine Kept.setCell ?_ (.inr GW160.out) _) | exact HK.out)).1) hk)), Kd.fresh' (Kd.R_lt (by (with_reducible repeat (first | apply Kd.R_alloc | apply Kd.R_drewN | apply Kd.R_drew)); exact HO_0.out)) k_ hk, Kd.freshB (g := gb160) (o := .cells #[.string a1_0, .int .i64 a1_1] 162 (0, 0)) (by (with_reducible repeat (first | refine blk_drewN ?_ _ | refine blk_drew ?_ | refine blk_alloc ?_ _)); exact BK160.out) k_ hk⟩)); (case aO => exact (by (with_reducible repeat (first | apply Kd.R_alloc | apply Kd.R_drewN | apply Kd.R_drew)); exact HO_5.out)); (case aS => exact (below_size (by repeat (first | (with_reducible first | exact HB.out | apply below_alloc | apply pw_below_drewN | apply below_drew1 | refine below_set ?_ GE160.out) | exact HB.out)))); (case aL => have := LMc11.out; omega); intro v167 w14 ho hb hg hat; rw [← Ny166.out] at ho; have n0_ := Aside0.mk (Kd.R_after (ok := (fun k_ => (P0_ k_ ∨ w.heap.size ≤ k_) ∧ k_ ≠ gb160)) (by (with_reducible repeat (first | apply Kd.R_alloc | apply Kd.R_drewN | apply Kd.R_drew)); exact Kd.R_mono HO_0.out (fun _ hk => ⟨⟨hk.1, hk.2.2⟩, hk.2.1⟩)) hg hat); have n1_ := Aside0.mk (blk_grown (g := gb160) (o := .cells #[.string a1_0, .int .i64 a1_1] 162 (0, 0)) (by (with_reducible repeat (first | refine blk_drewN ?_ _ | refine blk_drew ?_ | refine blk_alloc ?_ _)); exact BK160.out) hg (Kd.R_away HO_5.out (fun _ hk => hk.2.2))); have n2_ := Aside0.mk (hb); have n3_ := Aside0.mk (Kept.of_grown (S := (fun k_ => P0_ k_)) hg (by repeat (first | (with_reducible first | exact HK.out | apply Kept.alloc | apply Kept.drewN | apply Kept.drew | refine Kept.setCell ?_ (.inr GW160.out) _) | exact HK.out)) (fun k_ e_ => (HO_5.out.1 k_ e_).1)); have n4_ := Aside0.mk (ho); clear HO_0; clear BK160; clear HB; clear HK; clear HO_5; have HO_0 := n0_; have BK160 := n1_; have HB := n2_; have HK := n3_; have HO168 := n4_; clear n0_ n1_ n2_ n3_ n4_; clear ho hb hg hat)); try go_wp2_with (first | ((with_reducible refine gate_builtin (b := .append) (xs := #[.tmp 26, .tmp 31]) rfl ?_); at_builtin; refine Kd.R_append k162 (w0 := w0) w0.heap.size rfl (.tmp 26) (.tmp 31) 110 162 (.agg #[(.string ⟨#[]⟩), (.int .i64 0)]) 24 rfl Tryz.underlying110 info162 rfl (by decide) (by omega) u5 x5_1 (⟨(rd_T162 t161 x6_1).f0, (rd_T162 t161 x6_1).f1⟩ : S162) [.string ((rd_T162 t161 x6_1).f0), .int .i64 ((rd_T162 t161 x6_1).f1)] (fun k_ => (P0_ k_ ∨ w.heap.size ≤ k_) ∧ some k_ ≠ (.slice (some ad164) t161.length co12 : Value).ownBlock ∧ k_ ≠ gb160) (fun _ => False) rfl rfl ?aP (fun _ hk => hk.elim) ?aF ?aO ?aB ?aS ?aL ?_; (case aP => exact k162_mkM _ _ _ (⟨(rd_T162 t161 x6_1).f0, (rd_T162 t161 x6_1).f1⟩ : S162)); (case aB => exact (by repeat (first | (with_reducible first | exact HB.out | apply below_alloc | apply pw_below_drewN | apply below_drew1 | refine below_set ?_ GE160.out) | exact HB.out))); (case aF => exact (fun k_ hk => ⟨(.inr (Nat.le_trans (by first | exact HK.out.1 | exact (show Kept w _ (fun k_ => P0_ k_) from by repeat (first | (with_reducible first | exact HK.out | apply Kept.alloc | apply Kept.drewN | apply Kept.drew | refine Kept.setCell ?_ (.inr GW160.out) _) | exact HK.out)).1) hk)), Kd.fresh' (Kd.R_lt (by (with_reducible repeat (first | apply Kd.R_alloc | apply Kd.R_drewN | apply Kd.R_drew)); exact HO_0.out)) k_ hk, Kd.freshB (g := gb160) (o := .cells #[.string a1_0, .int .i64 a1_1] 162 (0, 0)) (by (with_reducible repeat (first | refine blk_drewN ?_ _ | refine blk_drew ?_ | refine blk_alloc ?_ _)); exact BK160.out) k_ hk⟩)); (case aO => exact (by (with_reducible repeat (first | apply Kd.R_alloc | apply Kd.R_drewN | apply Kd.R_drew)); exact HO_5.out)); (case aS => exact (below_size (by repeat (first | (with_reducible first | exact HB.out | apply below_alloc | apply pw_below_drewN | apply below_drew1 | refine below_set ?_ GE160.out) | exact HB.out)))); (case aL => have := LMc11.out; omega); intro v167 w14 ho hb hg hat; rw [← Ny166.out] at ho; have n0_ := Aside0.mk (Kd.R_after (ok := (fun k_ => (P0_ k_ ∨ w.heap.size ≤ k_) ∧ k_ ≠ gb160)) (by (with_reducible repeat (first | apply Kd.R_alloc | apply Kd.R_drewN | apply Kd.R_drew)); exact Kd.R_mono HO_0.out (fun _ hk => ⟨⟨hk.1, hk.2.2⟩, hk.2.1⟩)) hg hat); have n1_ := Aside0.mk (blk_grown (g := gb160) (o := .cells #[.string a1_0, .int .i64 a1_1] 162 (0, 0)) (by (with_reducible repeat (first | refine blk_drewN ?_ _ | refine blk_drew ?_ | refine blk_alloc ?_ _)); exact BK160.out) hg (Kd.R_away HO_5.out (fun _ hk => hk.2.2))); have n2_ := Aside0.mk (hb); have n3_ := Aside0.mk (Kept.of_grown (S := (fun k_ => P0_ k_)) hg (by repeat (first | (with_reducible first | exact HK.out | apply Kept.alloc | apply Kept.drewN | apply Kept.drew | refine Kept.setCell ?_ (.inr GW160.out) _) | exact HK.out)) (fun k_ e_ => (HO_5.out.1 k_ e_).1)); have n4_ := Aside0.mk (ho); clear HO_0; clear BK160; clear HB; clear HK; clear HO_5; have HO_0 := n0_; have BK160 := n1_; have HB := n2_; have HK := n3_; have HO168 := n4_; clear n0_ n1_ n2_ n3_ n4_; clear ho hb hg hat)))
       go_roundg k1
       case measure => have := HK1.out; omega
       case rel => exact ⟨(y166), (wrap64 (x6_1 + 1)), (by first | rfl | (simp; done) | (simp [*]; done) | (simp [bne_nil]; done)), H', ⟨by have := HK1.out; omega⟩, ⟨by (with_reducible repeat (first | apply Kd.R_alloc | apply Kd.R_drewN | apply Kd.R_drew)); exact Kd.R_mono HO_0.out (fun _ hk => ⟨hk.1.1, ⟨hk.2, hk.1.2⟩⟩)⟩, ⟨by (with_reducible repeat (first | apply Kd.R_alloc | apply Kd.R_drewN | apply Kd.R_drew)); first | exact HO168.out | exact own_cut HO168.out⟩, ⟨by (with_reducible repeat (first | refine blk_drewN ?_ _ | refine blk_drew ?_ | refine blk_alloc ?_ _)); exact BK160.out⟩, ⟨by repeat (first | (with_reducible first | exact HK.out | apply Kept.alloc | apply Kept.drewN | apply Kept.drew | refine Kept.setCell ?_ (.inr GW160.out) _) | exact HK.out)⟩, ⟨by repeat (first | (with_reducible first | exact HB.out | apply below_alloc | apply pw_below_drewN | apply below_drew1 | refine below_set ?_ GE160.out) | exact HB.out)⟩⟩
      ·
       rw [if_neg c11] at H
       exact absurd H (by simp)
     ·
      rw [if_neg c10] at H
      have c10b0 : (Op.bytesLess (((rd_T162 t161 x6_1).f0).toList) a1_0.toList) = false := by simpa using c10
      (try (have c10L1 : (Op.bytesLess a1_0.toList (((rd_T162 t161 x6_1).f0).toList) || a1_0.toList == (((rd_T162 t161 x6_1).f0).toList)) = true := less_tot _ _ c10b0))
      clear c10
      have H' := Aside0.mk H
      clear H
      obtain ⟨Ao15, co15, eo15⟩ := Kd.R_slice HO_0.out
      subst eo15
      have p164 : 0 ≤ (x6_1 : Int) := of_decide_eq_true (by first | (with_reducible assumption) | assumption)
      have q164 : x6_1 < (t161.length : Int) := of_decide_eq_true (by first | (with_reducible assumption) | assumption)
      obtain ⟨ad164, e164, hx164_0, hx164_1⟩ := at_T162 (Kd.R_reads' HO_0.out).2.2 x6_1 p164 q164
      cases e164
      replace p164 := eq_true p164
      replace q164 := eq_true q164
      have hcz16_0 : wr.cell? ⟨gb160, 0, none⟩ = some (.string a1_0) := (blk_cell BK160.out 0).trans rfl
      have hcz16_1 : wr.cell? ⟨gb160, 1, none⟩ = some (.int .i64 a1_1) := (blk_cell BK160.out 1).trans rfl
      have hfz16_0 := blk_frozen BK160.out 0
      have hfz16_1 := blk_frozen BK160.out 1
      go_wp2
      repeat (go_quiet (fail); try go_wp2)
      go_roundg k1
      case measure => have := HK1.out; omega
      case rel => exact ⟨(x5_1), (wrap64 (x6_1 + 1)), (by first | rfl | (simp; done) | (simp [*]; done) | (simp [bne_nil]; done)), H', ⟨by have := HK1.out; omega⟩, ⟨by (with_reducible repeat (first | apply Kd.R_alloc | apply Kd.R_drewN | apply Kd.R_drew)); first | exact HO_0.out | exact own_cut HO_0.out⟩, ⟨by (with_reducible repeat (first | apply Kd.R_alloc | apply Kd.R_drewN | apply Kd.R_drew)); first | exact HO_5.out | exact own_cut HO_5.out⟩, ⟨by (with_reducible repeat (first | refine blk_drewN ?_ _ | refine blk_drew ?_ | refine blk_alloc ?_ _)); exact BK160.out⟩, ⟨by repeat (first | (with_reducible first | exact HK.out | apply Kept.alloc | apply Kept.drewN | apply Kept.drew | refine Kept.setCell ?_ (.inr GW160.out) _) | exact HK.out)⟩, ⟨by repeat (first | (with_reducible first | exact HB.out | apply below_alloc | apply pw_below_drewN | apply below_drew1 | refine below_set ?_ GE160.out) | exact HB.out)⟩⟩
    ·
     rw [if_neg c9] at H
     exact absurd H (by simp)
   ·
    rw [if_neg c8] at H
    have c8b0 : decide (x6_1 < (t161.length : Int)) = false := decide_eq_false c8
    clear c8
    by_cases c17 : x5_1.length < 5864062014805
    ·
     rw [if_pos c17] at H
     have LMc17 := Aside0.mk c17
     clear c17
     obtain ⟨y169, hy169⟩ : ∃ y_ : List (S162), y_ = (x5_1 ++ [(⟨a1_0, a1_1⟩ : S162)]) := ⟨_, rfl⟩
     replace H : (linhayref06_Put.l1 k1 t161 y169 0 a1_0 a1_1) = some r := by first | (rw [hy169]; with_reducible exact H) | (have H2_ := (Option.bind_some _ _).symm.trans H; rw [hy169]; with_reducible exact H2_) | (have H2_ := (Option.bind_some _ _).symm.trans H; with_reducible exact H2_) | with_reducible exact H | (rw [hy169]; exact H) | exact H
     have Ny169 := Aside0.mk hy169
     clear hy169
     have H' := Aside0.mk H
     clear H
     obtain ⟨Ao18, co18, eo18⟩ := Kd.R_slice HO_0.out
     subst eo18
     have hcz19_0 : wr.cell? ⟨gb160, 0, none⟩ = some (.string a1_0) := (blk_cell BK160.out 0).trans rfl
     have hcz19_1 : wr.cell? ⟨gb160, 1, none⟩ = some (.int .i64 a1_1) := (blk_cell BK160.out 1).trans rfl
     have hfz19_0 := blk_frozen BK160.out 0
     have hfz19_1 := blk_frozen BK160.out 1
     go_wp2_with (first | ((with_reducible refine gate_builtin (b := .append) (xs := #[.tmp 33, .tmp 35]) rfl ?_); at_builtin; refine Kd.R_append k162 (w0 := w0) w0.heap.size rfl (.tmp 33) (.tmp 35) 110 162 (.agg #[(.string ⟨#[]⟩), (.int .i64 0)]) 24 rfl Tryz.underlying110 info162 rfl (by decide) (by omega) u5 x5_1 (⟨a1_0, a1_1⟩ : S162) [.string a1_0, .int .i64 a1_1] (fun k_ => (P0_ k_ ∨ w.heap.size ≤ k_) ∧ some k_ ≠ (.slice Ao18 t161.length co18 : Value).ownBlock ∧ k_ ≠ gb160) (fun _ => False) rfl rfl ?aP (fun _ hk => hk.elim) ?aF ?aO ?aB ?aS ?aL ?_; (case aP => exact k162_mkM _ _ _ (⟨a1_0, a1_1⟩ : S162)); (case aB => exact (by repeat (first | (with_reducible first | exact HB.out | apply below_alloc | apply pw_below_drewN | apply below_drew1 | refine below_set ?_ GE160.out) | exact HB.out))); (case aF => exact (fun k_ hk => ⟨(.inr (Nat.le_trans (by first | exact HK.out.1 | exact (show Kept w _ (fun k_ => P0_ k_) from by repeat (first | (with_reducible first | exact HK.out | apply Kept.alloc | apply Kept.drewN | apply Kept.drew | refine Kept.setCell ?_ (.inr GW160.out) _) | exact HK.out)).1) hk)), Kd.fresh' (Kd.R_lt (by (with_reducible repeat (first | apply Kd.R_alloc | apply Kd.R_drewN | apply Kd.R_drew)); exact HO_0.out)) k_ hk, Kd.freshB (g := gb160) (o := .cells #[.string a1_0, .int .i64 a1_1] 162 (0, 0)) (by (with_reducible repeat (first | refine blk_drewN ?_ _ | refine blk_drew ?_ | refine blk_alloc ?_ _)); exact BK160.out) k_ hk⟩)); (case aO => exact (by (with_reducible repeat (first | apply Kd.R_alloc | apply Kd.R_drewN | apply Kd.R_drew)); exact HO_5.out)); (case aS => exact (below_size (by repeat (first | (with_reducible first | exact HB.out | apply below_alloc | apply pw_below_drewN | apply below_drew1 | refine below_set ?_ GE160.out) | exact HB.out)))); (case aL => have := LMc17.out; omega); intro v170 w20 ho hb hg hat; rw [← Ny169.out] at ho; have n0_ := Aside0.mk (Kd.R_after (ok := (fun k_ => (P0_ k_ ∨ w.heap.size ≤ k_) ∧ k_ ≠ gb160)) (by (with_reducible repeat (first | apply Kd.R_alloc | apply Kd.R_drewN | apply Kd.R_drew)); exact Kd.R_mono HO_0.out (fun _ hk => ⟨⟨hk.1, hk.2.2⟩, hk.2.1⟩)) hg hat); have n1_ := Aside0.mk (blk_grown (g := gb160) (o := .cells #[.string a1_0, .int .i64 a1_1] 162 (0, 0)) (by (with_reducible repeat (first | refine blk_drewN ?_ _ | refine blk_drew ?_ | refine blk_alloc ?_ _)); exact BK160.out) hg (Kd.R_away HO_5.out (fun _ hk => hk.2.2))); have n2_ := Aside0.mk (hb); have n3_ := Aside0.mk (Kept.of_grown (S := (fun k_ => P0_ k_)) hg (by repeat (first | (with_reducible first | exact HK.out | apply Kept.alloc | apply Kept.drewN | apply Kept.drew | refine Kept.setCell ?_ (.inr GW160.out) _) | exact HK.out)) (fun k_ e_ => (HO_5.out.1 k_ e_).1)); have n4_ := Aside0.mk (ho); clear HO_0; clear BK160; clear HB; clear HK; clear HO_5; have HO_0 := n0_; have BK160 := n1_; have HB := n2_; have HK := n3_; have HO171 := n4_; clear n0_ n1_ n2_ n3_ n4_; clear ho hb hg hat))
     repeat (go_quiet (first | ((with_reducible refine gate_builtin (b := .append) (xs := #[.tmp 33, .tmp 35]) rfl ?_); at_builtin; refine Kd.R_append k162 (w0 := w0) w0.heap.size rfl (.tmp 33) (.tmp 35) 110 162 (.agg #[(.string ⟨#[]⟩), (.int .i64 0)]) 24 rfl Tryz.underlying110 info162 rfl (by decide) (by omega) u5 x5_1 (⟨a1_0, a1_1⟩ : S162) [.string a1_0, .int .i64 a1_1] (fun k_ => (P0_ k_ ∨ w.heap.size ≤ k_) ∧ some k_ ≠ (.slice Ao18 t161.length co18 : Value).ownBlock ∧ k_ ≠ gb160) (fun _ => False) rfl rfl ?aP (fun _ hk => hk.elim) ?aF ?aO ?aB ?aS ?aL ?_; (case aP => exact k162_mkM _ _ _ (⟨a1_0, a1_1⟩ : S162)); (case aB => exact (by repeat (first | (with_reducible first | exact HB.out | apply below_alloc | apply pw_below_drewN | apply below_drew1 | refine below_set ?_ GE160.out) | exact HB.out))); (case aF => exact (fun k_ hk => ⟨(.inr (Nat.le_trans (by first | exact HK.out.1 | exact (show Kept w _ (fun k_ => P0_ k_) from by repeat (first | (with_reducible first | exact HK.out | apply Kept.alloc | apply Kept.drewN | apply Kept.drew | refine Kept.setCell ?_ (.inr GW160.out) _) | exact HK.out)).1) hk)), Kd.fresh' (Kd.R_lt (by (with_reducible repeat (first | apply Kd.R_alloc | apply Kd.R_drewN | apply Kd.R_drew)); exact HO_0.out)) k_ hk, Kd.freshB (g := gb160) (o := .cells #[.string a1_0, .int .i64 a1_1] 162 (0, 0)) (by (with_reducible repeat (first | refine blk_drewN ?_ _ | refine blk_drew ?_ | refine blk_alloc ?_ _)); exact BK160.out) k_ hk⟩)); (case aO => exact (by (with_reducible repeat (first | apply Kd.R_alloc | apply Kd.R_drewN | apply Kd.R_drew)); exact HO_5.out)); (case aS => exact (below_size (by repeat (first | (with_reducible first | exact HB.out | apply below_alloc | apply pw_below_drewN | apply below_drew1 | refine below_set ?_ GE160.out) | exact HB.out)))); (case aL => have := LMc17.out; omega); intro v170 w20 ho hb hg hat; rw [← Ny169.out] at ho; have n0_ := Aside0.mk (Kd.R_after (ok := (fun k_ => (P0_ k_ ∨ w.heap.size ≤ k_) ∧ k_ ≠ gb160)) (by (with_reducible repeat (first | apply Kd.R_alloc | apply Kd.R_drewN | apply Kd.R_drew)); exact Kd.R_mono HO_0.out (fun _ hk => ⟨⟨hk.1, hk.2.2⟩, hk.2.1⟩)) hg hat); have n1_ := Aside0.mk (blk_grown (g := gb160) (o := .cells #[.string a1_0, .int .i64 a1_1] 162 (0, 0)) (by (with_reducible repeat (first | refine blk_drewN ?_ _ | refine blk_drew ?_ | refine blk_alloc ?_ _)); exact BK160.out) hg (Kd.R_away HO_5.out (fun _ hk => hk.2.2))); have n2_ := Aside0.mk (hb); have n3_ := Aside0.mk (Kept.of_grown (S := (fun k_ => P0_ k_)) hg (by repeat (first | (with_reducible first | exact HK.out | apply Kept.alloc | apply Kept.drewN | apply Kept.drew | refine Kept.setCell ?_ (.inr GW160.out) _) | exact HK.out)) (fun k_ e_ => (HO_5.out.1 k_ e_).1)); have n4_ := Aside0.mk (ho); clear HO_0; clear BK160; clear HB; clear HK; clear HO_5; have HO_0 := n0_; have BK160 := n1_; have HB := n2_; have HK := n3_; have HO171 := n4_; clear n0_ n1_ n2_ n3_ n4_; clear ho hb hg hat)); try go_wp2_with (first | ((with_reducible refine gate_builtin (b := .append) (xs := #[.tmp 33, .tmp 35]) rfl ?_); at_builtin; refine Kd.R_append k162 (w0 := w0) w0.heap.size rfl (.tmp 33) (.tmp 35) 110 162 (.agg #[(.string ⟨#[]⟩), (.int .i64 0)]) 24 rfl Tryz.underlying110 info162 rfl (by decide) (by omega) u5 x5_1 (⟨a1_0, a1_1⟩ : S162) [.string a1_0, .int .i64 a1_1] (fun k_ => (P0_ k_ ∨ w.heap.size ≤ k_) ∧ some k_ ≠ (.slice Ao18 t161.length co18 : Value).ownBlock ∧ k_ ≠ gb160) (fun _ => False) rfl rfl ?aP (fun _ hk => hk.elim) ?aF ?aO ?aB ?aS ?aL ?_; (case aP => exact k162_mkM _ _ _ (⟨a1_0, a1_1⟩ : S162)); (case aB => exact (by repeat (first | (with_reducible first | exact HB.out | apply below_alloc | apply pw_below_drewN | apply below_drew1 | refine below_set ?_ GE160.out) | exact HB.out))); (case aF => exact (fun k_ hk => ⟨(.inr (Nat.le_trans (by first | exact HK.out.1 | exact (show Kept w _ (fun k_ => P0_ k_) from by repeat (first | (with_reducible first | exact HK.out | apply Kept.alloc | apply Kept.drewN | apply Kept.drew | refine Kept.setCell ?_ (.inr GW160.out) _) | exact HK.out)).1) hk)), Kd.fresh' (Kd.R_lt (by (with_reducible repeat (first | apply Kd.R_alloc | apply Kd.R_drewN | apply Kd.R_drew)); exact HO_0.out)) k_ hk, Kd.freshB (g := gb160) (o := .cells #[.string a1_0, .int .i64 a1_1] 162 (0, 0)) (by (with_reducible repeat (first | refine blk_drewN ?_ _ | refine blk_drew ?_ | refine blk_alloc ?_ _)); exact BK160.out) k_ hk⟩)); (case aO => exact (by (with_reducible repeat (first | apply Kd.R_alloc | apply Kd.R_drewN | apply Kd.R_drew)); exact HO_5.out)); (case aS => exact (below_size (by repeat (first | (with_reducible first | exact HB.out | apply below_alloc | apply pw_below_drewN | apply below_drew1 | refine below_set ?_ GE160.out) | exact HB.out)))); (case aL => have := LMc17.out; omega); intro v170 w20 ho hb hg hat; rw [← Ny169.out] at ho; have n0_ := Aside0.mk (Kd.R_after (ok := (fun k_ => (P0_ k_ ∨ w.heap.size ≤ k_) ∧ k_ ≠ gb160)) (by (with_reducible repeat (first | apply Kd.R_alloc | apply Kd.R_drewN | apply Kd.R_drew)); exact Kd.R_mono HO_0.out (fun _ hk => ⟨⟨hk.1, hk.2.2⟩, hk.2.1⟩)) hg hat); have n1_ := Aside0.mk (blk_grown (g := gb160) (o := .cells #[.string a1_0, .int .i64 a1_1] 162 (0, 0)) (by (with_reducible repeat (first | refine blk_drewN ?_ _ | refine blk_drew ?_ | refine blk_alloc ?_ _)); exact BK160.out) hg (Kd.R_away HO_5.out (fun _ hk => hk.2.2))); have n2_ := Aside0.mk (hb); have n3_ := Aside0.mk (Kept.of_grown (S := (fun k_ => P0_ k_)) hg (by repeat (first | (with_reducible first | exact HK.out | apply Kept.alloc | apply Kept.drewN | apply Kept.drew | refine Kept.setCell ?_ (.inr GW160.out) _) | exact HK.out)) (fun k_ e_ => (HO_5.out.1 k_ e_).1)); have n4_ := Aside0.mk (ho); clear HO_0; clear BK160; clear HB; clear HK; clear HO_5; have HO_0 := n0_; have BK160 := n1_; have HB := n2_; have HK := n3_; have HO171 := n4_; clear n0_ n1_ n2_ n3_ n4_; clear ho hb hg hat)))
     go_loopg [5, 7] k1 (fun kq v5 v7 w' => ∃ (x5_2 : List (S162)) (x7_2 : Int), v7 = .int .i64 x7_2 ∧ Aside0 (linhayref06_Put.l1 kq t161 x5_2 x7_2 a1_0 a1_1 = some r) ∧ Aside0 (kq ≤ k1) ∧ Aside0 (Kd.R k162 162 w' w0.heap.size (fun k_ => (P0_ k_ ∨ w.heap.size ≤ k_) ∧ some k_ ≠ (v5 : Value).ownBlock ∧ k_ ≠ gb160) (.slice Ao18 t161.length co18) t161) ∧ Aside0 (Kd.R k162 162 w' w0.heap.size (fun k_ => (P0_ k_ ∨ w.heap.size ≤ k_) ∧ some k_ ≠ ((.slice Ao18 t161.length co18) : Value).ownBlock ∧ k_ ≠ gb160) v5 x5_2) ∧ Aside0 (w'.heap[gb160]? = some (.cells #[.string a1_0, .int .i64 a1_1] 162 (0, 0))) ∧ Aside0 (Kept w w' (fun k_ => P0_ k_)) ∧ Aside0 (Below w0.heap.size w0 w'))
     case atStart => exact ⟨(y169), (0), (by first | rfl | (simp; done) | (simp [*]; done) | (simp [bne_nil]; done)), H', ⟨Nat.le_refl _⟩, ⟨by (with_reducible repeat (first | apply Kd.R_alloc | apply Kd.R_drewN | apply Kd.R_drew)); exact Kd.R_mono HO_0.out (fun _ hk => ⟨hk.1.1, ⟨hk.2, hk.1.2⟩⟩)⟩, ⟨by (with_reducible repeat (first | apply Kd.R_alloc | apply Kd.R_drewN | apply Kd.R_drew)); first | exact HO171.out | exact own_cut HO171.out⟩, ⟨by (with_reducible repeat (first | refine blk_drewN ?_ _ | refine blk_drew ?_ | refine blk_alloc ?_ _)); exact BK160.out⟩, ⟨by repeat (first | (with_reducible first | exact HK.out | apply Kept.alloc | apply Kept.drewN | apply Kept.drew | refine Kept.setCell ?_ (.inr GW160.out) _) | exact HK.out)⟩, ⟨by repeat (first | (with_reducible first | exact HB.out | apply below_alloc | apply pw_below_drewN | apply below_drew1 | refine below_set ?_ GE160.out) | exact HB.out)⟩⟩
     case round =>
      clear H'
      try clear c1
      try clear p1
      try clear q1
      try clear hx1
      try clear p2
      try clear p6
      try clear c8
      try clear c8b0
      try clear c9
      try clear c9b0
      try clear c10
      try clear c10b0
      try clear c11
      try clear p16
      try clear q16
      try clear hx16
      try clear c17
      try clear hcz13_0
      try clear hcz13_1
      try clear hcz16_0
      try clear hcz16_1
      try clear hcz19_0
      try clear hcz19_1
      try clear hcz5_0
      try clear hcz5_1
      try clear hfz13_0
      try clear hfz13_1
      try clear hfz16_0
      try clear hfz16_1
      try clear hfz19_0
      try clear hfz19_1
      try clear hfz5_0
      try clear hfz5_1
      try clear hx164_0
      try clear hx164_1
      try clear hx165_0
      try clear hx165_1
      try clear p164
      try clear p165
      try clear p2
      try clear q164
      try clear q165
      obtain ⟨x5_2, x7_2, rfl, HA, HK2, HO_0, HO_5, BK160, HK, HB⟩ := hrel
      cases gk with
      | zero => exact absurd HA.out (by simp [linhayref06_Put.l1])
      | succ k2 =>
       have H := HA.out
       clear HA
       simp only [linhayref06_Put.l1] at H
       by_cases c21 : x7_2 < (t161.length : Int)
       ·
        rw [if_pos c21] at H
        have c21b0 : decide (x7_2 < (t161.length : Int)) = true := decide_eq_true c21
        clear c21
        by_cases c22 : 0 ≤ x7_2
        ·
         rw [if_pos c22] at H
         have c22b0 : decide (0 ≤ x7_2) = true := decide_eq_true c22
         clear c22
         by_cases c23 : (Op.bytesLess a1_0.toList (((rd_T162 t161 x7_2).f0).toList)) = true
         ·
          rw [if_pos c23] at H
          have c23b0 : (Op.bytesLess a1_0.toList (((rd_T162 t161 x7_2).f0).toList)) = true := c23
          (try (have c23L1 : Op.bytesLess (((rd_T162 t161 x7_2).f0).toList) a1_0.toList = false := less_asym _ _ c23b0; have c23L2 : ((((rd_T162 t161 x7_2).f0).toList) == a1_0.toList) = false := less_flip c23b0))
          clear c23
          by_cases c24 : x5_2.length < 5864062014805
          ·
           rw [if_pos c24] at H
           have LMc24 := Aside0.mk c24
           clear c24
           obtain ⟨y174, hy174⟩ : ∃ y_ : List (S162), y_ = (x5_2 ++ [(⟨(rd_T162 t161 x7_2).f0, (rd_T162 t161 x7_2).f1⟩ : S162)]) := ⟨_, rfl⟩
           replace H : (linhayref06_Put.l1 k2 t161 y174 (wrap64 (x7_2 + 1)) a1_0 a1_1) = some r := by first | (rw [hy174]; with_reducible exact H) | (have H2_ := (Option.bind_some _ _).symm.trans H; rw [hy174]; with_reducible exact H2_) | (have H2_ := (Option.bind_some _ _).symm.trans H; with_reducible exact H2_) | with_reducible exact H | (rw [hy174]; exact H) | exact H
           have Ny174 := Aside0.mk hy174
           clear hy174
           have H' := Aside0.mk H
           clear H
           have p172 : 0 ≤ (x7_2 : Int) := of_decide_eq_true (by first | (with_reducible assumption) | assumption)
           have q172 : x7_2 < (t161.length : Int) := of_decide_eq_true (by first | (with_reducible assumption) | assumption)
           obtain ⟨ad172, e172, hx172_0, hx172_1⟩ := at_T162 (Kd.R_reads' HO_0.out).2.2 x7_2 p172 q172
           cases e172
           replace p172 := eq_true p172
           replace q172 := eq_true q172
           have hcz25_0 : wr.cell? ⟨gb160, 0, none⟩ = some (.string a1_0) := (blk_cell BK160.out 0).trans rfl
           have hcz25_1 : wr.cell? ⟨gb160, 1, none⟩ = some (.int .i64 a1_1) := (blk_cell BK160.out 1).trans rfl
           have hfz25_0 := blk_frozen BK160.out 0
           have hfz25_1 := blk_frozen BK160.out 1
           have p173 : 0 ≤ (x7_2 : Int) := of_decide_eq_true (by first | (with_reducible assumption) | assumption)
           have q173 : x7_2 < (t161.length : Int) := of_decide_eq_true (by first | (with_reducible assumption) | assumption)
           obtain ⟨ad173, e173, hx173_0, hx173_1⟩ := at_T162 (Kd.R_reads' HO_0.out).2.2 x7_2 p173 q173
           obtain rfl : ad172 = ad173 := (by injection e173)
           replace p173 := eq_true p173
           replace q173 := eq_true q173
           go_wp2_with (first | ((with_reducible refine gate_builtin (b := .append) (xs := #[.tmp 51, .tmp 56]) rfl ?_); at_builtin; refine Kd.R_append k162 (w0 := w0) w0.heap.size rfl (.tmp 51) (.tmp 56) 110 162 (.agg #[(.string ⟨#[]⟩), (.int .i64 0)]) 24 rfl Tryz.underlying110 info162 rfl (by decide) (by omega) u5 x5_2 (⟨(rd_T162 t161 x7_2).f0, (rd_T162 t161 x7_2).f1⟩ : S162) [.string ((rd_T162 t161 x7_2).f0), .int .i64 ((rd_T162 t161 x7_2).f1)] (fun k_ => (P0_ k_ ∨ w.heap.size ≤ k_) ∧ some k_ ≠ (.slice (some ad172) t161.length co18 : Value).ownBlock ∧ k_ ≠ gb160) (fun _ => False) rfl rfl ?aP (fun _ hk => hk.elim) ?aF ?aO ?aB ?aS ?aL ?_; (case aP => exact k162_mkM _ _ _ (⟨(rd_T162 t161 x7_2).f0, (rd_T162 t161 x7_2).f1⟩ : S162)); (case aB => exact (by repeat (first | (with_reducible first | exact HB.out | apply below_alloc | apply pw_below_drewN | apply below_drew1 | refine below_set ?_ GE160.out) | exact HB.out))); (case aF => exact (fun k_ hk => ⟨(.inr (Nat.le_trans (by first | exact HK.out.1 | exact (show Kept w _ (fun k_ => P0_ k_) from by repeat (first | (with_reducible first | exact HK.out | apply Kept.alloc | apply Kept.drewN | apply Kept.drew | refine Kept.setCell ?_ (.inr GW160.out) _) | exact HK.out)).1) hk)), Kd.fresh' (Kd.R_lt (by (with_reducible repeat (first | apply Kd.R_alloc | apply Kd.R_drewN | apply Kd.R_drew)); exact HO_0.out)) k_ hk, Kd.freshB (g := gb160) (o := .cells #[.string a1_0, .int .i64 a1_1] 162 (0, 0)) (by (with_reducible repeat (first | refine blk_drewN ?_ _ | refine blk_drew ?_ | refine blk_alloc ?_ _)); exact BK160.out) k_ hk⟩)); (case aO => exact (by (with_reducible repeat (first | apply Kd.R_alloc | apply Kd.R_drewN | apply Kd.R_drew)); exact HO_5.out)); (case aS => exact (below_size (by repeat (first | (with_reducible first | exact HB.out | apply below_alloc | apply pw_below_drewN | apply below_drew1 | refine below_set ?_ GE160.out) | exact HB.out)))); (case aL => have := LMc24.out; omega); intro v175 w26 ho hb hg hat; rw [← Ny174.out] at ho; have n0_ := Aside0.mk (Kd.R_after (ok := (fun k_ => (P0_ k_ ∨ w.heap.size ≤ k_) ∧ k_ ≠ gb160)) (by (with_reducible repeat (first | apply Kd.R_alloc | apply Kd.R_drewN | apply Kd.R_drew)); exact Kd.R_mono HO_0.out (fun _ hk => ⟨⟨hk.1, hk.2.2⟩, hk.2.1⟩)) hg hat); have n1_ := Aside0.mk (blk_grown (g := gb160) (o := .cells #[.string a1_0, .int .i64 a1_1] 162 (0, 0)) (by (with_reducible repeat (first | refine blk_drewN ?_ _ | refine blk_drew ?_ | refine blk_alloc ?_ _)); exact BK160.out) hg (Kd.R_away HO_5.out (fun _ hk => hk.2.2))); have n2_ := Aside0.mk (hb); have n3_ := Aside0.mk (Kept.of_grown (S := (fun k_ => P0_ k_)) hg (by repeat (first | (with_reducible first | exact HK.out | apply Kept.alloc | apply Kept.drewN | apply Kept.drew | refine Kept.setCell ?_ (.inr GW160.out) _) | exact HK.out)) (fun k_ e_ => (HO_5.out.1 k_ e_).1)); have n4_ := Aside0.mk (ho); clear HO_0; clear BK160; clear HB; clear HK; clear HO_5; have HO_0 := n0_; have BK160 := n1_; have HB := n2_; have HK := n3_; have HO176 := n4_; clear n0_ n1_ n2_ n3_ n4_; clear ho hb hg hat))
           repeat (go_quiet (first | ((with_reducible refine gate_builtin (b := .append) (xs := #[.tmp 51, .tmp 56]) rfl ?_); at_builtin; refine Kd.R_append k162 (w0 := w0) w0.heap.size rfl (.tmp 51) (.tmp 56) 110 162 (.agg #[(.string ⟨#[]⟩), (.int .i64 0)]) 24 rfl Tryz.underlying110 info162 rfl (by decide) (by omega) u5 x5_2 (⟨(rd_T162 t161 x7_2).f0, (rd_T162 t161 x7_2).f1⟩ : S162) [.string ((rd_T162 t161 x7_2).f0), .int .i64 ((rd_T162 t161 x7_2).f1)] (fun k_ => (P0_ k_ ∨ w.heap.size ≤ k_) ∧ some k_ ≠ (.slice (some ad172) t161.length co18 : Value).ownBlock ∧ k_ ≠ gb160) (fun _ => False) rfl rfl ?aP (fun _ hk => hk.elim) ?aF ?aO ?aB ?aS ?aL ?_; (case aP => exact k162_mkM _ _ _ (⟨(rd_T162 t161 x7_2).f0, (rd_T162 t161 x7_2).f1⟩ : S162)); (case aB => exact (by repeat (first | (with_reducible first | exact HB.out | apply below_alloc | apply pw_below_drewN | apply below_drew1 | refine below_set ?_ GE160.out) | exact HB.out))); (case aF => exact (fun k_ hk => ⟨(.inr (Nat.le_trans (by first | exact HK.out.1 | exact (show Kept w _ (fun k_ => P0_ k_) from by repeat (first | (with_reducible first | exact HK.out | apply Kept.alloc | apply Kept.drewN | apply Kept.drew | refine Kept.setCell ?_ (.inr GW160.out) _) | exact HK.out)).1) hk)), Kd.fresh' (Kd.R_lt (by (with_reducible repeat (first | apply Kd.R_alloc | apply Kd.R_drewN | apply Kd.R_drew)); exact HO_0.out)) k_ hk, Kd.freshB (g := gb160) (o := .cells #[.string a1_0, .int .i64 a1_1] 162 (0, 0)) (by (with_reducible repeat (first | refine blk_drewN ?_ _ | refine blk_drew ?_ | refine blk_alloc ?_ _)); exact BK160.out) k_ hk⟩)); (case aO => exact (by (with_reducible repeat (first | apply Kd.R_alloc | apply Kd.R_drewN | apply Kd.R_drew)); exact HO_5.out)); (case aS => exact (below_size (by repeat (first | (with_reducible first | exact HB.out | apply below_alloc | apply pw_below_drewN | apply below_drew1 | refine below_set ?_ GE160.out) | exact HB.out)))); (case aL => have := LMc24.out; omega); intro v175 w26 ho hb hg hat; rw [← Ny174.out] at ho; have n0_ := Aside0.mk (Kd.R_after (ok := (fun k_ => (P0_ k_ ∨ w.heap.size ≤ k_) ∧ k_ ≠ gb160)) (by (with_reducible repeat (first | apply Kd.R_alloc | apply Kd.R_drewN | apply Kd.R_drew)); exact Kd.R_mono HO_0.out (fun _ hk => ⟨⟨hk.1, hk.2.2⟩, hk.2.1⟩)) hg hat); have n1_ := Aside0.mk (blk_grown (g := gb160) (o := .cells #[.string a1_0, .int .i64 a1_1] 162 (0, 0)) (by (with_reducible repeat (first | refine blk_drewN ?_ _ | refine blk_drew ?_ | refine blk_alloc ?_ _)); exact BK160.out) hg (Kd.R_away HO_5.out (fun _ hk => hk.2.2))); have n2_ := Aside0.mk (hb); have n3_ := Aside0.mk (Kept.of_grown (S := (fun k_ => P0_ k_)) hg (by repeat (first | (with_reducible first | exact HK.out | apply Kept.alloc | apply Kept.drewN | apply Kept.drew | refine Kept.setCell ?_ (.inr GW160.out) _) | exact HK.out)) (fun k_ e_ => (HO_5.out.1 k_ e_).1)); have n4_ := Aside0.mk (ho); clear HO_0; clear BK160; clear HB; clear HK; clear HO_5; have HO_0 := n0_; have BK160 := n1_; have HB := n2_; have HK := n3_; have HO176 := n4_; clear n0_ n1_ n2_ n3_ n4_; clear ho hb hg hat)); try go_wp2_with (first | ((with_reducible refine gate_builtin (b := .append) (xs := #[.tmp 51, .tmp 56]) rfl ?_); at_builtin; refine Kd.R_append k162 (w0 := w0) w0.heap.size rfl (.tmp 51) (.tmp 56) 110 162 (.agg #[(.string ⟨#[]⟩), (.int .i64 0)]) 24 rfl Tryz.underlying110 info162 rfl (by decide) (by omega) u5 x5_2 (⟨(rd_T162 t161 x7_2).f0, (rd_T162 t161 x7_2).f1⟩ : S162) [.string ((rd_T162 t161 x7_2).f0), .int .i64 ((rd_T162 t161 x7_2).f1)] (fun k_ => (P0_ k_ ∨ w.heap.size ≤ k_) ∧ some k_ ≠ (.slice (some ad172) t161.length co18 : Value).ownBlock ∧ k_ ≠ gb160) (fun _ => False) rfl rfl ?aP (fun _ hk => hk.elim) ?aF ?aO ?aB ?aS ?aL ?_; (case aP => exact k162_mkM _ _ _ (⟨(rd_T162 t161 x7_2).f0, (rd_T162 t161 x7_2).f1⟩ : S162)); (case aB => exact (by repeat (first | (with_reducible first | exact HB.out | apply below_alloc | apply pw_below_drewN | apply below_drew1 | refine below_set ?_ GE160.out) | exact HB.out))); (case aF => exact (fun k_ hk => ⟨(.inr (Nat.le_trans (by first | exact HK.out.1 | exact (show Kept w _ (fun k_ => P0_ k_) from by repeat (first | (with_reducible first | exact HK.out | apply Kept.alloc | apply Kept.drewN | apply Kept.drew | refine Kept.setCell ?_ (.inr GW160.out) _) | exact HK.out)).1) hk)), Kd.fresh' (Kd.R_lt (by (with_reducible repeat (first | apply Kd.R_alloc | apply Kd.R_drewN | apply Kd.R_drew)); exact HO_0.out)) k_ hk, Kd.freshB (g := gb160) (o := .cells #[.string a1_0, .int .i64 a1_1] 162 (0, 0)) (by (with_reducible repeat (first | refine blk_drewN ?_ _ | refine blk_drew ?_ | refine blk_alloc ?_ _)); exact BK160.out) k_ hk⟩)); (case aO => exact (by (with_reducible repeat (first | apply Kd.R_alloc | apply Kd.R_drewN | apply Kd.R_drew)); exact HO_5.out)); (case aS => exact (below_size (by repeat (first | (with_reducible first | exact HB.out | apply below_alloc | apply pw_below_drewN | apply below_drew1 | refine below_set ?_ GE160.out) | exact HB.out)))); (case aL => have := LMc24.out; omega); intro v175 w26 ho hb hg hat; rw [← Ny174.out] at ho; have n0_ := Aside0.mk (Kd.R_after (ok := (fun k_ => (P0_ k_ ∨ w.heap.size ≤ k_) ∧ k_ ≠ gb160)) (by (with_reducible repeat (first | apply Kd.R_alloc | apply Kd.R_drewN | apply Kd.R_drew)); exact Kd.R_mono HO_0.out (fun _ hk => ⟨⟨hk.1, hk.2.2⟩, hk.2.1⟩)) hg hat); have n1_ := Aside0.mk (blk_grown (g := gb160) (o := .cells #[.string a1_0, .int .i64 a1_1] 162 (0, 0)) (by (with_reducible repeat (first | refine blk_drewN ?_ _ | refine blk_drew ?_ | refine blk_alloc ?_ _)); exact BK160.out) hg (Kd.R_away HO_5.out (fun _ hk => hk.2.2))); have n2_ := Aside0.mk (hb); have n3_ := Aside0.mk (Kept.of_grown (S := (fun k_ => P0_ k_)) hg (by repeat (first | (with_reducible first | exact HK.out | apply Kept.alloc | apply Kept.drewN | apply Kept.drew | refine Kept.setCell ?_ (.inr GW160.out) _) | exact HK.out)) (fun k_ e_ => (HO_5.out.1 k_ e_).1)); have n4_ := Aside0.mk (ho); clear HO_0; clear BK160; clear HB; clear HK; clear HO_5; have HO_0 := n0_; have BK160 := n1_; have HB := n2_; have HK := n3_; have HO176 := n4_; clear n0_ n1_ n2_ n3_ n4_; clear ho hb hg hat)))
           go_roundg k2
           case measure => have := HK1.out; have := HK2.out; omega
           case rel => exact ⟨(y174), (wrap64 (x7_2 + 1)), (by first | rfl | (simp; done) | (simp [*]; done) | (simp [bne_nil]; done)), H', ⟨by have := HK1.out; have := HK2.out; omega⟩, ⟨by (with_reducible repeat (first | apply Kd.R_alloc | apply Kd.R_drewN | apply Kd.R_drew)); exact Kd.R_mono HO_0.out (fun _ hk => ⟨hk.1.1, ⟨hk.2, hk.1.2⟩⟩)⟩, ⟨by (with_reducible repeat (first | apply Kd.R_alloc | apply Kd.R_drewN | apply Kd.R_drew)); first | exact HO176.out | exact own_cut HO176.out⟩, ⟨by (with_reducible repeat (first | refine blk_drewN ?_ _ | refine blk_drew ?_ | refine blk_alloc ?_ _)); exact BK160.out⟩, ⟨by repeat (first | (with_reducible first | exact HK.out | apply Kept.alloc | apply Kept.drewN | apply Kept.drew | refine Kept.setCell ?_ (.inr GW160.out) _) | exact HK.out)⟩, ⟨by repeat (first | (with_reducible first | exact HB.out | apply below_alloc | apply pw_below_drewN | apply below_drew1 | refine below_set ?_ GE160.out) | exact HB.out)⟩⟩
          ·
           rw [if_neg c24] at H
           exact absurd H (by simp)
         ·
          rw [if_neg c23] at H
          have c23b0 : (Op.bytesLess a1_0.toList (((rd_T162 t161 x7_2).f0).toList)) = false := by simpa using c23
          (try (have c23L1 : (Op.bytesLess (((rd_T162 t161 x7_2).f0).toList) a1_0.toList || (((rd_T162 t161 x7_2).f0).toList) == a1_0.toList) = true := less_tot _ _ c23b0))
          clear c23
          have H' := Aside0.mk H
          clear H
          have p172 : 0 ≤ (x7_2 : Int) := of_decide_eq_true (by first | (with_reducible assumption) | assumption)
          have q172 : x7_2 < (t161.length : Int) := of_decide_eq_true (by first | (with_reducible assumption) | assumption)
          obtain ⟨ad172, e172, hx172_0, hx172_1⟩ := at_T162 (Kd.R_reads' HO_0.out).2.2 x7_2 p172 q172
          cases e172
          replace p172 := eq_true p172
          replace q172 := eq_true q172
          have hcz27_0 : wr.cell? ⟨gb160, 0, none⟩ = some (.string a1_0) := (blk_cell BK160.out 0).trans rfl
          have hcz27_1 : wr.cell? ⟨gb160, 1, none⟩ = some (.int .i64 a1_1) := (blk_cell BK160.out 1).trans rfl
          have hfz27_0 := blk_frozen BK160.out 0
          have hfz27_1 := blk_frozen BK160.out 1
          go_wp2
          repeat (go_quiet (fail); try go_wp2)
          go_roundg k2
          case measure => have := HK1.out; have := HK2.out; omega
          case rel => exact ⟨(x5_2), (wrap64 (x7_2 + 1)), (by first | rfl | (simp; done) | (simp [*]; done) | (simp [bne_nil]; done)), H', ⟨by have := HK1.out; have := HK2.out; omega⟩, ⟨by (with_reducible repeat (first | apply Kd.R_alloc | apply Kd.R_drewN | apply Kd.R_drew)); first | exact HO_0.out | exact own_cut HO_0.out⟩, ⟨by (with_reducible repeat (first | apply Kd.R_alloc | apply Kd.R_drewN | apply Kd.R_drew)); first | exact HO_5.out | exact own_cut HO_5.out⟩, ⟨by (with_reducible repeat (first | refine blk_drewN ?_ _ | refine blk_drew ?_ | refine blk_alloc ?_ _)); exact BK160.out⟩, ⟨by repeat (first | (with_reducible first | exact HK.out | apply Kept.alloc | apply Kept.drewN | apply Kept.drew | refine Kept.setCell ?_ (.inr GW160.out) _) | exact HK.out)⟩, ⟨by repeat (first | (with_reducible first | exact HB.out | apply below_alloc | apply pw_below_drewN | apply below_drew1 | refine below_set ?_ GE160.out) | exact HB.out)⟩⟩
        ·
         rw [if_neg c22] at H
         exact absurd H (by simp)
       ·
        rw [if_neg c21] at H
        have c21b0 : decide (x7_2 < (t161.length : Int)) = false := decide_eq_false c21
        clear c21
        obtain rfl := Option.some.inj H
        go_wp2
        repeat (go_quiet (fail); try go_wp2)
        go_ret
        exact ⟨_, by first | rfl | (simp [errW_none, errW_some] <;> rfl) | (simp [*, errW_none, errW_some] <;> rfl) | (simp [errW_none, errW_some, bne_nil]; done) | (simp [*, bne_nil]; done) | (simp [bne]; done), by (with_reducible repeat (first | apply Kd.R_alloc | apply Kd.R_drewN | apply Kd.R_drew)); exact Kd.R_mono HO_5.out (fun _ hk => hk.1), by repeat (first | (with_reducible first | exact HB.out | apply below_alloc | apply pw_below_drewN | apply below_drew1 | refine below_set ?_ GE160.out) | exact HB.out), by repeat (first | (with_reducible first | exact HK.out | apply Kept.alloc | apply Kept.drewN | apply Kept.drew | refine Kept.setCell ?_ (.inr GW160.out) _) | exact HK.out)⟩
    ·
     rw [if_neg c17] at H
     exact absurd H (by simp)

def linhayref07_List.l0 : Nat → Int → List (S162) → Int → List (S106) → Int → Option ((List (S162)))
 | 0, _, _, _, _, _ => none
 | k + 1, x1, x5, x6, x178000, x178001 => if x6 < (x178000.length : Int) then (if 0 ≤ x6 then (if ((rd_T106 x178000 x6).f1) = x1 then (if ((rd_T106 x178000 x6).f0) = 1 then (linhayref07_List.l0 k x1 x5 (wrap64 (x6 + 1)) x178000 x178001) else ((linhayref06_Put.f k x5 ((rd_T106 x178000 x6).f2) ((rd_T106 x178000 x6).f0)).bind fun t182 => (linhayref07_List.l0 k x1 t182 (wrap64 (x6 + 1)) x178000 x178001))) else (linhayref07_List.l0 k x1 x5 (wrap64 (x6 + 1)) x178000 x178001)) else (none)) else (some x5)
def linhayref07_List.f (k : Nat) (l0_0 : List (S106)) (a0_1 : Int) (a1 : Int) : Option ((List (S162))) := linhayref07_List.l0 k a1 ([] : List (S162)) 0 l0_0 a0_1
def linhayref07_List.T6 : Bool × List (List Nat × List Nat) := (true, [([], []), ([], []), ([1], [1]), ([], []), ([2, 3], [2, 3]), ([4], [4]), ([5], [5]), ([], []), ([7], [7]), ([], []), ([8, 9], [8, 9]), ([10], [10]), ([11], [11]), ([6, 12], [6, 12]), ([0, 13], [0, 13]), ([14, 14, 0, 1, 2, 3, 4, 5, 6, 7, 8, 9, 10, 11, 12, 13, 14], [0, 14])])
def linhayref07_List.B6 : List Nat := [0, 0, 2, 0, 14, 30, 62, 0, 128, 0, 896, 1920, 3968, 8190, 16383, 32767]
theorem linhayref07_List.tab6 : rtab .any (opsOf Tryz.f72 6) = linhayref07_List.T6 := by kernel_rfl
theorem linhayref07_List.bits6 : waitsOk linhayref07_List.T6.2 linhayref07_List.B6 = true := by kernel_rfl
set_option maxHeartbeats 8000000 in
set_option maxRecDepth 100000 in
theorem linhayref07_List.calls (k : Nat) (A0_0 : Option Addr) (c0_0 : Nat) (l0_0 : List (S106)) (a0_1 : Int) (a1 : Int) (r : List (S162)) (w : World) (hr0_0 : Kd.C k106 w A0_0 l0_0.length l0_0) (hc0_0 : l0_0.length ≤ c0_0) (h : linhayref07_List.f k l0_0 a0_1 a1 = some r) :
  Calls Tryz.prog 72 #[.agg #[.slice A0_0 l0_0.length c0_0, .int .i64 a0_1], .int .i64 a1] w fun e w' => ∃ v0_ : Value, e = .returned (v0_) ∧ Kd.R k162 162 w' w.heap.size (fun _ => True) v0_ r ∧ Below w.heap.size w w' := by
 have hu36 := Tryz.underlying36
 have hu49 := Tryz.underlying49
 have hu66 := Tryz.underlying66
 have hu93 := Tryz.underlying93
 have hu106 := Tryz.underlying106
 have hu115 := Tryz.underlying115
 have hu130 := Tryz.underlying130
 have hu30 := Tryz.underlying30
 have hu162 := Tryz.underlying162
 have HR0_0 := Aside0.mk hr0_0
 have HC0_0 := Aside0.mk hc0_0
 clear hr0_0 hc0_0
 have HB := Aside0.mk (Below.refl w.heap.size w)
 have H : (linhayref07_List.l0 k a1 ([] : List (S162)) 0 l0_0 a0_1) = some r := h
 clear h
 have H' := Aside0.mk H
 clear H
 go_enter Tryz.func72, Tryz.ntmps72
 go_wp2_with (first | ((with_reducible refine gate_dst (N := 2) rfl ?_); refine box_event ?hg (N := 2) ?hd (cs := #[.slice A0_0 l0_0.length c0_0, .int .i64 a0_1]) (t := 30) ?hr ?_; (case hd => rfl); (case hg => rfl); (case hr => first | (go_simp; done) | (go_simp; rfl)); intro gb177 hg w3 hbox hb; have n0_ := Aside0.mk (below_step (by repeat (first | (with_reducible first | exact HB.out | apply below_alloc | apply pw_below_drewN | apply below_drew1) | exact HB.out)) hb); have n1_ := Aside0.mk (hbox); have n2_ := Aside0.mk ((by rw [hg]; exact (below_size (by repeat (first | (with_reducible first | exact HB.out | apply below_alloc | apply pw_below_drewN | apply below_drew1) | exact HB.out))) : w.heap.size ≤ gb177)); have n3_ := Aside0.mk ((by rw [hg]; exact (below_size (by repeat (first | (with_reducible first | exact HB.out | apply below_alloc | apply pw_below_drewN | apply below_drew1) | exact HB.out))) : w.heap.size ≤ gb177)); clear HB; have HB := n0_; have BK177 := n1_; have GW177 := n2_; have GE177 := n3_; clear n0_ n1_ n2_ n3_; clear hb hbox hg))
 go_loopg [5, 6] k (fun kq v5 v6 w' => ∃ (x5_1 : List (S162)) (x6_1 : Int), v6 = .int .i64 x6_1 ∧ Aside0 (linhayref07_List.l0 kq a1 x5_1 x6_1 l0_0 a0_1 = some r) ∧ Aside0 (kq ≤ k) ∧ Aside0 (Kd.R k162 162 w' w.heap.size (fun _ => True) v5 x5_1) ∧ Aside0 (w'.heap[gb177]? = some (.cells #[(.slice A0_0 l0_0.length c0_0), .int .i64 a0_1] 30 (0, 0))) ∧ Aside0 (Below w.heap.size w w'))
 case atStart => exact ⟨(([] : List (S162))), (0), (by first | rfl | (simp; done) | (simp [*]; done) | (simp [bne_nil]; done)), H', ⟨Nat.le_refl _⟩, ⟨by first | exact Kd.R_nil _ _ _ _ _ | exact Kd.N_nil _ _ _ _ _ | exact Kd.V_nil _ _ _ _ _ | exact Kd.Q_nil _ _ _ _ _ | exact Kd.S_nil _ _ _ _ _⟩, ⟨by (with_reducible repeat (first | refine blk_drewN ?_ _ | refine blk_drew ?_ | refine blk_alloc ?_ _)); exact BK177.out⟩, ⟨by repeat (first | (with_reducible first | exact HB.out | apply below_alloc | apply pw_below_drewN | apply below_drew1 | refine below_set ?_ GE177.out) | exact HB.out)⟩⟩
 case round =>
  clear H'
  try clear p2
  obtain ⟨x5_1, x6_1, rfl, HA, HK1, HO_5, BK177, HB⟩ := hrel
  cases gk with
  | zero => exact absurd HA.out (by simp [linhayref07_List.l0])
  | succ k1 =>
   have H := HA.out
   clear HA
   simp only [linhayref07_List.l0] at H
   by_cases c4 : x6_1 < (l0_0.length : Int)
   ·
    rw [if_pos c4] at H
    have c4b0 : decide (x6_1 < (l0_0.length : Int)) = true := decide_eq_true c4
    clear c4
    by_cases c5 : 0 ≤ x6_1
    ·
     rw [if_pos c5] at H
     have c5b0 : decide (0 ≤ x6_1) = true := decide_eq_true c5
     clear c5
     by_cases c6 : ((rd_T106 l0_0 x6_1).f1) = a1
     ·
      rw [if_pos c6] at H
      have c6b0 : (((rd_T106 l0_0 x6_1).f1) == a1) = true := beq_iff_eq.mpr c6
      have c6b1 : (((rd_T106 l0_0 x6_1).f1) != a1) = false := bne_eq_false_iff_eq.mpr c6
      clear c6
      by_cases c7 : ((rd_T106 l0_0 x6_1).f0) = 1
      ·
       rw [if_pos c7] at H
       have c7b0 : (((rd_T106 l0_0 x6_1).f0) == 1) = true := beq_iff_eq.mpr c7
       have c7b1 : (((rd_T106 l0_0 x6_1).f0) != 1) = false := bne_eq_false_iff_eq.mpr c7
       clear c7
       have H' := Aside0.mk H
       clear H
       have hcz8_0 : wr.cell? ⟨gb177, 0, none⟩ = some (.slice A0_0 l0_0.length c0_0) := (blk_cell BK177.out 0).trans rfl
       have hcz8_1 : wr.cell? ⟨gb177, 1, none⟩ = some (.int .i64 a0_1) := (blk_cell BK177.out 1).trans rfl
       have hfz8_0 := blk_frozen BK177.out 0
       have hfz8_1 := blk_frozen BK177.out 1
       have p178 : 0 ≤ (x6_1 : Int) := of_decide_eq_true (by first | (with_reducible assumption) | assumption)
       have q178 : x6_1 < (l0_0.length : Int) := of_decide_eq_true (by first | (with_reducible assumption) | assumption)
       obtain ⟨ad178, e178, hx178_0, hx178_1, hx178_2, hx178_3, hx178_4⟩ := at_T106 HR0_0.out x6_1 p178 q178
       cases e178
       replace hx178_0 := (HB.out.cell (World.block_lt_of_cell? w _ hx178_0)).trans hx178_0
       replace hx178_1 := (HB.out.cell (World.block_lt_of_cell? w _ hx178_1)).trans hx178_1
       replace hx178_2 := (HB.out.cell (World.block_lt_of_cell? w _ hx178_2)).trans hx178_2
       replace hx178_3 := (HB.out.cell (World.block_lt_of_cell? w _ hx178_3)).trans hx178_3
       replace hx178_4 := (HB.out.cell (World.block_lt_of_cell? w _ hx178_4)).trans hx178_4
       replace p178 := eq_true p178
       replace q178 := eq_true q178
       have p179 : 0 ≤ (x6_1 : Int) := of_decide_eq_true (by first | (with_reducible assumption) | assumption)
       have q179 : x6_1 < (l0_0.length : Int) := of_decide_eq_true (by first | (with_reducible assumption) | assumption)
       obtain ⟨ad179, e179, hx179_0, hx179_1, hx179_2, hx179_3, hx179_4⟩ := at_T106 HR0_0.out x6_1 p179 q179
       obtain rfl : ad178 = ad179 := (by injection e179)
       replace hx179_0 := (HB.out.cell (World.block_lt_of_cell? w _ hx179_0)).trans hx179_0
       replace hx179_1 := (HB.out.cell (World.block_lt_of_cell? w _ hx179_1)).trans hx179_1
       replace hx179_2 := (HB.out.cell (World.block_lt_of_cell? w _ hx179_2)).trans hx179_2
       replace hx179_3 := (HB.out.cell (World.block_lt_of_cell? w _ hx179_3)).trans hx179_3
       replace hx179_4 := (HB.out.cell (World.block_lt_of_cell? w _ hx179_4)).trans hx179_4
       replace p179 := eq_true p179
       replace q179 := eq_true q179
       go_wp2
       go_roundg k1
       case measure => have := HK1.out; omega
       case rel => exact ⟨(x5_1), (wrap64 (x6_1 + 1)), (by first | rfl | (simp; done) | (simp [*]; done) | (simp [bne_nil]; done)), H', ⟨by have := HK1.out; omega⟩, ⟨by (with_reducible repeat (first | apply Kd.R_alloc | apply Kd.R_drewN | apply Kd.R_drew)); first | exact HO_5.out | exact own_cut HO_5.out⟩, ⟨by (with_reducible repeat (first | refine blk_drewN ?_ _ | refine blk_drew ?_ | refine blk_alloc ?_ _)); exact BK177.out⟩, ⟨by repeat (first | (with_reducible first | exact HB.out | apply below_alloc | apply pw_below_drewN | apply below_drew1 | refine below_set ?_ GE177.out) | exact HB.out)⟩⟩
      ·
       rw [if_neg c7] at H
       have c7b0 : (((rd_T106 l0_0 x6_1).f0) == 1) = false := beq_eq_false_iff_ne.mpr c7
       have c7b1 : (((rd_T106 l0_0 x6_1).f0) != 1) = true := bne_iff_ne.mpr c7
       replace H := Option.bind_eq_some_iff.mp H
       obtain ⟨t182, A90, H⟩ := H
       replace H : (linhayref07_List.l0 k1 a1 t182 (wrap64 (x6_1 + 1)) l0_0 a0_1) = some r := H
       have A9 := Aside0.mk A90
       clear A90
       have H' := Aside0.mk H
       clear H
       have hcz10_0 : wr.cell? ⟨gb177, 0, none⟩ = some (.slice A0_0 l0_0.length c0_0) := (blk_cell BK177.out 0).trans rfl
       have hcz10_1 : wr.cell? ⟨gb177, 1, none⟩ = some (.int .i64 a0_1) := (blk_cell BK177.out 1).trans rfl
       have hfz10_0 := blk_frozen BK177.out 0
       have hfz10_1 := blk_frozen BK177.out 1
       have p178 : 0 ≤ (x6_1 : Int) := of_decide_eq_true (by first | (with_reducible assumption) | assumption)
       have q178 : x6_1 < (l0_0.length : Int) := of_decide_eq_true (by first | (with_reducible assumption) | assumption)
       obtain ⟨ad178, e178, hx178_0, hx178_1, hx178_2, hx178_3, hx178_4⟩ := at_T106 HR0_0.out x6_1 p178 q178
       cases e178
       replace hx178_0 := (HB.out.cell (World.block_lt_of_cell? w _ hx178_0)).trans hx178_0
       replace hx178_1 := (HB.out.cell (World.block_lt_of_cell? w _ hx178_1)).trans hx178_1
       replace hx178_2 := (HB.out.cell (World.block_lt_of_cell? w _ hx178_2)).trans hx178_2
       replace hx178_3 := (HB.out.cell (World.block_lt_of_cell? w _ hx178_3)).trans hx178_3
       replace hx178_4 := (HB.out.cell (World.block_lt_of_cell? w _ hx178_4)).trans hx178_4
       replace p178 := eq_true p178
       replace q178 := eq_true q178
       have p179 : 0 ≤ (x6_1 : Int) := of_decide_eq_true (by first | (with_reducible assumption) | assumption)
       have q179 : x6_1 < (l0_0.length : Int) := of_decide_eq_true (by first | (with_reducible assumption) | assumption)
       obtain ⟨ad179, e179, hx179_0, hx179_1, hx179_2, hx179_3, hx179_4⟩ := at_T106 HR0_0.out x6_1 p179 q179
       obtain rfl : ad178 = ad179 := (by injection e179)
       replace hx179_0 := (HB.out.cell (World.block_lt_of_cell? w _ hx179_0)).trans hx179_0
       replace hx179_1 := (HB.out.cell (World.block_lt_of_cell? w _ hx179_1)).trans hx179_1
       replace hx179_2 := (HB.out.cell (World.block_lt_of_cell? w _ hx179_2)).trans hx179_2
       replace hx179_3 := (HB.out.cell (World.block_lt_of_cell? w _ hx179_3)).trans hx179_3
       replace hx179_4 := (HB.out.cell (World.block_lt_of_cell? w _ hx179_4)).trans hx179_4
       replace p179 := eq_true p179
       replace q179 := eq_true q179
       try go_wp2
       have n0_ := Aside0.mk (Kd.R_drew HO_5.out)
       have n1_ := Aside0.mk (blk_drew BK177.out)
       have n2_ := Aside0.mk (below_drew1 HB.out)
       clear HO_5
       clear BK177
       clear HB
       have HO_5 := n0_
       have BK177 := n1_
       have HB := n2_
       clear n0_ n1_ n2_
       have p180 : 0 ≤ (x6_1 : Int) := of_decide_eq_true (by first | (with_reducible assumption) | assumption)
       have q180 : x6_1 < (l0_0.length : Int) := of_decide_eq_true (by first | (with_reducible assumption) | assumption)
       obtain ⟨ad180, e180, hx180_0, hx180_1, hx180_2, hx180_3, hx180_4⟩ := at_T106 HR0_0.out x6_1 p180 q180
       have hw180_4 := hx180_4
       have hw180_3 := hx180_3
       have hw180_2 := hx180_2
       have hw180_1 := hx180_1
       have hw180_0 := hx180_0
       obtain rfl : ad178 = ad180 := (by injection e180)
       replace hx180_0 := (HB.out.cell (World.block_lt_of_cell? w _ hx180_0)).trans hx180_0
       replace hx180_1 := (HB.out.cell (World.block_lt_of_cell? w _ hx180_1)).trans hx180_1
       replace hx180_2 := (HB.out.cell (World.block_lt_of_cell? w _ hx180_2)).trans hx180_2
       replace hx180_3 := (HB.out.cell (World.block_lt_of_cell? w _ hx180_3)).trans hx180_3
       replace hx180_4 := (HB.out.cell (World.block_lt_of_cell? w _ hx180_4)).trans hx180_4
       replace p180 := eq_true p180
       replace q180 := eq_true q180
       have p181 : 0 ≤ (x6_1 : Int) := of_decide_eq_true (by first | (with_reducible assumption) | assumption)
       have q181 : x6_1 < (l0_0.length : Int) := of_decide_eq_true (by first | (with_reducible assumption) | assumption)
       obtain ⟨ad181, e181, hx181_0, hx181_1, hx181_2, hx181_3, hx181_4⟩ := at_T106 HR0_0.out x6_1 p181 q181
       have hw181_4 := hx181_4
       have hw181_3 := hx181_3
       have hw181_2 := hx181_2
       have hw181_1 := hx181_1
       have hw181_0 := hx181_0
       obtain rfl : ad178 = ad181 := (by injection e181)
       replace hx181_0 := (HB.out.cell (World.block_lt_of_cell? w _ hx181_0)).trans hx181_0
       replace hx181_1 := (HB.out.cell (World.block_lt_of_cell? w _ hx181_1)).trans hx181_1
       replace hx181_2 := (HB.out.cell (World.block_lt_of_cell? w _ hx181_2)).trans hx181_2
       replace hx181_3 := (HB.out.cell (World.block_lt_of_cell? w _ hx181_3)).trans hx181_3
       replace hx181_4 := (HB.out.cell (World.block_lt_of_cell? w _ hx181_4)).trans hx181_4
       replace p181 := eq_true p181
       replace q181 := eq_true q181
       obtain ⟨Ao12, co12, eo12⟩ := Kd.R_slice HO_5.out
       (first | subst eo12 | (injection eo12 with f1_ f2_ f3_; have f4_ := f1_.symm; have f5_ := f3_.symm; clear f1_ f2_ f3_; subst f4_; subst f5_))
       refine start_ (n := 16) (S := fun w' => w'.cell? ⟨gb177, 0, none⟩ = some (.slice (some ad178) l0_0.length c0_0) ∧ w'.cell? ⟨gb177, 1, none⟩ = some (.int .i64 a0_1) ∧ w'.cell? (ad178.add ((x6_1).toNat * 5)) = some (.int .i64 ((rd_T106 l0_0 x6_1).f0)) ∧ w'.cell? ⟨(ad178.add ((x6_1).toNat * 5)).block, (ad178.add ((x6_1).toNat * 5)).off + 1, none⟩ = some (.int .i64 ((rd_T106 l0_0 x6_1).f1)) ∧ w'.cell? ⟨(ad178.add ((x6_1).toNat * 5)).block, (ad178.add ((x6_1).toNat * 5)).off + 2, none⟩ = some (.string ((rd_T106 l0_0 x6_1).f2)) ∧ w'.cell? ⟨(ad178.add ((x6_1).toNat * 5)).block, (ad178.add ((x6_1).toNat * 5)).off + 3, none⟩ = some (.int .i64 ((rd_T106 l0_0 x6_1).f3)) ∧ w'.cell? ⟨(ad178.add ((x6_1).toNat * 5)).block, (ad178.add ((x6_1).toNat * 5)).off + 4, none⟩ = some (.string ((rd_T106 l0_0 x6_1).f4)) ∧ w'.cell? (ad178.add ((x6_1).toNat * 5)) = some (.int .i64 ((rd_T106 l0_0 x6_1).f0)) ∧ w'.cell? ⟨(ad178.add ((x6_1).toNat * 5)).block, (ad178.add ((x6_1).toNat * 5)).off + 1, none⟩ = some (.int .i64 ((rd_T106 l0_0 x6_1).f1)) ∧ w'.cell? ⟨(ad178.add ((x6_1).toNat * 5)).block, (ad178.add ((x6_1).toNat * 5)).off + 2, none⟩ = some (.string ((rd_T106 l0_0 x6_1).f2)) ∧ w'.cell? ⟨(ad178.add ((x6_1).toNat * 5)).block, (ad178.add ((x6_1).toNat * 5)).off + 3, none⟩ = some (.int .i64 ((rd_T106 l0_0 x6_1).f3)) ∧ w'.cell? ⟨(ad178.add ((x6_1).toNat * 5)).block, (ad178.add ((x6_1).toNat * 5)).off + 4, none⟩ = some (.string ((rd_T106 l0_0 x6_1).f4))) (ds := []) #[false, false, false, false, false, false, false, false, false, false, false, false, false, false, false, false] (by kernel_rfl) rfl rfl ⟨(blk_cell BK177.out 0).trans rfl, (blk_cell BK177.out 1).trans rfl, ((HB.out.cell (World.block_lt_of_cell? w _ hw180_0)).trans hw180_0), ((HB.out.cell (World.block_lt_of_cell? w _ hw180_1)).trans hw180_1), ((HB.out.cell (World.block_lt_of_cell? w _ hw180_2)).trans hw180_2), ((HB.out.cell (World.block_lt_of_cell? w _ hw180_3)).trans hw180_3), ((HB.out.cell (World.block_lt_of_cell? w _ hw180_4)).trans hw180_4), ((HB.out.cell (World.block_lt_of_cell? w _ hw181_0)).trans hw181_0), ((HB.out.cell (World.block_lt_of_cell? w _ hw181_1)).trans hw181_1), ((HB.out.cell (World.block_lt_of_cell? w _ hw181_2)).trans hw181_2), ((HB.out.cell (World.block_lt_of_cell? w _ hw181_3)).trans hw181_3), ((HB.out.cell (World.block_lt_of_cell? w _ hw181_4)).trans hw181_4)⟩ (fun hHeld => ?_); refine with_tabW linhayref07_List.tab6 linhayref07_List.bits6 (fun HT_ HW_ => ?_)
       generalize wr.drew = w11 at HO_5 BK177 HB hx180_0 hx180_1 hx180_2 hx180_3 hx180_4 hx181_0 hx181_1 hx181_2 hx181_3 hx181_4 hHeld ⊢
       refine pure_ (i := 0) (N := some 31) (v := ?_) (a' := ?_) #[true, false, false, false, false, false, false, false, false, false, false, false, false, false, false, false] rfl rfl (any_of HT_.out (by kernel_rfl)) (fun _ _ _ h => h) (Or.inl ⟨by rfl, ?_⟩) ?_ ?_
       rotate_left
       ·
        intro w'
        go_simp
        with_reducible rfl
       rotate_left
       ·
        simp only [Act.put, List.setIfInBounds_toArray, List.set_cons_zero, List.set_cons_succ, i64_w, i32_w]
        rfl
       refine pure_ (i := 1) (N := some 32) (v := ?_) (a' := ?_) #[true, true, false, false, false, false, false, false, false, false, false, false, false, false, false, false] rfl rfl (any_of HT_.out (by kernel_rfl)) (fun _ _ _ h => h) (Or.inl ⟨by rfl, ?_⟩) ?_ ?_
       rotate_left
       ·
        intro w'
        go_simp
        with_reducible rfl
       rotate_left
       ·
        simp only [Act.put, List.setIfInBounds_toArray, List.set_cons_zero, List.set_cons_succ, i64_w, i32_w]
        rfl
       refine pure_ (i := 3) (N := some 34) (v := ?_) (a' := ?_) #[true, true, false, true, false, false, false, false, false, false, false, false, false, false, false, false] rfl rfl (any_of HT_.out (by kernel_rfl)) (fun _ _ _ h => h) (Or.inl ⟨by rfl, ?_⟩) ?_ ?_
       rotate_left
       ·
        intro w'
        go_simp
        with_reducible rfl
       rotate_left
       ·
        simp only [Act.put, List.setIfInBounds_toArray, List.set_cons_zero, List.set_cons_succ, i64_w, i32_w]
        rfl
       refine pure_ (i := 7) (N := some 38) (v := ?_) (a' := ?_) #[true, true, false, true, false, false, false, true, false, false, false, false, false, false, false, false] rfl rfl (any_of HT_.out (by kernel_rfl)) (fun _ _ _ h => h) (Or.inl ⟨by rfl, ?_⟩) ?_ ?_
       rotate_left
       ·
        intro w'
        go_simp
        with_reducible rfl
       rotate_left
       ·
        simp only [Act.put, List.setIfInBounds_toArray, List.set_cons_zero, List.set_cons_succ, i64_w, i32_w]
        rfl
       refine pure_ (i := 9) (N := some 40) (v := ?_) (a' := ?_) #[true, true, false, true, false, false, false, true, false, true, false, false, false, false, false, false] rfl rfl (any_of HT_.out (by kernel_rfl)) (fun _ _ _ h => h) (Or.inl ⟨by rfl, ?_⟩) ?_ ?_
       rotate_left
       ·
        intro w'
        go_simp
        with_reducible rfl
       rotate_left
       ·
        simp only [Act.put, List.setIfInBounds_toArray, List.set_cons_zero, List.set_cons_succ, i64_w, i32_w]
        rfl
       refine take_ (i := 2) (N := some 33) (v := ?_) (a' := ?_) #[true, true, true, true, false, false, false, true, false, true, false, false, false, false, false, false] rfl rfl (take_ofW HT_.out HW_.out (by kernel_rfl)) (fun _ _ _ h => h) (Or.inl ⟨by rfl, ?_⟩) hHeld ?_ ?_
       rotate_left
       ·
        rintro w' ⟨s0, s1, s2, s3, s4, s5, s6, s7, s8, s9, s10, s11⟩
        go_simp
        with_reducible rfl
       rotate_left
       ·
        simp only [Act.put, List.setIfInBounds_toArray, List.set_cons_zero, List.set_cons_succ, i64_w, i32_w]
        rfl
       refine pure_ (i := 4) (N := some 35) (v := ?_) (a' := ?_) #[true, true, true, true, true, false, false, true, false, true, false, false, false, false, false, false] rfl rfl (any_of HT_.out (by kernel_rfl)) (fun _ _ _ h => h) (Or.inl ⟨by rfl, ?_⟩) ?_ ?_
       rotate_left
       ·
        intro w'
        go_simp
        with_reducible rfl
       rotate_left
       ·
        simp only [Act.put, List.setIfInBounds_toArray, List.set_cons_zero, List.set_cons_succ, i64_w, i32_w]
        rfl
       refine pure_ (i := 5) (N := some 36) (v := ?_) (a' := ?_) #[true, true, true, true, true, true, false, true, false, true, false, false, false, false, false, false] rfl rfl (any_of HT_.out (by kernel_rfl)) (fun _ _ _ h => h) (Or.inl ⟨by rfl, ?_⟩) ?_ ?_
       rotate_left
       ·
        intro w'
        go_simp
        with_reducible rfl
       rotate_left
       ·
        simp only [Act.put, List.setIfInBounds_toArray, List.set_cons_zero, List.set_cons_succ, i64_w, i32_w]
        rfl
       refine take_ (i := 6) (N := some 37) (v := ?_) (a' := ?_) #[true, true, true, true, true, true, true, true, false, true, false, false, false, false, false, false] rfl rfl (take_ofW HT_.out HW_.out (by kernel_rfl)) (fun _ _ _ h => h) (Or.inl ⟨by rfl, ?_⟩) hHeld ?_ ?_
       rotate_left
       ·
        rintro w' ⟨s0, s1, s2, s3, s4, s5, s6, s7, s8, s9, s10, s11⟩
        go_simp
        with_reducible rfl
       rotate_left
       ·
        simp only [Act.put, List.setIfInBounds_toArray, List.set_cons_zero, List.set_cons_succ, i64_w, i32_w]
        rfl
       refine take_ (i := 8) (N := some 39) (v := ?_) (a' := ?_) #[true, true, true, true, true, true, true, true, true, true, false, false, false, false, false, false] rfl rfl (take_ofW HT_.out HW_.out (by kernel_rfl)) (fun _ _ _ h => h) (Or.inl ⟨by rfl, ?_⟩) hHeld ?_ ?_
       rotate_left
       ·
        rintro w' ⟨s0, s1, s2, s3, s4, s5, s6, s7, s8, s9, s10, s11⟩
        go_simp
        with_reducible rfl
       rotate_left
       ·
        simp only [Act.put, List.setIfInBounds_toArray, List.set_cons_zero, List.set_cons_succ, i64_w, i32_w]
        rfl
       refine pure_ (i := 10) (N := some 41) (v := ?_) (a' := ?_) #[true, true, true, true, true, true, true, true, true, true, true, false, false, false, false, false] rfl rfl (any_of HT_.out (by kernel_rfl)) (fun _ _ _ h => h) (Or.inl ⟨by rfl, ?_⟩) ?_ ?_
       rotate_left
       ·
        intro w'
        go_simp
        with_reducible rfl
       rotate_left
       ·
        simp only [Act.put, List.setIfInBounds_toArray, List.set_cons_zero, List.set_cons_succ, i64_w, i32_w]
        rfl
       refine pure_ (i := 11) (N := some 42) (v := ?_) (a' := ?_) #[true, true, true, true, true, true, true, true, true, true, true, true, false, false, false, false] rfl rfl (any_of HT_.out (by kernel_rfl)) (fun _ _ _ h => h) (Or.inl ⟨by rfl, ?_⟩) ?_ ?_
       rotate_left
       ·
        intro w'
        go_simp
        with_reducible rfl
       rotate_left
       ·
        simp only [Act.put, List.setIfInBounds_toArray, List.set_cons_zero, List.set_cons_succ, i64_w, i32_w]
        rfl
       refine take_ (i := 12) (N := some 43) (v := ?_) (a' := ?_) #[true, true, true, true, true, true, true, true, true, true, true, true, true, false, false, false] rfl rfl (take_ofW HT_.out HW_.out (by kernel_rfl)) (fun _ _ _ h => h) (Or.inl ⟨by rfl, ?_⟩) hHeld ?_ ?_
       rotate_left
       ·
        rintro w' ⟨s0, s1, s2, s3, s4, s5, s6, s7, s8, s9, s10, s11⟩
        go_simp
        with_reducible rfl
       rotate_left
       ·
        simp only [Act.put, List.setIfInBounds_toArray, List.set_cons_zero, List.set_cons_succ, i64_w, i32_w]
        rfl
       refine pure_ (i := 13) (N := some 44) (v := ?_) (a' := ?_) #[true, true, true, true, true, true, true, true, true, true, true, true, true, true, false, false] rfl rfl (any_of HT_.out (by kernel_rfl)) (fun _ _ _ h => h) (Or.inl ⟨by rfl, ?_⟩) ?_ ?_
       rotate_left
       ·
        intro w'
        go_simp
        with_reducible rfl
       rotate_left
       ·
        simp only [Act.put, List.setIfInBounds_toArray, List.set_cons_zero, List.set_cons_succ, i64_w, i32_w]
        rfl
       refine one_ (i := 14) (N := some 45) #[true, true, true, true, true, true, true, true, true, true, true, true, true, true, true, false] rfl rfl (one_of HT_.out (by kernel_rfl)) (by decide) (fun K hK => ?_)
       refine goes_ Tryz.func117 (by kernel_rfl) rfl #[.slice Ao12 x5_1.length co12, .agg #[.string ((rd_T106 l0_0 x6_1).f2), .int .i64 ((rd_T106 l0_0 x6_1).f0)]] (by rfl) rfl rfl (by (try simp only [List.map_toArray, List.map_cons, List.map_nil]); first | done | rfl | (simp only [List.length_drop, List.length_take]; rfl)) ?_
       with_reducible refine (linhayref06_Put.calls k1 (fun k_ => some k_ = (.slice Ao12 x5_1.length co12 : Value).ownBlock) (.slice Ao12 x5_1.length co12) x5_1 ((rd_T106 l0_0 x6_1).f2) ((rd_T106 l0_0 x6_1).f0) t182 w _ ?side1 ?side2 A9.out).mono ?_
       (case side1 => repeat (first | (with_reducible first | exact HB.out | apply below_alloc | apply pw_below_drewN | apply below_drew1 | refine below_set ?_ GE177.out) | exact HB.out))
       (case side2 => exact Kd.R_tight rfl HO_5.out)
       rintro e w13 ⟨v183, rfl, ho0, hb, hkp⟩
       refine ⟨_, rfl, ?_⟩
       have n0_ := Aside0.mk (blk_kept (by (with_reducible repeat (first | refine blk_drewN ?_ _ | refine blk_drew ?_ | refine blk_alloc ?_ _)); exact BK177.out) hkp (fun hs_ => (fun e_ => (Kd.R_ne HO_5.out BK177.out (by decide)) e_) hs_))
       have n1_ := Aside0.mk (Kd.R_mono (ok' := fun k_ => True) ho0 (fun k_ hk_ => trivial))
       have n2_ := Aside0.mk (hb)
       clear BK177
       clear HB
       clear HO_5
       have BK177 := n0_
       have HO184 := n1_
       have HB := n2_
       clear n0_ n1_ n2_
       (try clear hb)
       (try clear hkp)
       (try clear ho0)
       refine hK.out _ _ ⟨(blk_cell BK177.out 0).trans rfl, (blk_cell BK177.out 1).trans rfl, ((HB.out.cell (World.block_lt_of_cell? w _ hw180_0)).trans hw180_0), ((HB.out.cell (World.block_lt_of_cell? w _ hw180_1)).trans hw180_1), ((HB.out.cell (World.block_lt_of_cell? w _ hw180_2)).trans hw180_2), ((HB.out.cell (World.block_lt_of_cell? w _ hw180_3)).trans hw180_3), ((HB.out.cell (World.block_lt_of_cell? w _ hw180_4)).trans hw180_4), ((HB.out.cell (World.block_lt_of_cell? w _ hw181_0)).trans hw181_0), ((HB.out.cell (World.block_lt_of_cell? w _ hw181_1)).trans hw181_1), ((HB.out.cell (World.block_lt_of_cell? w _ hw181_2)).trans hw181_2), ((HB.out.cell (World.block_lt_of_cell? w _ hw181_3)).trans hw181_3), ((HB.out.cell (World.block_lt_of_cell? w _ hw181_4)).trans hw181_4)⟩ (fun hHeld => ?_)
       clear hK K
       refine norm_ (a' := ?_) ?_ ?_
       rotate_left
       ·
        show Act.put _ (some 45) _ = _
        simp only [Act.put, List.setIfInBounds_toArray, List.set_cons_zero, List.set_cons_succ, i64_w, i32_w]
        rfl
       refine pure_ (i := 15) (N := some 5) (v := ?_) (a' := ?_) #[true, true, true, true, true, true, true, true, true, true, true, true, true, true, true, true] rfl rfl (any_of HT_.out (by kernel_rfl)) (fun _ _ _ h => h) (Or.inl ⟨by rfl, ?_⟩) ?_ ?_
       rotate_left
       ·
        intro w'
        go_simp
        with_reducible rfl
       rotate_left
       ·
        simp only [Act.put, List.setIfInBounds_toArray, List.set_cons_zero, List.set_cons_succ, i64_w, i32_w]
        rfl
       refine done_ (done_of HT_.out (by kernel_rfl)) ?_
       try go_wp2
       go_roundg k1
       case measure => have := HK1.out; omega
       case rel => exact ⟨(t182), (wrap64 (x6_1 + 1)), (by first | rfl | (simp; done) | (simp [*]; done) | (simp [bne_nil]; done)), H', ⟨by have := HK1.out; omega⟩, ⟨by (with_reducible repeat (first | apply Kd.R_alloc | apply Kd.R_drewN | apply Kd.R_drew)); first | exact HO184.out | exact own_cut HO184.out⟩, ⟨by (with_reducible repeat (first | refine blk_drewN ?_ _ | refine blk_drew ?_ | refine blk_alloc ?_ _)); exact BK177.out⟩, ⟨by repeat (first | (with_reducible first | exact HB.out | apply below_alloc | apply pw_below_drewN | apply below_drew1 | refine below_set ?_ GE177.out) | exact HB.out)⟩⟩
     ·
      rw [if_neg c6] at H
      have c6b0 : (((rd_T106 l0_0 x6_1).f1) == a1) = false := beq_eq_false_iff_ne.mpr c6
      have c6b1 : (((rd_T106 l0_0 x6_1).f1) != a1) = true := bne_iff_ne.mpr c6
      have H' := Aside0.mk H
      clear H
      have hcz14_0 : wr.cell? ⟨gb177, 0, none⟩ = some (.slice A0_0 l0_0.length c0_0) := (blk_cell BK177.out 0).trans rfl
      have hcz14_1 : wr.cell? ⟨gb177, 1, none⟩ = some (.int .i64 a0_1) := (blk_cell BK177.out 1).trans rfl
      have hfz14_0 := blk_frozen BK177.out 0
      have hfz14_1 := blk_frozen BK177.out 1
      have p178 : 0 ≤ (x6_1 : Int) := of_decide_eq_true (by first | (with_reducible assumption) | assumption)
      have q178 : x6_1 < (l0_0.length : Int) := of_decide_eq_true (by first | (with_reducible assumption) | assumption)
      obtain ⟨ad178, e178, hx178_0, hx178_1, hx178_2, hx178_3, hx178_4⟩ := at_T106 HR0_0.out x6_1 p178 q178
      cases e178
      replace hx178_0 := (HB.out.cell (World.block_lt_of_cell? w _ hx178_0)).trans hx178_0
      replace hx178_1 := (HB.out.cell (World.block_lt_of_cell? w _ hx178_1)).trans hx178_1
      replace hx178_2 := (HB.out.cell (World.block_lt_of_cell? w _ hx178_2)).trans hx178_2
      replace hx178_3 := (HB.out.cell (World.block_lt_of_cell? w _ hx178_3)).trans hx178_3
      replace hx178_4 := (HB.out.cell (World.block_lt_of_cell? w _ hx178_4)).trans hx178_4
      replace p178 := eq_true p178
      replace q178 := eq_true q178
      go_wp2
      go_roundg k1
      case measure => have := HK1.out; omega
      case rel => exact ⟨(x5_1), (wrap64 (x6_1 + 1)), (by first | rfl | (simp; done) | (simp [*]; done) | (simp [bne_nil]; done)), H', ⟨by have := HK1.out; omega⟩, ⟨by (with_reducible repeat (first | apply Kd.R_alloc | apply Kd.R_drewN | apply Kd.R_drew)); first | exact HO_5.out | exact own_cut HO_5.out⟩, ⟨by (with_reducible repeat (first | refine blk_drewN ?_ _ | refine blk_drew ?_ | refine blk_alloc ?_ _)); exact BK177.out⟩, ⟨by repeat (first | (with_reducible first | exact HB.out | apply below_alloc | apply pw_below_drewN | apply below_drew1 | refine below_set ?_ GE177.out) | exact HB.out)⟩⟩
    ·
     rw [if_neg c5] at H
     exact absurd H (by simp)
   ·
    rw [if_neg c4] at H
    have c4b0 : decide (x6_1 < (l0_0.length : Int)) = false := decide_eq_false c4
    clear c4
    obtain rfl := Option.some.inj H
    have hcz15_0 : wr.cell? ⟨gb177, 0, none⟩ = some (.slice A0_0 l0_0.length c0_0) := (blk_cell BK177.out 0).trans rfl
    have hcz15_1 : wr.cell? ⟨gb177, 1, none⟩ = some (.int .i64 a0_1) := (blk_cell BK177.out 1).trans rfl
    have hfz15_0 := blk_frozen BK177.out 0
    have hfz15_1 := blk_frozen BK177.out 1
    go_wp2
    go_ret
    exact ⟨_, by first | rfl | (simp [errW_none, errW_some] <;> rfl) | (simp [*, errW_none, errW_some] <;> rfl) | (simp [errW_none, errW_some, bne_nil]; done) | (simp [*, bne_nil]; done) | (simp [bne]; done), by (with_reducible repeat (first | apply Kd.R_alloc | apply Kd.R_drewN | apply Kd.R_drew)); exact HO_5.out, by repeat (first | (with_reducible first | exact HB.out | apply below_alloc | apply pw_below_drewN | apply below_drew1 | refine below_set ?_ GE177.out) | exact HB.out)⟩

end Go.Proofs.YtnpeeiikdcankaaGreat.X

namespace Go.Proofs.YtnpeeiikdcankaaGreat.Tw
open Go Go.RowKit Go.Proofs Go.Proofs.YtnpeeiikdcankaaGreat Go.Proofs.YtnpeeiikdcankaaGreatW.PrintWords Go.Proofs.YtnpeeiikdcankaaGreat.Ext Go.Proofs.YtnpeeiikdcankaaGreat.X Go.Proofs.YtnpeeiikdcankaaGreat.Pu
theorem rdE_get {l : List En} {i : Nat} (h : i < l.length) : rd_T162 l (i : Int) = l[i] := by simp [rd_T162, h]
theorem right6_ev (l : List En) (hl : l.length < 4294967296) (hr : Rt l) : Ev (fun k => linhayref06_Right.f k l) true := by
 have key : ∀ (d i : Nat), i + d = l.length → Ev (fun k => linhayref06_Right.l0 k l (i : Int)) true := by
  intro d
  induction d with
  | zero =>
   intro i hi
   refine Ev.step (fun k => by rw [linhayref06_Right.l0]) ?_
   rw [w1 (by omega)]
   exact ev_neg (by omega) (Ev.now _)
  | succ d ih =>
   intro i hi
   refine Ev.step (fun k => by rw [linhayref06_Right.l0]) ?_
   rw [w1 (by omega)]
   by_cases h : i + 1 < l.length
   ·
    refine ev_pos (by omega) (ev_pos (by omega) (ev_pos (by omega) (ev_pos (by omega) (ev_pos ?_ (ih (i + 1) (by omega))))))
    rw [rdE_get (by omega), rdE_get h]
    exact List.pairwise_iff_getElem.1 hr i (i + 1) (by omega) h (by omega)
   · exact ev_neg (by omega) (Ev.now _)
 exact key l.length 0 (by omega)
theorem all6_ev (l : List En) (hl : l.length < 4294967296) (hr : Rt l) : Ev (fun k => linhayref06_all.f k l) l := by
 have hf : (fun k => linhayref06_all.f k l) = fun k => (linhayref06_Right.f k l).bind fun t => if t = true then some l else some ([] : List En) := rfl
 rw [hf]
 exact ev_bind (right6_ev l hl hr) (ev_pos rfl (Ev.now _))
theorem snocE (acc : List En) (q : En) (l : List En) : acc ++ [(⟨q.f0, q.f1⟩ : En)] ++ l = acc ++ q :: l := by rw [List.append_assoc]; rfl
theorem cut6_ev (l : List En) (s : ByteArray) (hl : l.length < 4294967296) (hr : Rt l) (hn : ∀ e ∈ l, e.f0 ≠ s) : Ev (fun k => linhayref06_Cut.f k l s) l := by
 have key : ∀ (d i : Nat) (acc : List En), i + d = l.length → acc.length + d ≤ 4294967296 → Ev (fun k => linhayref06_Cut.l0 k l s acc (i : Int)) (acc ++ l.drop i) := by
  intro d
  induction d with
  | zero =>
   intro i acc hi ha
   rw [List.drop_eq_nil_of_le (by omega), List.append_nil]
   refine Ev.step (fun k => by rw [linhayref06_Cut.l0]) ?_
   exact ev_neg (by omega) (Ev.now _)
  | succ d ih =>
   intro i acc hi ha
   have hlt : i < l.length := by omega
   refine Ev.step (fun k => by rw [linhayref06_Cut.l0]) (ev_pos (by omega) (ev_pos (by omega) ?_))
   rw [rdE_get hlt, w1 (by omega), List.drop_eq_getElem_cons hlt]
   refine ev_neg (fun e => hn _ (List.getElem_mem hlt) (toL_inj.1 e)) (ev_pos (by omega) ?_)
   have := ih (i + 1) (acc ++ [(⟨l[i].f0, l[i].f1⟩ : En)]) (by omega) (by simp; omega)
   rw [snocE] at this
   exact this
 have hf : (fun k => linhayref06_Cut.f k l s) = fun k => (linhayref06_all.f k l).bind fun t => linhayref06_Cut.l0 k t s ([] : List En) 0 := rfl
 rw [hf]
 refine ev_bind (all6_ev l hl hr) ?_
 have := key l.length 0 [] (by omega) (by simp; omega)
 simpa using this
theorem filt_ins (x : En) : ∀ l : List En, Rt l → (∀ e ∈ l, e.f0 ≠ x.f0) → l.filter (fun e => bl e.f0 x.f0) ++ x :: l.filter (fun e => bl x.f0 e.f0) = insE l x
 | [], _, _ => rfl
 | a :: l, hr, hn => by
  obtain ⟨h1, h2⟩ := List.pairwise_cons.1 hr
  have ih := filt_ins x l h2 (fun e he => hn e (List.mem_cons_of_mem _ he))
  unfold insE
  rw [List.filter_cons, List.filter_cons]
  by_cases h : bl a.f0 x.f0 = true
  · rw [if_pos h, if_pos h, if_neg (by rw [bl_asym h]; simp), List.cons_append, ih]
  ·
   rw [if_neg h, if_neg h]
   have h3 : bl x.f0 a.f0 = true := by
    have h6 : (bl x.f0 a.f0 || x.f0.toList == a.f0.toList) = true := less_tot _ _ (show bl a.f0 x.f0 = false by simpa using h)
    rcases Bool.or_eq_true_iff.1 h6 with h7 | h7
    · exact h7
    · exact absurd (toL_inj.1 (by simpa using h7)).symm (hn a List.mem_cons_self)
   have e1 : l.filter (fun e => bl e.f0 x.f0) = [] := by
    rw [List.filter_eq_nil_iff]
    intro e he
    rw [bl_asym (bl_trans h3 (h1 e he))]
    simp
   have e2 : l.filter (fun e => bl x.f0 e.f0) = l := by
    rw [List.filter_eq_self]
    intro e he
    exact bl_trans h3 (h1 e he)
   rw [if_pos h3, e1, e2]
   rfl
theorem put6_ev (l : List En) (x : En) (hl : l.length < 1000000) (hr : Rt l) (hn : ∀ e ∈ l, e.f0 ≠ x.f0) : Ev (fun k => linhayref06_Put.f k l x.f0 x.f1) (insE l x) := by
 have k1 : ∀ (d i : Nat) (acc : List En), i + d = l.length → acc.length + d ≤ 4294967296 → Ev (fun k => linhayref06_Put.l1 k l acc (i : Int) x.f0 x.f1) (acc ++ (l.drop i).filter (fun e => bl x.f0 e.f0)) := by
  intro d
  induction d with
  | zero =>
   intro i acc hi ha
   rw [List.drop_eq_nil_of_le (by omega), List.filter_nil, List.append_nil]
   refine Ev.step (fun k => by rw [linhayref06_Put.l1]) ?_
   exact ev_neg (by omega) (Ev.now _)
  | succ d ih =>
   intro i acc hi ha
   have hlt : i < l.length := by omega
   refine Ev.step (fun k => by rw [linhayref06_Put.l1]) (ev_pos (by omega) (ev_pos (by omega) ?_))
   rw [rdE_get hlt, w1 (by omega), List.drop_eq_getElem_cons hlt, List.filter_cons]
   by_cases h : bl x.f0 l[i].f0 = true
   ·
    rw [if_pos h]
    refine ev_pos h (ev_pos (by omega) ?_)
    have := ih (i + 1) (acc ++ [(⟨l[i].f0, l[i].f1⟩ : En)]) (by omega) (by simp; omega)
    rw [snocE] at this
    exact this
   ·
    rw [if_neg h]
    exact ev_neg h (ih (i + 1) acc (by omega) (by omega))
 have k0 : ∀ (d i : Nat) (acc : List En), i + d = l.length → acc.length + d ≤ 2000000 → Ev (fun k => linhayref06_Put.l0 k l acc (i : Int) x.f0 x.f1) (acc ++ (l.drop i).filter (fun e => bl e.f0 x.f0) ++ x :: l.filter (fun e => bl x.f0 e.f0)) := by
  intro d
  induction d with
  | zero =>
   intro i acc hi ha
   rw [List.drop_eq_nil_of_le (by omega), List.filter_nil, List.append_nil]
   refine Ev.step (fun k => by rw [linhayref06_Put.l0]) ?_
   refine ev_neg (by omega) (ev_pos (by omega) ?_)
   have := k1 l.length 0 (acc ++ [(⟨x.f0, x.f1⟩ : En)]) (by omega) (by simp; omega)
   rw [snocE, List.drop_zero] at this
   exact this
  | succ d ih =>
   intro i acc hi ha
   have hlt : i < l.length := by omega
   refine Ev.step (fun k => by rw [linhayref06_Put.l0]) (ev_pos (by omega) (ev_pos (by omega) ?_))
   rw [rdE_get hlt, w1 (by omega), List.drop_eq_getElem_cons hlt, List.filter_cons]
   by_cases h : bl l[i].f0 x.f0 = true
   ·
    rw [if_pos h]
    refine ev_pos h (ev_pos (by omega) ?_)
    have := ih (i + 1) (acc ++ [(⟨l[i].f0, l[i].f1⟩ : En)]) (by omega) (by simp; omega)
    rw [snocE] at this
    exact this
   ·
    rw [if_neg h]
    exact ev_neg h (ih (i + 1) acc (by omega) (by omega))
 have hf : (fun k => linhayref06_Put.f k l x.f0 x.f1) = fun k => (linhayref06_Cut.f k l x.f0).bind fun t => linhayref06_Put.l0 k t ([] : List En) 0 x.f0 x.f1 := rfl
 rw [hf]
 refine ev_bind (cut6_ev l x.f0 (by omega) hr hn) ?_
 have := k0 l.length 0 [] (by omega) (by simp; omega)
 rw [List.nil_append, List.drop_zero, filt_ins x l hr hn] at this
 exact this
theorem list7_ev {L : List RN} {last : Int} (hG : GoodL L last) (n : Int) : Ev (fun k => linhayref07_List.f k L last n) (entsOf L n) := by
 have hl := hG.len
 have key : ∀ (d i : Nat), i + d = L.length → Ev (fun k => linhayref07_List.l0 k n (entsOf (L.take i) n) (i : Int) L last) (entsOf L n) := by
  intro d
  induction d with
  | zero =>
   intro i hi
   rw [List.take_of_length_le (by omega)]
   refine Ev.step (fun k => by rw [linhayref07_List.l0]) ?_
   exact ev_neg (by omega) (Ev.now _)
  | succ d ih =>
   intro i hi
   have hlt : i < L.length := by omega
   refine Ev.step (fun k => by rw [linhayref07_List.l0]) (ev_pos (by omega) (ev_pos (by omega) ?_))
   have hI := ih (i + 1) (by omega)
   rw [List.take_succ_eq_append_getElem hlt, entsOf_snoc] at hI
   rw [rd_get hlt, w1 (by omega)]
   by_cases h1 : L[i].f1 = n
   ·
    by_cases h2 : L[i].f0 = 1
    ·
     rw [if_neg (fun h => (isIn_iff.1 h).2 h2)] at hI
     exact ev_pos h1 (ev_pos h2 hI)
    ·
     rw [if_pos (isIn_iff.2 ⟨h1, h2⟩)] at hI
     refine ev_pos h1 (ev_neg h2 (ev_bind (put6_ev (entsOf (L.take i) n) ⟨L[i].f2, L[i].f0⟩ ?_ ?_ ?_) hI))
     ·
      have := ents_len (L.take i) n
      rw [List.length_take] at this
      omega
     · exact fold_rt n (L.take i) [] List.Pairwise.nil (by simp) (hG.names.sublist (List.take_sublist i L))
     ·
      intro e he
      obtain ⟨r, hr, hi2, rfl⟩ := mem_ents.1 he
      obtain ⟨i1, i2⟩ := isIn_iff.1 hi2
      obtain ⟨j, hj, rfl⟩ := List.mem_iff_getElem.1 hr
      rw [List.length_take] at hj
      rw [List.getElem_take] at i1 i2 ⊢
      exact List.pairwise_iff_getElem.1 hG.names j i (by omega) hlt (by omega) (i1.trans h1.symm) i2 h2
   ·
    rw [if_neg (fun h => h1 (isIn_iff.1 h).1)] at hI
    exact ev_neg h1 hI
 exact key L.length 0 (by omega)
end Go.Proofs.YtnpeeiikdcankaaGreat.Tw

namespace Go.Proofs.YtnpeeiikdcankaaGreat.Tw
open Go Go.RowKit Go.Shelf Go.Proofs Go.Proofs.YtnpeeiikdcankaaGreat Go.Proofs.YtnpeeiikdcankaaGreatW.PrintWords Go.Proofs.YtnpeeiikdcankaaGreat.Ext Go.Proofs.YtnpeeiikdcankaaGreat.X Go.Proofs.YtnpeeiikdcankaaGreat.Pu
theorem cutL_take (L : List RN) (n : Int) {i : Nat} (h : i < L.length) : cutL (L.take (i + 1)) n = if L[i].f0 = n then cutL (L.take i) n else cutL (L.take i) n ++ [L[i]] := by
 unfold cutL
 rw [List.take_succ_eq_append_getElem h, List.filter_append]
 by_cases e : L[i].f0 = n
 · simp [e]
 · simp [e]
def CutOwn (w w' : World) (v : Value) (L : List RN) (last : Int) : Prop := ∃ A9 c9 B9, v = .agg #[.slice A9 L.length c9, .int .i64 last] ∧ w.heap.size < B9 ∧ Kd.R k106 106 w' B9 (fun _ => True) (.slice A9 L.length c9) L
set_option maxHeartbeats 4000000 in
set_option maxRecDepth 1000000 in
theorem rcut_calls (L : List RN) (last : Int) (v : Value) (d : Int) (s : ByteArray) (w : World) (h : RAt w v L last) (hG : GoodL L last) :
  Calls Tryz.prog 108 #[v, .int .i64 d, .string s] w fun e w' => ∃ v', e = .returned (.tuple #[v', .int .i64 (cutRE L d s)]) ∧ RAt w' v' (cutS L d s) last ∧ Below w.heap.size w w' ∧ (cutRE L d s = 0 → CutOwn w w' v' (cutL L (inR L d s)) last) := by
 obtain ⟨A, c, rfl, hle, hC⟩ := h
 have hl := hG.len
 have hu30 := Tryz.underlying30
 have hu106 := Tryz.underlying106
 obtain ⟨kd, hkd⟩ := (r07_dir L d last (by omega)).rounds
 obtain ⟨ki, hki⟩ := (r07_in L d last s (by omega)).rounds
 obtain ⟨kl, hkl⟩ := (list7_ev hG (inR L d s)).rounds
 have HD := Lib.hid (fun W h => linhayref07_dir.calls kd A c L last d _ W h hle hkd)
 have HI := Lib.hid (fun W h => linhayref07_In.calls ki A c L last d s _ W h hle hki)
 have HLI := Lib.hid (fun W h => linhayref07_List.calls kl A c L last (inR L d s) _ W h hle hkl)
 obtain ⟨k1, k2, k3⟩ := two_blocks w (.cells #[.slice A L.length c, .int .i64 last] 30) (.cells #[.slice none 0 0, .int .i64 0] 30)
 have HK := Lib.hid (And.intro k1 (And.intro k2 k3))
 have HC := Lib.hid hC
 have HS : Hid ((cutRE L d s = 0 → cutS L d s = cutL L (inR L d s)) ∧ (cutRE L d s ≠ 0 → cutS L d s = L)) := Lib.hid ⟨fun e => if_pos e, fun e => if_neg e⟩
 have HRE : Hid (cutRE L d s = if dirE (atR L d).f3 ≠ 0 then dirE (atR L d).f3 else if inR L d s = 0 then 5 else if 0 < (entsOf L (inR L d s)).length then 9 else 0) := Lib.hid rfl
 generalize cutS L d s = SS at *
 generalize cutRE L d s = re at *
 generalize dirE (atR L d).f3 = de at *
 generalize inR L d s = n at *
 generalize hes : entsOf L n = es at *
 clear hes hC k1 k2 k3 hkd hki hkl
 have HLL := Lib.hid hl
 clear hl
 go_enter Tryz.func108, Tryz.ntmps108
 go_upto_region 1 with (fail)
 generalize (w.alloc (.cells #[.slice A L.length c, .int .i64 last] 30)).alloc (.cells #[.slice none 0 0, .int .i64 0] 30) = w2 at HK ⊢
 have HR1 := Lib.hid HK.out.1
 have HR2 := Lib.hid HK.out.2.1
 have HB2 := Lib.hid HK.out.2.2
 clear HK
 generalize hb0 : w.heap.size = b at HR1 HR2 ⊢
 have HW0 := Lib.hid hb0
 clear hb0
 have HX := Lib.hid (fun (W : World) (hb : Below w2.heap.size w2 W) => show (W.cell? ⟨b, 0, none⟩ = some (.slice A L.length c) ∧ W.cell? ⟨b, 1, none⟩ = some (.int .i64 last)) ∧ (W.cell? ⟨b + 1, 0, none⟩ = some (.slice none 0 0) ∧ W.cell? ⟨b + 1, 1, none⟩ = some (.int .i64 0)) ∧ (W.frozen? ⟨b + 1, 0, none⟩ = false ∧ W.frozen? ⟨b + 1, 1, none⟩ = false) by
  have e1 := (hb.block _ (blk_lt HR1.out)).trans HR1.out
  have e2 := (hb.block _ (blk_lt HR2.out)).trans HR2.out
  exact ⟨⟨by rw [blk_cell e1]; rfl, by rw [blk_cell e1]; rfl⟩, ⟨by rw [blk_cell e2]; rfl, by rw [blk_cell e2]; rfl⟩, blk_frozen e2 0, blk_frozen e2 1⟩)
 have HCT := Lib.hid (fun (W : World) (hb : Below w2.heap.size w2 W) => Kd.C_below HC.out (HB2.out.trans (hb.mono HB2.out.size)))
 obtain ⟨⟨x0, x1⟩, -, -⟩ := HX.out _ (Below.refl _ _)
 go_upto_region 2 with (go_at_call 103; refine (HD.out _ (HCT.out _ (Below.refl _ _))).mono ?_; rintro e w3 ⟨rfl, hb3⟩; have HB3 := Lib.hid hb3; clear hb3 x0 x1)
 obtain ⟨⟨x0, x1⟩, ⟨r0, r1⟩, f0, f1⟩ := HX.out _ HB3.out
 by_cases e0 : de = 0
 ·
  subst e0
  go_upto_region 5 with (go_at_call 105; refine (HI.out _ (HCT.out _ HB3.out)).mono ?_; rintro e w4 ⟨rfl, hb4⟩; have HB4 := Lib.hid (HB3.out.trans (hb4.mono HB3.out.size)); clear hb4 x0 x1 r0 r1 f0 f1)
  obtain ⟨⟨x0, x1⟩, ⟨r0, r1⟩, f0, f1⟩ := HX.out _ HB4.out
  by_cases e1 : n = 0
  ·
   subst e1
   have hre : re = 5 := by rw [HRE.out, if_neg (by simp), if_pos rfl]
   have HNZ : Hid (re ≠ 0) := Lib.hid (by rw [hre]; decide)
   have hSS := HS.out.2 (by rw [hre]; decide)
   have HRS := Lib.hid (And.intro hre hSS)
   clear hre hSS HS HRE HD HI HLI
   go_wp2
   obtain ⟨hre, hSS⟩ := HRS.out
   have e3 := (HB4.out.block _ (blk_lt HR2.out)).trans HR2.out
   have hT := res_cells (.slice A L.length c) (.int .i64 last) e3
   have hB9 : Below w.heap.size w ((w4.setCell ⟨b + 1, 0, none⟩ (.slice A L.length c)).setCell ⟨b + 1, 1, none⟩ (.int .i64 last)) := ((HB2.out.trans (HB4.out.mono HB2.out.size)).setCell (p := ⟨b + 1, 0, none⟩) (by rw [HW0.out]; exact Nat.le_succ b) (.slice A L.length c)).setCell (p := ⟨b + 1, 1, none⟩) (by rw [HW0.out]; exact Nat.le_succ b) (.int .i64 last)
   generalize (w4.setCell ⟨b + 1, 0, none⟩ (.slice A L.length c)).setCell ⟨b + 1, 1, none⟩ (.int .i64 last) = w9 at hT hB9 ⊢
   obtain ⟨t0, t1⟩ := hT
   refine bodyPost_ret (v := .tuple #[.agg #[.slice A L.length c, .int .i64 last], .int .i64 5]) (by simp [results, Tryz.results108, go_sem, t0, t1, hu30]) rfl ⟨.agg #[.slice A L.length c, .int .i64 last], by rw [hre], by rw [hSS]; exact ⟨A, c, rfl, hle, Kd.C_below HC.out hB9⟩, hB9, fun hz => absurd hz HNZ.out⟩
  ·
   have b1 : (n == 0) = false := beq_eq_false_iff_ne.2 e1
   by_cases e2 : 0 < es.length
   ·
    have hre : re = 9 := by rw [HRE.out, if_neg (by simp), if_neg e1, if_pos e2]
    have HNZ : Hid (re ≠ 0) := Lib.hid (by rw [hre]; decide)
    have hSS := HS.out.2 (by rw [hre]; decide)
    have HRS := Lib.hid (And.intro hre hSS)
    have d5 : (0 : Int) < (es.length : Int) := by omega
    clear hre hSS HS HRE HD HI e1 e2
    go_wp2_with (go_at_call 72; refine (HLI.out _ (HCT.out _ HB4.out)).mono ?_; rintro e w5 ⟨v5, rfl, ho5, hb5⟩; obtain ⟨A5, c5, rfl, -, -⟩ := Kd.R_reads ho5; have HB5 := Lib.hid (HB4.out.trans (hb5.mono HB4.out.size)); clear hb5 ho5 x0 x1 r0 r1 f0 f1; obtain ⟨⟨x0, x1⟩, ⟨r0, r1⟩, f0, f1⟩ := HX.out _ HB5.out)
    obtain ⟨hre, hSS⟩ := HRS.out
    have e3 := (HB5.out.block _ (blk_lt HR2.out)).trans HR2.out
    have hT := res_cells (.slice A L.length c) (.int .i64 last) e3
    have hB9 : Below w.heap.size w ((w5.setCell ⟨b + 1, 0, none⟩ (.slice A L.length c)).setCell ⟨b + 1, 1, none⟩ (.int .i64 last)) := ((HB2.out.trans (HB5.out.mono HB2.out.size)).setCell (p := ⟨b + 1, 0, none⟩) (by rw [HW0.out]; exact Nat.le_succ b) (.slice A L.length c)).setCell (p := ⟨b + 1, 1, none⟩) (by rw [HW0.out]; exact Nat.le_succ b) (.int .i64 last)
    generalize (w5.setCell ⟨b + 1, 0, none⟩ (.slice A L.length c)).setCell ⟨b + 1, 1, none⟩ (.int .i64 last) = w9 at hT hB9 ⊢
    obtain ⟨t0, t1⟩ := hT
    refine bodyPost_ret (v := .tuple #[.agg #[.slice A L.length c, .int .i64 last], .int .i64 9]) (by simp [results, Tryz.results108, go_sem, t0, t1, hu30]) rfl ⟨.agg #[.slice A L.length c, .int .i64 last], by rw [hre], by rw [hSS]; exact ⟨A, c, rfl, hle, Kd.C_below HC.out hB9⟩, hB9, fun hz => absurd hz HNZ.out⟩
   ·
    have hre : re = 0 := by rw [HRE.out, if_neg (by simp), if_neg e1, if_neg e2]
    have hSS := HS.out.1 hre
    have HRS := Lib.hid (And.intro hre hSS)
    have e3 : es = [] := List.eq_nil_of_length_eq_zero (by omega)
    subst e3
    clear hre hSS HS HRE HD HI e1 e2
    go_upto_region 10 with (go_at_call 72; refine (HLI.out _ (HCT.out _ HB4.out)).mono ?_; rintro e w5 ⟨v5, rfl, ho5, hb5⟩; obtain ⟨A5, c5, rfl, -, -⟩ := Kd.R_reads ho5; have HB5 := Lib.hid (HB4.out.trans (hb5.mono HB4.out.size)); clear hb5 ho5 x0 x1 r0 r1 f0 f1; obtain ⟨⟨x0, x1⟩, ⟨r0, r1⟩, f0, f1⟩ := HX.out _ HB5.out)
    go_wp2
    go_loopw [10, 11] (fun v10 v11 wr => ∃ i : Nat, v11 = .int .i64 (i : Int) ∧ i ≤ L.length ∧ Kd.R k106 106 wr w5.heap.size (fun _ => True) v10 (cutL (L.take i) n) ∧ Below w5.heap.size w5 wr) (fun _ v _ => L.length - (intOf v).toNat)
    case atStart => exact ⟨0, rfl, Nat.zero_le _, Kd.R_nil _ _ _ _ _, Below.refl _ _⟩
    case round =>
     obtain ⟨i, rfl, hi, hO, hB⟩ := hrel
     have HO := Lib.hid hO
     have HB := Lib.hid (HB5.out.trans (hB.mono HB5.out.size))
     have HBW := Lib.hid hB
     clear hO hB x0 x1 r0 r1 f0 f1
     obtain ⟨⟨x0, x1⟩, ⟨r0, r1⟩, f0, f1⟩ := HX.out _ HB.out
     by_cases h : i < L.length
     ·
      obtain ⟨ad, eA, c0, c1, c2, c3, c4⟩ := at_T106 (HCT.out _ HB.out) (i : Int) (by omega) (by omega)
      rw [rdN_get h, Int.toNat_natCast] at c0 c1 c2 c3 c4
      subst eA
      have hlt : (i : Int) < (L.length : Int) := by omega
      have hct := cutL_take L n h
      by_cases he : L[i].f0 = n
      ·
       rw [if_pos he] at hct
       have HCU := Lib.hid hct
       have b3 : (L[i].f0 != n) = false := bne_eq_false_iff_eq.2 he
       clear hct he
       go_wp2
       go_roundw
       case rel => exact ⟨i + 1, by have := HLL.out; rw [w1 (by omega)], h, by rw [HCU.out]; exact HO.out, HBW.out⟩
       case measure => exact meas_big h (by have := HLL.out; omega)
      ·
       rw [if_neg he] at hct
       have HCU := Lib.hid hct
       have b3 : (L[i].f0 != n) = true := bne_iff_ne.2 he
       have HLN := Lib.hid (show (cutL (L.take i) n).length ≤ 4096 from Nat.le_trans (List.length_filter_le _ _) (by rw [List.length_take]; have := HLL.out; omega))
       clear hct he
       generalize L[i] = q at *
       go_wp2_with ((with_reducible refine gate_builtin (b := .append) (xs := #[.tmp 47, .tmp 53]) rfl ?_); at_builtin; refine Kd.R_append k106 (w0 := w5) w5.heap.size rfl (.tmp 47) (.tmp 53) 28 106 (.agg #[(.int .i64 0), (.int .i64 0), (.string ⟨#[]⟩), (.int .i64 0), (.string ⟨#[]⟩)]) 56 rfl Tryz.underlying28 info106 rfl (by decide) (by omega) _ (cutL (L.take i) n) q _ (fun _ => True) (fun _ => False) rfl rfl (k106_mkM _ _ _ _) (fun _ hk => hk.elim) (fun _ _ => trivial) HO.out HBW.out HBW.out.size (by have := HLN.out; omega) ?_; intro v6 w6 ho6 hb6 hg6 hat6; have HO6 := Lib.hid ho6; have HB6 := Lib.hid hb6; clear ho6 hb6 hg6 hat6)
       go_roundw
       case rel =>
        exact ⟨i + 1, by have := HLL.out; rw [w1 (by omega)], h, by rw [HCU.out]; exact HO6.out, HB6.out⟩
       case measure => exact meas_big h (by have := HLL.out; omega)
     ·
      obtain rfl : i = L.length := by omega
      have h' : ¬ ((L.length : Int) < (L.length : Int)) := by omega
      rw [List.take_length] at HO
      obtain ⟨A6, c6, rfl, hl6, -⟩ := Kd.R_reads HO.out
      have hlt2 := blk_lt HR2.out
      have hOO := rfar2 (b := b + 1) (u := .slice A6 (cutL L n).length c6) (u' := .int .i64 last) HO.out (show b + 1 < w5.heap.size by have := HB5.out.size; omega)
      have HW5 : Hid (w.heap.size < w5.heap.size) := Lib.hid (by have := HB5.out.size; have := HW0.out; omega)
      have HOO := Lib.hid hOO
      clear hOO h hlt2
      go_wp2
      have hOO := HOO.out
      obtain ⟨hre, hSS⟩ := HRS.out
      have e3 := (HB.out.block _ (blk_lt HR2.out)).trans HR2.out
      have hT := res_cells (.slice A6 (cutL L n).length c6) (.int .i64 last) e3
      have hB9 : Below w.heap.size w ((wr.setCell ⟨b + 1, 0, none⟩ (.slice A6 (cutL L n).length c6)).setCell ⟨b + 1, 1, none⟩ (.int .i64 last)) := ((HB2.out.trans (HB.out.mono HB2.out.size)).setCell (p := ⟨b + 1, 0, none⟩) (by rw [HW0.out]; exact Nat.le_succ b) (.slice A6 (cutL L n).length c6)).setCell (p := ⟨b + 1, 1, none⟩) (by rw [HW0.out]; exact Nat.le_succ b) (.int .i64 last)
      generalize (wr.setCell ⟨b + 1, 0, none⟩ (.slice A6 (cutL L n).length c6)).setCell ⟨b + 1, 1, none⟩ (.int .i64 last) = w9 at hT hB9 hOO ⊢
      obtain ⟨t0, t1⟩ := hT
      refine bodyPost_ret (v := .tuple #[.agg #[.slice A6 (cutL L n).length c6, .int .i64 last], .int .i64 0]) (by simp [results, Tryz.results108, go_sem, t0, t1, hu30]) rfl ⟨.agg #[.slice A6 (cutL L n).length c6, .int .i64 last], by rw [hre], by rw [hSS]; exact (by obtain ⟨A9, c9, e9, h9, hC9⟩ := Kd.R_reads hOO; exact ⟨A9, c9, by rw [e9], h9, hC9⟩), hB9, fun _ => ⟨A6, c6, w5.heap.size, rfl, HW5.out, hOO⟩⟩
 ·
  have hre : re = de := by rw [HRE.out, if_pos e0]
  have HNZ : Hid (re ≠ 0) := Lib.hid (by rw [hre]; exact e0)
  have hSS := HS.out.2 (by rw [hre]; exact e0)
  have b0 : (de != 0) = true := bne_iff_ne.2 e0
  have HRS := Lib.hid (And.intro hre hSS)
  clear hre hSS HS HRE HD HI HLI e0
  go_wp2
  obtain ⟨hre, hSS⟩ := HRS.out
  have e3 := (HB3.out.block _ (blk_lt HR2.out)).trans HR2.out
  have hT := res_cells (.slice A L.length c) (.int .i64 last) e3
  have hB9 : Below w.heap.size w ((w3.setCell ⟨b + 1, 0, none⟩ (.slice A L.length c)).setCell ⟨b + 1, 1, none⟩ (.int .i64 last)) := ((HB2.out.trans (HB3.out.mono HB2.out.size)).setCell (p := ⟨b + 1, 0, none⟩) (by rw [HW0.out]; exact Nat.le_succ b) (.slice A L.length c)).setCell (p := ⟨b + 1, 1, none⟩) (by rw [HW0.out]; exact Nat.le_succ b) (.int .i64 last)
  generalize (w3.setCell ⟨b + 1, 0, none⟩ (.slice A L.length c)).setCell ⟨b + 1, 1, none⟩ (.int .i64 last) = w9 at hT hB9 ⊢
  obtain ⟨t0, t1⟩ := hT
  refine bodyPost_ret (v := .tuple #[.agg #[.slice A L.length c, .int .i64 last], .int .i64 de]) (by simp [results, Tryz.results108, go_sem, t0, t1, hu30]) rfl ⟨.agg #[.slice A L.length c, .int .i64 last], by rw [hre], by rw [hSS]; exact ⟨A, c, rfl, hle, Kd.C_below HC.out hB9⟩, hB9, fun hz => absurd hz HNZ.out⟩
end Go.Proofs.YtnpeeiikdcankaaGreat.Tw

namespace Go.Proofs.YtnpeeiikdcankaaGreat.Tw
open Go Go.RowKit Go.Shelf Go.Proofs Go.Proofs.YtnpeeiikdcankaaGreat Go.Proofs.YtnpeeiikdcankaaGreatW.PrintWords Go.Proofs.YtnpeeiikdcankaaGreat.Ext Go.Proofs.YtnpeeiikdcankaaGreat.X Go.Proofs.YtnpeeiikdcankaaGreat.Pu
def preE (L : List RN) (fr : Int) (s : ByteArray) (td : Int) (z : ByteArray) : Int :=
 if dirE (atR L fr).f3 ≠ 0 then dirE (atR L fr).f3 else if dirE (atR L td).f3 ≠ 0 then dirE (atR L td).f3 else if inR L fr s = 0 then 5 else Sp.check z.data.toList
theorem movP_pre {L : List RN} {last fr td : Int} {s z : ByteArray} (h : preE L fr s td z ≠ 0) : movP L last fr s td z = preE L fr s td z ∧ movM L last fr s td z = L := by
 have h1 : movP L last fr s td z = preE L fr s td z := by
  unfold movP movRE
  unfold preE at h ⊢
  split
  · rfl
  ·
   split
   · rfl
   ·
    split
    · rfl
    ·
     split
     · rfl
     ·
      rename_i g1 g2 g3 g4
      rw [if_neg g1, if_neg g2, if_neg g3] at h
      exact absurd h g4
 refine ⟨h1, ?_⟩
 unfold movM
 rw [if_neg (fun q => by rw [h1] at q; exact h q.1)]
theorem movP_post {L : List RN} {last fr td : Int} {s z : ByteArray} (h : preE L fr s td z = 0) : dirE (atR L fr).f3 = 0 ∧ dirE (atR L td).f3 = 0 ∧ inR L fr s ≠ 0 ∧ Sp.check z.data.toList = 0 ∧
  movP L last fr s td z = (if (atR L (inR L fr s)).f3 = 1 ∧ insV L last td (inR L fr s) = true then 14 else if (roomRE L (inR L fr s) td z).1 = true then 0 else (roomRE L (inR L fr s) td z).2) := by
 unfold preE at h
 split at h
 · rename_i g; exact absurd h g
 ·
  rename_i g1
  split at h
  · rename_i g; exact absurd h g
  ·
   rename_i g2
   split at h
   · cases h
   ·
    rename_i g3
    refine ⟨Decidable.byContradiction g1, Decidable.byContradiction g2, g3, h, ?_⟩
    unfold movP movRE
    rw [if_neg g1, if_neg g2, if_neg g3, if_neg (fun q => q h)]
theorem node_set {W : World} {r : Nat} {a0 a1 a2 a3 a4 : Value} {t : TypeId} (v1 v2 : Value) (h : W.heap[r]? = some (.cells #[a0, a1, a2, a3, a4] t (0, 0))) :
  (W.setCell ⟨r, 1, none⟩ v1).heap[r]? = some (.cells #[a0, v1, a2, a3, a4] t (0, 0)) ∧ ((W.setCell ⟨r, 1, none⟩ v1).setCell ⟨r, 2, none⟩ v2).heap[r]? = some (.cells #[a0, v1, v2, a3, a4] t (0, 0)) := by
 have e1 := setCell_eq_setRow W r 1 _ _ _ v1 h
 have k1 : (W.setCell ⟨r, 1, none⟩ v1).heap[r]? = some (.cells #[a0, v1, a2, a3, a4] t (0, 0)) := by rw [e1, setRow_heap W _ _ _ _ _ h]; rfl
 have e2 := setCell_eq_setRow _ r 2 _ _ _ v2 k1
 exact ⟨k1, by rw [e2, setRow_heap _ _ _ _ _ _ k1]; rfl⟩
theorem rfar12 {w : World} {base b : Nat} {v u u' : Value} {l : List RN} (h : Kd.R k106 106 w base (fun _ => True) v l) (hb : b < base) :
  Kd.R k106 106 ((w.setCell ⟨b, 1, none⟩ u).setCell ⟨b, 2, none⟩ u') base (fun _ => True) v l := by
 have h1 := Kd.R_mono (Kd.R_bound h) (ok' := fun k => k ≠ b) (fun k hk => by have := hk.2.1; omega)
 exact Kd.R_mono (Kd.R_far (p := ⟨b, 2, none⟩) (Kd.R_far (p := ⟨b, 1, none⟩) h1 (fun k hk => hk) u) (fun k hk => hk) u') (fun _ _ => trivial)
theorem box_cells {W : World} {b : Nat} {u0 u1 : Value} (h : W.heap[b]? = some (.cells #[u0, u1] 30 (0, 0))) :
  (W.cell? ⟨b, 0, none⟩ = some u0 ∧ W.cell? ⟨b, 1, none⟩ = some u1) ∧ (W.frozen? ⟨b, 0, none⟩ = false ∧ W.frozen? ⟨b, 1, none⟩ = false) :=
 ⟨⟨by rw [blk_cell h]; rfl, by rw [blk_cell h]; rfl⟩, blk_frozen h 0, blk_frozen h 1⟩
theorem two_other {w : World} {k j : Nat} {u0 u1 : Value} {i0 i1 : Nat} {X : Option Obj} (hne : j ≠ k) (h : w.heap[j]? = X) : ((w.setCell ⟨k, i0, none⟩ u0).setCell ⟨k, i1, none⟩ u1).heap[j]? = X := by
 rw [Below.heap_setCell _ ⟨k, i1, none⟩ u1 j hne, Below.heap_setCell w ⟨k, i0, none⟩ u0 j hne, h]
theorem node_cells {W : World} {g : Nat} {a0 a1 a3 : Int} {a2 a4 : ByteArray} {t : TypeId} (h : W.heap[g]? = some (.cells #[.int .i64 a0, .int .i64 a1, .string a2, .int .i64 a3, .string a4] t (0, 0))) :
  W.cell? ⟨g, 0, none⟩ = some (.int .i64 a0) ∧ W.cell? ⟨g, 1, none⟩ = some (.int .i64 a1) ∧ W.cell? ⟨g, 2, none⟩ = some (.string a2) ∧ W.cell? ⟨g, 3, none⟩ = some (.int .i64 a3) ∧ W.cell? ⟨g, 4, none⟩ = some (.string a4) := by
 refine ⟨?_, ?_, ?_, ?_, ?_⟩ <;> (rw [blk_cell h]; rfl)
set_option maxHeartbeats 4000000 in
set_option maxRecDepth 1000000 in
theorem rmove_pre (L : List RN) (last : Int) (v : Value) (fr : Int) (s : ByteArray) (td : Int) (z : ByteArray) (w : World) (h : RAt w v L last) (hG : GoodL L last) (hM : GoodM L) (he : preE L fr s td z ≠ 0) :
  Calls Tryz.prog 109 #[v, .int .i64 fr, .string s, .int .i64 td, .string z] w fun e w' => ∃ v', e = .returned (.tuple #[v', .int .i64 (movP L last fr s td z)]) ∧ RAt w' v' (movM L last fr s td z) last ∧ Below w.heap.size w w' := by
 obtain ⟨A, c, rfl, hle, hC⟩ := h
 have hl := hG.len
 have hu30 := Tryz.underlying30
 have hu106 := Tryz.underlying106
 obtain ⟨k1, hk1⟩ := (r07_dir L fr last (by omega)).rounds
 obtain ⟨k2, hk2⟩ := (r07_dir L td last (by omega)).rounds
 obtain ⟨k3, hk3⟩ := (r07_in L fr last s (by omega)).rounds
 obtain ⟨k4, hk4⟩ := (r03_check z).rounds
 have HD1 := Lib.hid (fun W h => linhayref07_dir.calls k1 A c L last fr _ W h hle hk1)
 have HD2 := Lib.hid (fun W h => linhayref07_dir.calls k2 A c L last td _ W h hle hk2)
 have HI := Lib.hid (fun W h => linhayref07_In.calls k3 A c L last fr s _ W h hle hk3)
 have HCK := Lib.hid (fun W => linhayref03_Check.calls k4 z _ W hk4)
 obtain ⟨q1, q2, q3⟩ := two_blocks w (.cells #[.slice A L.length c, .int .i64 last] 30) (.cells #[.slice none 0 0, .int .i64 0] 30)
 have HK := Lib.hid (And.intro q1 (And.intro q2 q3))
 have HC := Lib.hid hC
 obtain ⟨hre0, hSS0⟩ := movP_pre (last := last) he
 have HRS := Lib.hid (And.intro hre0 hSS0)
 have HPE : Hid (preE L fr s td z = if dirE (atR L fr).f3 ≠ 0 then dirE (atR L fr).f3 else if dirE (atR L td).f3 ≠ 0 then dirE (atR L td).f3 else if inR L fr s = 0 then 5 else Sp.check z.data.toList) := Lib.hid rfl
 generalize movM L last fr s td z = SS at *
 generalize movP L last fr s td z = re at *
 generalize preE L fr s td z = pe at *
 generalize dirE (atR L fr).f3 = de1 at *
 generalize dirE (atR L td).f3 = de2 at *
 generalize inR L fr s = n at *
 generalize Sp.check z.data.toList = ck at *
 have HNE := Lib.hid he
 clear hC q1 q2 q3 hk1 hk2 hk3 hk4 hre0 hSS0 he hG hM
 go_enter Tryz.func109, Tryz.ntmps109
 go_upto_region 1 with (fail)
 generalize (w.alloc (.cells #[.slice A L.length c, .int .i64 last] 30)).alloc (.cells #[.slice none 0 0, .int .i64 0] 30) = w2 at HK ⊢
 have HR1 := Lib.hid HK.out.1
 have HR2 := Lib.hid HK.out.2.1
 have HB2 := Lib.hid HK.out.2.2
 clear HK
 generalize hb0 : w.heap.size = b at HR1 HR2 ⊢
 have HW0 := Lib.hid hb0
 clear hb0
 have HX := Lib.hid (fun (W : World) (hb : Below w2.heap.size w2 W) => show (W.cell? ⟨b, 0, none⟩ = some (.slice A L.length c) ∧ W.cell? ⟨b, 1, none⟩ = some (.int .i64 last)) ∧ (W.cell? ⟨b + 1, 0, none⟩ = some (.slice none 0 0) ∧ W.cell? ⟨b + 1, 1, none⟩ = some (.int .i64 0)) ∧ (W.frozen? ⟨b + 1, 0, none⟩ = false ∧ W.frozen? ⟨b + 1, 1, none⟩ = false) by
  have e1 := (hb.block _ (blk_lt HR1.out)).trans HR1.out
  have e2 := (hb.block _ (blk_lt HR2.out)).trans HR2.out
  exact ⟨⟨by rw [blk_cell e1]; rfl, by rw [blk_cell e1]; rfl⟩, ⟨by rw [blk_cell e2]; rfl, by rw [blk_cell e2]; rfl⟩, blk_frozen e2 0, blk_frozen e2 1⟩)
 have HCT := Lib.hid (fun (W : World) (hb : Below w2.heap.size w2 W) => Kd.C_below HC.out (HB2.out.trans (hb.mono HB2.out.size)))
 have HBi := Lib.hid (Below.refl w2.heap.size w2)
 obtain ⟨⟨x0, x1⟩, ⟨r0, r1⟩, f0, f1⟩ := HX.out _ HBi.out
 go_upto_region 2 with (go_at_call 103; refine (HD1.out _ (HCT.out _ HBi.out)).mono ?_; rintro e w3 ⟨rfl, hb⟩; have HB3 := Lib.hid (HBi.out.trans (hb.mono HBi.out.size)); clear hb; clear x0 x1 r0 r1 f0 f1; obtain ⟨⟨x0, x1⟩, ⟨r0, r1⟩, f0, f1⟩ := HX.out _ HB3.out)
 by_cases e0 : de1 = 0
 ·
  subst e0
  go_upto_region 4 with (go_at_call 103; refine (HD2.out _ (HCT.out _ HB3.out)).mono ?_; rintro e w4 ⟨rfl, hb⟩; have HB4 := Lib.hid (HB3.out.trans (hb.mono HB3.out.size)); clear hb; clear x0 x1 r0 r1 f0 f1; obtain ⟨⟨x0, x1⟩, ⟨r0, r1⟩, f0, f1⟩ := HX.out _ HB4.out)
  by_cases e1 : de2 = 0
  ·
   subst e1
   go_upto_region 5 with (go_at_call 105; refine (HI.out _ (HCT.out _ HB4.out)).mono ?_; rintro e w5 ⟨rfl, hb⟩; have HB5 := Lib.hid (HB4.out.trans (hb.mono HB4.out.size)); clear hb; clear x0 x1 r0 r1 f0 f1; obtain ⟨⟨x0, x1⟩, ⟨r0, r1⟩, f0, f1⟩ := HX.out _ HB5.out)
   by_cases e2 : n = 0
   ·
    subst e2
    obtain rfl : pe = 5 := by rw [HPE.out, if_neg (by simp), if_neg (by simp), if_pos rfl]
    clear HPE HNE HD1 HD2 HI HCK
    go_wp2
    obtain ⟨hre, hSS⟩ := HRS.out
    have e3 := (HB5.out.block _ (blk_lt HR2.out)).trans HR2.out
    have hT := res_cells (.slice A L.length c) (.int .i64 last) e3
    have hB9 : Below w.heap.size w ((w5.setCell ⟨b + 1, 0, none⟩ (.slice A L.length c)).setCell ⟨b + 1, 1, none⟩ (.int .i64 last)) := ((HB2.out.trans (HB5.out.mono HB2.out.size)).setCell (p := ⟨b + 1, 0, none⟩) (by rw [HW0.out]; exact Nat.le_succ b) (.slice A L.length c)).setCell (p := ⟨b + 1, 1, none⟩) (by rw [HW0.out]; exact Nat.le_succ b) (.int .i64 last)
    generalize (w5.setCell ⟨b + 1, 0, none⟩ (.slice A L.length c)).setCell ⟨b + 1, 1, none⟩ (.int .i64 last) = w9 at hT hB9 ⊢
    obtain ⟨t0, t1⟩ := hT
    refine bodyPost_ret (v := .tuple #[.agg #[.slice A L.length c, .int .i64 last], .int .i64 5]) (by simp [results, Tryz.results109, go_sem, t0, t1, hu30]) rfl ⟨.agg #[.slice A L.length c, .int .i64 last], by rw [hre], by rw [hSS]; exact ⟨A, c, rfl, hle, Kd.C_below HC.out hB9⟩, hB9⟩
   ·
    obtain rfl : pe = ck := by rw [HPE.out, if_neg (by simp), if_neg (by simp), if_neg e2]
    have b2 : (n == 0) = false := beq_eq_false_iff_ne.2 e2
    have b3 : (pe != 0) = true := bne_iff_ne.2 HNE.out
    clear HPE HNE HD1 HD2 HI e2
    go_wp2_with (go_at_call 104; refine (HCK.out _).mono ?_; rintro e w6 ⟨rfl, hd⟩; have HB6 := Lib.hid (HB5.out.trans (hd.below.mono HB5.out.size)); clear hd; clear x0 x1 r0 r1 f0 f1; obtain ⟨⟨x0, x1⟩, ⟨r0, r1⟩, f0, f1⟩ := HX.out _ HB6.out)
    obtain ⟨hre, hSS⟩ := HRS.out
    have e3 := (HB6.out.block _ (blk_lt HR2.out)).trans HR2.out
    have hT := res_cells (.slice A L.length c) (.int .i64 last) e3
    have hB9 : Below w.heap.size w ((w6.setCell ⟨b + 1, 0, none⟩ (.slice A L.length c)).setCell ⟨b + 1, 1, none⟩ (.int .i64 last)) := ((HB2.out.trans (HB6.out.mono HB2.out.size)).setCell (p := ⟨b + 1, 0, none⟩) (by rw [HW0.out]; exact Nat.le_succ b) (.slice A L.length c)).setCell (p := ⟨b + 1, 1, none⟩) (by rw [HW0.out]; exact Nat.le_succ b) (.int .i64 last)
    generalize (w6.setCell ⟨b + 1, 0, none⟩ (.slice A L.length c)).setCell ⟨b + 1, 1, none⟩ (.int .i64 last) = w9 at hT hB9 ⊢
    obtain ⟨t0, t1⟩ := hT
    refine bodyPost_ret (v := .tuple #[.agg #[.slice A L.length c, .int .i64 last], .int .i64 pe]) (by simp [results, Tryz.results109, go_sem, t0, t1, hu30]) rfl ⟨.agg #[.slice A L.length c, .int .i64 last], by rw [hre], by rw [hSS]; exact ⟨A, c, rfl, hle, Kd.C_below HC.out hB9⟩, hB9⟩
  ·
   obtain rfl : pe = de2 := by rw [HPE.out, if_neg (by simp), if_pos e1]
   have b2 : (pe == 0) = false := beq_eq_false_iff_ne.2 e1
   have b3 : (pe != 0) = true := bne_iff_ne.2 e1
   clear HPE HNE HD1 HD2 HCK e1
   go_wp2_with (go_at_call 105; refine (HI.out _ (HCT.out _ HB4.out)).mono ?_; rintro e w5 ⟨rfl, hb⟩; have HB5 := Lib.hid (HB4.out.trans (hb.mono HB4.out.size)); clear hb; clear x0 x1 r0 r1 f0 f1; obtain ⟨⟨x0, x1⟩, ⟨r0, r1⟩, f0, f1⟩ := HX.out _ HB5.out)
   obtain ⟨hre, hSS⟩ := HRS.out
   have e3 := (HB5.out.block _ (blk_lt HR2.out)).trans HR2.out
   have hT := res_cells (.slice A L.length c) (.int .i64 last) e3
   have hB9 : Below w.heap.size w ((w5.setCell ⟨b + 1, 0, none⟩ (.slice A L.length c)).setCell ⟨b + 1, 1, none⟩ (.int .i64 last)) := ((HB2.out.trans (HB5.out.mono HB2.out.size)).setCell (p := ⟨b + 1, 0, none⟩) (by rw [HW0.out]; exact Nat.le_succ b) (.slice A L.length c)).setCell (p := ⟨b + 1, 1, none⟩) (by rw [HW0.out]; exact Nat.le_succ b) (.int .i64 last)
   generalize (w5.setCell ⟨b + 1, 0, none⟩ (.slice A L.length c)).setCell ⟨b + 1, 1, none⟩ (.int .i64 last) = w9 at hT hB9 ⊢
   obtain ⟨t0, t1⟩ := hT
   refine bodyPost_ret (v := .tuple #[.agg #[.slice A L.length c, .int .i64 last], .int .i64 pe]) (by simp [results, Tryz.results109, go_sem, t0, t1, hu30]) rfl ⟨.agg #[.slice A L.length c, .int .i64 last], by rw [hre], by rw [hSS]; exact ⟨A, c, rfl, hle, Kd.C_below HC.out hB9⟩, hB9⟩
 ·
  obtain rfl : pe = de1 := by rw [HPE.out, if_pos e0]
  have b2 : (pe == 0) = false := beq_eq_false_iff_ne.2 e0
  have b3 : (pe != 0) = true := bne_iff_ne.2 e0
  clear HPE HNE HD1 HD2 HCK e0
  go_wp2_with (go_at_call 105; refine (HI.out _ (HCT.out _ HB3.out)).mono ?_; rintro e w5 ⟨rfl, hb⟩; have HB5 := Lib.hid (HB3.out.trans (hb.mono HB3.out.size)); clear hb; clear x0 x1 r0 r1 f0 f1; obtain ⟨⟨x0, x1⟩, ⟨r0, r1⟩, f0, f1⟩ := HX.out _ HB5.out)
  obtain ⟨hre, hSS⟩ := HRS.out
  have e3 := (HB5.out.block _ (blk_lt HR2.out)).trans HR2.out
  have hT := res_cells (.slice A L.length c) (.int .i64 last) e3
  have hB9 : Below w.heap.size w ((w5.setCell ⟨b + 1, 0, none⟩ (.slice A L.length c)).setCell ⟨b + 1, 1, none⟩ (.int .i64 last)) := ((HB2.out.trans (HB5.out.mono HB2.out.size)).setCell (p := ⟨b + 1, 0, none⟩) (by rw [HW0.out]; exact Nat.le_succ b) (.slice A L.length c)).setCell (p := ⟨b + 1, 1, none⟩) (by rw [HW0.out]; exact Nat.le_succ b) (.int .i64 last)
  generalize (w5.setCell ⟨b + 1, 0, none⟩ (.slice A L.length c)).setCell ⟨b + 1, 1, none⟩ (.int .i64 last) = w9 at hT hB9 ⊢
  obtain ⟨t0, t1⟩ := hT
  refine bodyPost_ret (v := .tuple #[.agg #[.slice A L.length c, .int .i64 last], .int .i64 pe]) (by simp [results, Tryz.results109, go_sem, t0, t1, hu30]) rfl ⟨.agg #[.slice A L.length c, .int .i64 last], by rw [hre], by rw [hSS]; exact ⟨A, c, rfl, hle, Kd.C_below HC.out hB9⟩, hB9⟩
end Go.Proofs.YtnpeeiikdcankaaGreat.Tw
