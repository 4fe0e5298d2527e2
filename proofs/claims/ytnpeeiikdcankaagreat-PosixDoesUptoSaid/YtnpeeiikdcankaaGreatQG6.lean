/- Texts of this session, merged: RmoveD, RmoveF, PosQ, PosL, PosO, Rnine, RnineB, PosW, Rdo, X3, X16, Same7. -/
import Derived.Test.YtnpeeiikdcankaaGreatQG1
import Derived.Test.YtnpeeiikdcankaaGreatQG2
import Derived.Test.YtnpeeiikdcankaaGreatQG3
import Derived.Test.YtnpeeiikdcankaaGreatQG5

set_option linter.unusedVariables false
set_option linter.unusedSimpArgs false

namespace Go.Proofs.YtnpeeiikdcankaaGreat.Tw
open Go Go.RowKit Go.Shelf Go.Proofs Go.Proofs.YtnpeeiikdcankaaGreat Go.Proofs.YtnpeeiikdcankaaGreatW.PrintWords Go.Proofs.YtnpeeiikdcankaaGreat.Ext Go.Proofs.YtnpeeiikdcankaaGreat.X Go.Proofs.YtnpeeiikdcankaaGreat.Pu
set_option maxHeartbeats 4000000 in
set_option maxRecDepth 1000000 in
theorem rmove_dir (L : List RN) (last : Int) (v : Value) (fr : Int) (s : ByteArray) (td : Int) (z : ByteArray) (w : World) (h : RAt w v L last) (hG : GoodL L last) (hM : GoodM L) (he : preE L fr s td z = 0) (hf : (atR L (inR L fr s)).f3 = 1) :
  Calls Tryz.prog 109 #[v, .int .i64 fr, .string s, .int .i64 td, .string z] w fun e w' => ∃ v', e = .returned (.tuple #[v', .int .i64 (movP L last fr s td z)]) ∧ RAt w' v' (movM L last fr s td z) last ∧ Below w.heap.size w w' := by
 obtain ⟨A, c, rfl, hle, hC⟩ := h
 have hl := hG.len
 have hu30 := Tryz.underlying30
 have hu106 := Tryz.underlying106
 obtain ⟨k1, hk1⟩ := (r07_dir L fr last (by omega)).rounds
 obtain ⟨k2, hk2⟩ := (r07_dir L td last (by omega)).rounds
 obtain ⟨k3, hk3⟩ := (r07_in L fr last s (by omega)).rounds
 obtain ⟨k4, hk4⟩ := (r03_check z).rounds
 have HD1 := Lib.hid (fun W h => linhayref07_dir.calls k1 A c L last fr _ W h hle hk1)
 have HD2 := Lib.hid (fun W h => linhayref07_dir.calls k2 A c L last td _ W h hle hk2)
 have HI := Lib.hid (fun W h => linhayref07_In.calls k3 A c L last fr s _ W h hle hk3)
 have HCK := Lib.hid (fun W => linhayref03_Check.calls k4 z _ W hk4)
 obtain ⟨q1, q2, q3⟩ := two_blocks w (.cells #[.slice A L.length c, .int .i64 last] 30) (.cells #[.slice none 0 0, .int .i64 0] 30)
 have HK := Lib.hid (And.intro q1 (And.intro q2 q3))
 have HC := Lib.hid hC
 obtain ⟨z1, z2, z3, z4, z5⟩ := movP_post (last := last) he
 obtain ⟨ka, hka⟩ := (r07_at L (inR L fr s) last (by omega)).rounds
 obtain ⟨ko, hko⟩ := (r07_at L (inR L td z) last (by omega)).rounds
 obtain ⟨k5, hk5⟩ := (r07_in L td last z (by omega)).rounds
 obtain ⟨ki, bi, hki⟩ := ins_ex hG hM (inR L fr s) td (by rw [dirE_zero z2]; decide)
 have HIV : Hid (insV L last td (inR L fr s) = bi) := Lib.hid (by
  cases bi with
  | true => exact insV_true ⟨ki, hki⟩
  | false =>
   refine insV_false ?_
   rintro ⟨k', hk'⟩
   have := insF_det hki hk'
   cases this)
 have HAT := Lib.hid (fun W h => linhayref07_At.calls ka A c L last (inR L fr s) _ _ _ _ _ W h hle hka)
 have HAO := Lib.hid (fun W h => linhayref07_At.calls ko A c L last (inR L td z) _ _ _ _ _ W h hle hko)
 have HI2 := Lib.hid (fun W h => linhayref07_In.calls k5 A c L last td z _ W h hle hk5)
 have HCUT := Lib.hid (fun W h => rcut_calls L last (.agg #[.slice A L.length c, .int .i64 last]) td z W h hG)
 have HWI := Lib.hid (fun L' v W h hl => rwith_own L' last v (movX L (inR L fr s) td z) W h hl)
 unfold movX at HWI
 simp only [] at HWI
 have HRM : Hid (roomRE L (inR L fr s) td z = if inR L td z = 0 then (false, 0) else if inR L td z = inR L fr s then (true, 0) else if (atR L (inR L td z)).f3 = 1 ∧ (atR L (inR L fr s)).f3 ≠ 1 then (false, 8) else if (atR L (inR L fr s)).f3 = 1 ∧ (atR L (inR L td z)).f3 ≠ 1 then (false, 7) else (false, cutRE L td z)) := Lib.hid rfl
 have HS : Hid (movM L last fr s td z = if movP L last fr s td z = 0 ∧ (roomRE L (inR L fr s) td z).1 = false then withL (if inR L td z = 0 then L else cutL L (inR L td z)) (movX L (inR L fr s) td z) else L) := Lib.hid rfl
 have HCS : Hid (cutS L td z = if cutRE L td z = 0 then cutL L (inR L td z) else L) := Lib.hid rfl
 have HON := Lib.hid (inR_le hG td z).1
 have HUP := Lib.hid (fun m => (node_of hG m))
 have HLEN := Lib.hid hl
 have HRE := Lib.hid z5
 have HATK := Lib.hid (fun m => (r07_at L m last (by omega)).rounds)
 unfold movX at HS
 rw [z1] at hk1
 rw [z2] at hk2
 rw [z4] at hk4
 have HD1 := Lib.hid (fun W h => linhayref07_dir.calls k1 A c L last fr _ W h hle hk1)
 have HD2 := Lib.hid (fun W h => linhayref07_dir.calls k2 A c L last td _ W h hle hk2)
 have HCK := Lib.hid (fun W => linhayref03_Check.calls k4 z _ W hk4)
 have HN0 := Lib.hid z3
 have HKI := Lib.hid hki
 generalize insV L last td (inR L fr s) = iv at *
 generalize movM L last fr s td z = SS at *
 generalize movP L last fr s td z = re at *
 generalize roomRE L (inR L fr s) td z = rm at *
 generalize cutS L td z = cs at *
 generalize cutRE L td z = ce at *
 generalize atR L (inR L td z) = y at *
 generalize atR L (inR L fr s) = q at *
 generalize inR L td z = o at *
 generalize inR L fr s = n at *
 obtain ⟨p0, p1, p2, p3, p4⟩ := q
 obtain ⟨y0, y1, y2, y3, y4⟩ := y
 simp only [] at HAT HAO HWI HS HRM HRE
 have HKN : Hid (p3 = 1) := Lib.hid hf
 have HLE := Lib.hid hle
 clear hf hC q1 q2 q3 hk1 hk2 hk3 hk4 hk5 hka hko hki z1 z2 z3 z4 z5 he hG hM hl
 go_enter Tryz.func109, Tryz.ntmps109
 go_upto_region 1 with (fail)
 generalize (w.alloc (.cells #[.slice A L.length c, .int .i64 last] 30)).alloc (.cells #[.slice none 0 0, .int .i64 0] 30) = w2 at HK ⊢
 have HR1 := Lib.hid HK.out.1
 have HR2 := Lib.hid HK.out.2.1
 have HB2 := Lib.hid HK.out.2.2
 clear HK
 generalize hb0 : w.heap.size = b at HR1 HR2 ⊢
 have HW0 := Lib.hid hb0
 clear hb0
 have HX := Lib.hid (fun (W : World) (hb : Below w2.heap.size w2 W) => show (W.cell? ⟨b, 0, none⟩ = some (.slice A L.length c) ∧ W.cell? ⟨b, 1, none⟩ = some (.int .i64 last)) ∧ (W.cell? ⟨b + 1, 0, none⟩ = some (.slice none 0 0) ∧ W.cell? ⟨b + 1, 1, none⟩ = some (.int .i64 0)) ∧ (W.frozen? ⟨b + 1, 0, none⟩ = false ∧ W.frozen? ⟨b + 1, 1, none⟩ = false) by
  have e1 := (hb.block _ (blk_lt HR1.out)).trans HR1.out
  have e2 := (hb.block _ (blk_lt HR2.out)).trans HR2.out
  exact ⟨⟨by rw [blk_cell e1]; rfl, by rw [blk_cell e1]; rfl⟩, ⟨by rw [blk_cell e2]; rfl, by rw [blk_cell e2]; rfl⟩, blk_frozen e2 0, blk_frozen e2 1⟩)
 have HCT := Lib.hid (fun (W : World) (hb : Below w2.heap.size w2 W) => Kd.C_below HC.out (HB2.out.trans (hb.mono HB2.out.size)))
 have HBi := Lib.hid (Below.refl w2.heap.size w2)
 obtain ⟨⟨x0, x1⟩, ⟨r0, r1⟩, f0, f1⟩ := HX.out _ HBi.out
 go_upto_region 3 with (go_at_call 103; refine (HD1.out _ (HCT.out _ HBi.out)).mono ?_; rintro e w3 ⟨rfl, hb⟩; have HB3 := Lib.hid (HBi.out.trans (hb.mono HBi.out.size)); clear hb; clear x0 x1 r0 r1 f0 f1; obtain ⟨⟨x0, x1⟩, ⟨r0, r1⟩, f0, f1⟩ := HX.out _ HB3.out)
 go_upto_region 4 with (go_at_call 103; refine (HD2.out _ (HCT.out _ HB3.out)).mono ?_; rintro e w4 ⟨rfl, hb⟩; have HB4 := Lib.hid (HB3.out.trans (hb.mono HB3.out.size)); clear hb; clear x0 x1 r0 r1 f0 f1; obtain ⟨⟨x0, x1⟩, ⟨r0, r1⟩, f0, f1⟩ := HX.out _ HB4.out)
 have b0 : (n == 0) = false := beq_eq_false_iff_ne.2 HN0.out
 go_upto_region 7 with (go_at_call 105; refine (HI.out _ (HCT.out _ HB4.out)).mono ?_; rintro e w5 ⟨rfl, hb⟩; have HB5 := Lib.hid (HB4.out.trans (hb.mono HB4.out.size)); clear hb; clear x0 x1 r0 r1 f0 f1; obtain ⟨⟨x0, x1⟩, ⟨r0, r1⟩, f0, f1⟩ := HX.out _ HB5.out)
 go_upto_region 9 with (go_at_call 104; refine (HCK.out _).mono ?_; rintro e w6 ⟨rfl, hd⟩; have HB6 := Lib.hid (HB5.out.trans (hd.below.mono HB5.out.size)); clear hd; clear x0 x1 r0 r1 f0 f1; obtain ⟨⟨x0, x1⟩, ⟨r0, r1⟩, f0, f1⟩ := HX.out _ HB6.out)
 go_upto_region 12 with (go_at_call 68; refine (HAT.out _ (HCT.out _ HB6.out)).mono ?_; rintro e w7 ⟨rfl, hb⟩; have HB7 := Lib.hid (HB6.out.trans (hb.mono HB6.out.size)); clear hb x0 x1 r0 r1 f0 f1)
 have HB8 := Lib.hid (HB7.out.alloc HB7.out.size (.cells #[.int .i64 p0, .int .i64 p1, .string p2, .int .i64 p3, .string p4] 106))
 have H8 := Lib.hid (heap_alloc_new w7 (.cells #[.int .i64 p0, .int .i64 p1, .string p2, .int .i64 p3, .string p4] 106))
 generalize w7.alloc (.cells #[.int .i64 p0, .int .i64 p1, .string p2, .int .i64 p3, .string p4] 106) = w8 at HB8 H8 ⊢
 have HG8 := Lib.hid HB7.out.size
 generalize w7.heap.size = g at H8 HG8 ⊢
 have HY := Lib.hid (fun (W : World) (hb : Below w8.heap.size w8 W) => (hb.block _ (blk_lt H8.out)).trans H8.out)
 obtain ⟨⟨x0, x1⟩, ⟨r0, r1⟩, f0, f1⟩ := HX.out _ HB8.out
 obtain ⟨-, -, -, t3, -⟩ := node_cells H8.out
 clear HD1 HD2 HI HCK HAT
 have b3 : (p3 == 1) = true := beq_iff_eq.2 HKN.out
 have b3' : (p3 != 1) = false := bne_eq_false_iff_eq.2 HKN.out
 go_wp2
 go_loopg [15] ki (fun kq v15 wr => ∃ m : Int, v15 = .int .i64 m ∧ Aside0 (insF (trOf L last) kq m n = some bi) ∧ Aside0 (Below w8.heap.size w8 wr))
 case atStart => exact ⟨td, rfl, Aside0.mk HKI.out, Aside0.mk (Below.refl _ _)⟩
 case round =>
  obtain ⟨m, rfl, HQ, HE⟩ := hrel
  clear HKI
  have HEr := Lib.hid HE.out
  have HBr := Lib.hid (HB8.out.trans (HE.out.mono HB8.out.size))
  clear HE x0 x1 r0 r1 f0 f1 t3
  obtain ⟨⟨x0, x1⟩, ⟨r0, r1⟩, f0, f1⟩ := HX.out _ HBr.out
  obtain ⟨-, -, -, t3, -⟩ := node_cells (HY.out _ HEr.out)
  cases gk with
  | zero => exact absurd HQ.out (by simp [insF])
  | succ k1 =>
  have hq := HQ.out
  clear HQ
  unfold insF at hq
  by_cases h1 : m = n
  ·
   subst h1
   rw [if_pos rfl] at hq
   have hq := Option.some.inj hq
   subst hq
   have hre : re = 14 := by rw [HRE.out, if_pos ⟨HKN.out, HIV.out⟩]
   have hSS : SS = L := by rw [HS.out, if_neg (fun e => by rw [hre] at e; cases e.1)]
   have HRS := Lib.hid (And.intro hre hSS)
   clear hre hSS HS HRE HRM HWI HCUT HAO HI2 HATK HUP HIV
   go_wp2
   obtain ⟨hre, hSS⟩ := HRS.out
   have e3 := (HBr.out.block _ (blk_lt HR2.out)).trans HR2.out
   have hT := res_cells (.slice A L.length c) (.int .i64 last) e3
   have hB9 : Below w.heap.size w ((wr.setCell ⟨b + 1, 0, none⟩ (.slice A L.length c)).setCell ⟨b + 1, 1, none⟩ (.int .i64 last)) := ((HB2.out.trans (HBr.out.mono HB2.out.size)).setCell (p := ⟨b + 1, 0, none⟩) (by rw [HW0.out]; exact Nat.le_succ b) (.slice A L.length c)).setCell (p := ⟨b + 1, 1, none⟩) (by rw [HW0.out]; exact Nat.le_succ b) (.int .i64 last)
   generalize (wr.setCell ⟨b + 1, 0, none⟩ (.slice A L.length c)).setCell ⟨b + 1, 1, none⟩ (.int .i64 last) = w9 at hT hB9 ⊢
   obtain ⟨t0, t1⟩ := hT
   refine bodyPost_ret (v := .tuple #[.agg #[.slice A L.length c, .int .i64 last], .int .i64 14]) (by simp [results, Tryz.results109, go_sem, t0, t1, hu30]) rfl ⟨.agg #[.slice A L.length c, .int .i64 last], by rw [hre], by rw [hSS]; exact ⟨A, c, rfl, hle, Kd.C_below HC.out hB9⟩, hB9⟩
  ·
   rw [if_neg h1] at hq
   have b1 : (m == n) = false := beq_eq_false_iff_ne.2 h1
   by_cases h2 : m = 1
   ·
    subst h2
    rw [if_pos rfl] at hq
    have hq := Option.some.inj hq
    subst hq
    have HRE1 : Hid (re = if rm.1 = true then 0 else rm.2) := Lib.hid (by rw [HRE.out, if_neg (fun e => by rw [HIV.out] at e; cases e.2)])
    clear HRE HIV HATK HUP h1
    go_upto_region 19 with (go_at_call 105; refine (HI2.out _ (HCT.out _ HBr.out)).mono ?_; rintro e w9 ⟨rfl, hb⟩; have HB9 := Lib.hid (HBr.out.trans (hb.mono HBr.out.size)); have HE9 := Lib.hid (HEr.out.trans (hb.mono HEr.out.size)); clear hb x0 x1 r0 r1 f0 f1; obtain ⟨⟨x0, x1⟩, ⟨r0, r1⟩, f0, f1⟩ := HX.out _ HB9.out)
    by_cases c1 : o = n
    ·
     have hrm : rm = (true, 0) := by rw [HRM.out, if_neg (by rw [c1]; exact HN0.out), if_pos c1]
     have hre : re = 0 := by rw [HRE1.out, hrm]; rfl
     have hSS : SS = L := by rw [HS.out, if_neg (fun e => by rw [hrm] at e; cases e.2)]
     have HRS := Lib.hid (And.intro hre hSS)
     clear hre hSS hrm HS HRE1 HRM HWI HCUT HAO
     have b1 : (o == n) = true := beq_iff_eq.2 c1
     clear c1
     go_wp2
     obtain ⟨hre, hSS⟩ := HRS.out
     have e3 := (HB9.out.block _ (blk_lt HR2.out)).trans HR2.out
     have hT := res_cells (.slice A L.length c) (.int .i64 last) e3
     have hB9 : Below w.heap.size w ((w9.setCell ⟨b + 1, 0, none⟩ (.slice A L.length c)).setCell ⟨b + 1, 1, none⟩ (.int .i64 last)) := ((HB2.out.trans (HB9.out.mono HB2.out.size)).setCell (p := ⟨b + 1, 0, none⟩) (by rw [HW0.out]; exact Nat.le_succ b) (.slice A L.length c)).setCell (p := ⟨b + 1, 1, none⟩) (by rw [HW0.out]; exact Nat.le_succ b) (.int .i64 last)
     generalize (w9.setCell ⟨b + 1, 0, none⟩ (.slice A L.length c)).setCell ⟨b + 1, 1, none⟩ (.int .i64 last) = w9 at hT hB9 ⊢
     obtain ⟨t0, t1⟩ := hT
     refine bodyPost_ret (v := .tuple #[.agg #[.slice A L.length c, .int .i64 last], .int .i64 0]) (by simp [results, Tryz.results109, go_sem, t0, t1, hu30]) rfl ⟨.agg #[.slice A L.length c, .int .i64 last], by rw [hre], by rw [hSS]; exact ⟨A, c, rfl, hle, Kd.C_below HC.out hB9⟩, hB9⟩
    ·
     have b1 : (o == n) = false := beq_eq_false_iff_ne.2 c1
     by_cases c2 : o = 0
     ·
      have hrm : rm = (false, 0) := by rw [HRM.out, if_pos c2]
      have hre : re = 0 := by rw [HRE1.out, hrm]; rfl
      have hSS : SS = withL L ⟨p0, td, z, p3, p4⟩ := by rw [HS.out, if_pos ⟨hre, by rw [hrm]⟩, if_pos c2]
      have HRS := Lib.hid (And.intro hre hSS)
      have d1 : ¬ (0 : Int) < o := by omega
      clear hre hSS hrm HS HRE1 HRM HCUT HAO c1 c2
      go_upto_region 31 with (fail)
      have g1 := blk_lt (HY.out _ HE9.out)
      obtain ⟨t0, t1, t2, t3, t4⟩ := node_cells (HY.out _ HE9.out)
      have v1 := blk_frozen (HY.out _ HE9.out) 1
      go_upto_region 32 with (fail)
      obtain ⟨hn1, hn2⟩ := node_set (.int .i64 td) (.string z) (HY.out _ HE9.out)
      have HN1 := Lib.hid hn1
      have HN2 := Lib.hid hn2
      have HB10 := Lib.hid (HB9.out.setCell (p := ⟨g, 1, none⟩) HG8.out (.int .i64 td))
      have HB11 := Lib.hid (HB10.out.setCell (p := ⟨g, 2, none⟩) HG8.out (.string z))
      clear hn1 hn2 g1 t0 t1 t2 t3 t4 v1 x0 x1 r0 r1 f0 f1
      have v2 := blk_frozen HN1.out 2
      obtain ⟨t0, t1, t2, t3, t4⟩ := node_cells HN1.out
      go_upto_region 33 with (fail)
      clear t0 t1 t2 t3 t4 v2
      generalize (w9.setCell ⟨g, 1, none⟩ (.int .i64 td)).setCell ⟨g, 2, none⟩ (.string z) = w11 at HB11 HN2 ⊢
      clear HB10 HN1
      obtain ⟨⟨x0, x1⟩, ⟨r0, r1⟩, f0, f1⟩ := HX.out _ HB11.out
      obtain ⟨t0, t1, t2, t3, t4⟩ := node_cells HN2.out
      go_wp2_with (go_at_call 145; refine (HWI.out L _ _ ⟨A, c, rfl, hle, HCT.out _ HB11.out⟩ (by have := HLEN.out; omega)).mono ?_; rintro e w12 ⟨A7, c7, rfl, hb7, B7, hB7, hR7⟩; have HB12 := Lib.hid (HB11.out.trans (hb7.mono HB11.out.size)); have HR7 := Lib.hid hR7; have HBB := Lib.hid (Nat.lt_of_le_of_lt HB11.out.size hB7); clear hR7 hB7 hb7 x0 x1 r0 r1 f0 f1; obtain ⟨⟨x0, x1⟩, ⟨r0, r1⟩, f0, f1⟩ := HX.out _ HB12.out)
      have hlt2 := blk_lt HR2.out
      have hRR := Kd.R_reads (rfar2 (u := .slice A7 L.length c7) (u' := .int .i64 last) HR7.out (show b + 1 < B7 by have := HBB.out; omega))
      obtain ⟨hre, hSS⟩ := HRS.out
      have e3 := (HB12.out.block _ (blk_lt HR2.out)).trans HR2.out
      have hT := res_cells (.slice A7 L.length c7) (.int .i64 last) e3
      have hB9 : Below w.heap.size w ((w12.setCell ⟨b + 1, 0, none⟩ (.slice A7 L.length c7)).setCell ⟨b + 1, 1, none⟩ (.int .i64 last)) := ((HB2.out.trans (HB12.out.mono HB2.out.size)).setCell (p := ⟨b + 1, 0, none⟩) (by rw [HW0.out]; exact Nat.le_succ b) (.slice A7 L.length c7)).setCell (p := ⟨b + 1, 1, none⟩) (by rw [HW0.out]; exact Nat.le_succ b) (.int .i64 last)
      generalize (w12.setCell ⟨b + 1, 0, none⟩ (.slice A7 L.length c7)).setCell ⟨b + 1, 1, none⟩ (.int .i64 last) = w9 at hT hB9 hRR ⊢
      obtain ⟨t0, t1⟩ := hT
      refine bodyPost_ret (v := .tuple #[.agg #[.slice A7 L.length c7, .int .i64 last], .int .i64 0]) (by simp [results, Tryz.results109, go_sem, t0, t1, hu30]) rfl ⟨.agg #[.slice A7 L.length c7, .int .i64 last], by rw [hre], by rw [hSS]; exact (by obtain ⟨A9, c9, e9, h9, hC9⟩ := hRR; rw [withL_len] at e9; exact ⟨A9, c9, by rw [e9, withL_len], h9, hC9⟩), hB9⟩
     ·
      have d1 : (0 : Int) < o := by have := HON.out; omega
      have hrm : rm = if y3 = 1 ∧ p3 ≠ 1 then (false, 8) else if p3 = 1 ∧ y3 ≠ 1 then (false, 7) else (false, ce) := by rw [HRM.out, if_neg c2, if_neg c1]
      have HRM1 := Lib.hid hrm
      clear hrm HRM
      go_upto_region 23 with (go_at_call 68; refine (HAO.out _ (HCT.out _ HB9.out)).mono ?_; rintro e w10 ⟨rfl, hb⟩; have HB10 := Lib.hid (HB9.out.trans (hb.mono HB9.out.size)); have HE10 := Lib.hid (HE9.out.trans (hb.mono HE9.out.size)); clear hb x0 x1 r0 r1 f0 f1)
      have HBa := Lib.hid (HB10.out.alloc HB10.out.size (.cells #[.int .i64 y0, .int .i64 y1, .string y2, .int .i64 y3, .string y4] 106))
      have HEa := Lib.hid (HE10.out.alloc HE10.out.size (.cells #[.int .i64 y0, .int .i64 y1, .string y2, .int .i64 y3, .string y4] 106))
      have Ha := Lib.hid (heap_alloc_new w10 (.cells #[.int .i64 y0, .int .i64 y1, .string y2, .int .i64 y3, .string y4] 106))
      generalize w10.alloc (.cells #[.int .i64 y0, .int .i64 y1, .string y2, .int .i64 y3, .string y4] 106) = wa at HBa HEa Ha ⊢
      generalize w10.heap.size = ga at Ha ⊢
      clear HB10 HE10
      obtain ⟨⟨x0, x1⟩, ⟨r0, r1⟩, f0, f1⟩ := HX.out _ HBa.out
      obtain ⟨-, -, -, t3, -⟩ := node_cells (HY.out _ HEa.out)
      obtain ⟨-, -, -, s3, -⟩ := node_cells Ha.out
      by_cases c3 : y3 ≠ 1
      ·
       have hrm : rm = (false, 7) := by rw [HRM1.out, if_neg (fun e => c3 e.1), if_pos ⟨HKN.out, c3⟩]
       have hre : re = 7 := by rw [HRE1.out, hrm]; rfl
       have hSS : SS = L := by rw [HS.out, if_neg (fun e => by rw [hre] at e; cases e.1)]
       have HRS := Lib.hid (And.intro hre hSS)
       clear hre hSS hrm HS HRE1 HRM1 HWI HCUT
       have b4 : (y3 == 1) = false := beq_eq_false_iff_ne.2 c3
       have b5 : (y3 != 1) = true := bne_iff_ne.2 c3
       clear c3
       go_wp2
       obtain ⟨hre, hSS⟩ := HRS.out
       have e3 := (HBa.out.block _ (blk_lt HR2.out)).trans HR2.out
       have hT := res_cells (.slice A L.length c) (.int .i64 last) e3
       have hB9 : Below w.heap.size w ((wa.setCell ⟨b + 1, 0, none⟩ (.slice A L.length c)).setCell ⟨b + 1, 1, none⟩ (.int .i64 last)) := ((HB2.out.trans (HBa.out.mono HB2.out.size)).setCell (p := ⟨b + 1, 0, none⟩) (by rw [HW0.out]; exact Nat.le_succ b) (.slice A L.length c)).setCell (p := ⟨b + 1, 1, none⟩) (by rw [HW0.out]; exact Nat.le_succ b) (.int .i64 last)
       generalize (wa.setCell ⟨b + 1, 0, none⟩ (.slice A L.length c)).setCell ⟨b + 1, 1, none⟩ (.int .i64 last) = w9 at hT hB9 ⊢
       obtain ⟨t0, t1⟩ := hT
       refine bodyPost_ret (v := .tuple #[.agg #[.slice A L.length c, .int .i64 last], .int .i64 7]) (by simp [results, Tryz.results109, go_sem, t0, t1, hu30]) rfl ⟨.agg #[.slice A L.length c, .int .i64 last], by rw [hre], by rw [hSS]; exact ⟨A, c, rfl, hle, Kd.C_below HC.out hB9⟩, hB9⟩
      ·
       have c3 : y3 = 1 := Decidable.byContradiction c3
       have hrm : rm = (false, ce) := by rw [HRM1.out, if_neg (fun e => e.2 HKN.out), if_neg (fun e => e.2 c3)]
       have HRM2 := Lib.hid hrm
       clear hrm HRM1
       subst c3
       go_upto_region 28 with (go_at_call 108; refine (HCUT.out _ ⟨A, c, rfl, hle, HCT.out _ HBa.out⟩).mono ?_; rintro e wb ⟨vb, rfl, hRb, hb, hOwn⟩; obtain ⟨Ab, cb, rfl, hlb, hCb⟩ := hRb; have HBb := Lib.hid (HBa.out.trans (hb.mono HBa.out.size)); have HEb := Lib.hid (HEa.out.trans (hb.mono HEa.out.size)); have HOW := Lib.hid hOwn; have HSZ := Lib.hid hb.size; clear hb hlb hCb hOwn x0 x1 r0 r1 f0 f1 t3 s3)
       have HBc := Lib.hid (HBb.out.alloc HBb.out.size (.cells #[.slice Ab cs.length cb, .int .i64 last] 30))
       have HEc := Lib.hid (HEb.out.alloc HEb.out.size (.cells #[.slice Ab cs.length cb, .int .i64 last] 30))
       have Hc := Lib.hid (heap_alloc_new wb (.cells #[.slice Ab cs.length cb, .int .i64 last] 30))
       by_cases c4 : ce = 0
       ·
        have hre : re = 0 := by rw [HRE1.out, HRM2.out, c4]; rfl
        have hSS : SS = withL (cutL L o) ⟨p0, td, z, p3, p4⟩ := by rw [HS.out, if_pos ⟨hre, by rw [HRM2.out]⟩, if_neg (fun e => by omega)]
        have HRS := Lib.hid (And.intro hre hSS)
        subst c4
        obtain ⟨A9, c9, B9, e9, hB9, hR9⟩ := HOW.out rfl
        have hcs : cs = cutL L o := by rw [HCS.out, if_pos rfl]
        have hML : (cutL L o).length ≤ 1000000 := Nat.le_trans (List.length_filter_le _ _) (by have := HLEN.out; omega)
        subst hcs
        cases e9
        have HR9 := Lib.hid (Kd.R_alloc hR9 (.cells #[.slice Ab (cutL L o).length cb, .int .i64 last] 30))
        have HM9 := Lib.hid hML
        have hgb : b + 1 < w2.heap.size := blk_lt HR2.out
        have hgg := HG8.out
        have HBB9 := Lib.hid (show b < B9 ∧ g < B9 ∧ g ≠ b ∧ b ≠ g ∧ b + 1 ≠ b ∧ b + 1 ≠ g by
         have := HBa.out.size
         have := blk_lt (HY.out _ HEa.out)
         refine ⟨by omega, by omega, by omega, by omega, by omega, by omega⟩)
        clear hre hSS HS HRE1 HRM2 HOW HCS HCUT hR9 hB9 hML hgb hgg
        generalize wb.alloc (.cells #[.slice Ab (cutL L o).length cb, .int .i64 last] 30) = wc at HBc HEc Hc HR9 ⊢
        generalize wb.heap.size = gc at Hc ⊢
        generalize cutL L o = M at *
        obtain ⟨⟨m0, m1⟩, -, -⟩ := box_cells Hc.out
        have eb := (HBc.out.block _ (blk_lt HR1.out)).trans HR1.out
        have er := (HBc.out.block _ (blk_lt HR2.out)).trans HR2.out
        have eg := HY.out _ HEc.out
        obtain ⟨⟨x0, x1⟩, f0, f1⟩ := box_cells eb
        have HEB := Lib.hid (two_set (u0 := .slice Ab M.length cb) (u1 := .int .i64 last) eb)
        have HER := Lib.hid (two_other (u0 := .slice Ab M.length cb) (u1 := .int .i64 last) (i0 := 0) (i1 := 1) HBB9.out.2.2.2.2.1 er)
        have HEG := Lib.hid (two_other (u0 := .slice Ab M.length cb) (u1 := .int .i64 last) (i0 := 0) (i1 := 1) HBB9.out.2.2.1 eg)
        have HRd := Lib.hid (rfar2 (b := b) (u := .slice Ab M.length cb) (u' := .int .i64 last) HR9.out HBB9.out.1)
        have HBd := Lib.hid (((HB2.out.trans (HBc.out.mono HB2.out.size)).setCell (p := ⟨b, 0, none⟩) (by rw [HW0.out]; exact Nat.le_refl b) (.slice Ab M.length cb)).setCell (p := ⟨b, 1, none⟩) (by rw [HW0.out]; exact Nat.le_refl b) (.int .i64 last))
        clear eb er eg HBa HBb HEa HEb
        go_upto_region 31 with (fail)
        clear f0 f1 m0 m1 x0 x1
        generalize (wc.setCell ⟨b, 0, none⟩ (.slice Ab M.length cb)).setCell ⟨b, 1, none⟩ (.int .i64 last) = wd at HEB HER HEG HRd HBd ⊢
        obtain ⟨hn1, hn2⟩ := node_set (.int .i64 td) (.string z) HEG.out
        have HN1 := Lib.hid hn1
        have HN2 := Lib.hid hn2
        have HEB2 := Lib.hid (two_other (u0 := .int .i64 td) (u1 := .string z) (i0 := 1) (i1 := 2) HBB9.out.2.2.2.1 HEB.out)
        have HER2 := Lib.hid (two_other (u0 := .int .i64 td) (u1 := .string z) (i0 := 1) (i1 := 2) HBB9.out.2.2.2.2.2 HER.out)
        have HRe := Lib.hid (rfar12 (b := g) (u := .int .i64 td) (u' := .string z) HRd.out HBB9.out.2.1)
        have hgw : w.heap.size ≤ g := Nat.le_trans HB2.out.size HG8.out
        have HBe := Lib.hid ((HBd.out.setCell (p := ⟨g, 1, none⟩) hgw (.int .i64 td)).setCell (p := ⟨g, 2, none⟩) hgw (.string z))
        clear hn1 hn2 hgw
        have v1 := blk_frozen HEG.out 1
        obtain ⟨t0, t1, t2, t3, t4⟩ := node_cells HEG.out
        go_upto_region 32 with (fail)
        clear v1 t0 t1 t2 t3 t4
        have v2 := blk_frozen HN1.out 2
        obtain ⟨t0, t1, t2, t3, t4⟩ := node_cells HN1.out
        go_upto_region 33 with (fail)
        clear t0 t1 t2 t3 t4 v2 HN1 HEB HER HEG HRd HBd
        generalize (wd.setCell ⟨g, 1, none⟩ (.int .i64 td)).setCell ⟨g, 2, none⟩ (.string z) = we at HN2 HEB2 HER2 HRe HBe ⊢
        obtain ⟨⟨x0, x1⟩, -, -⟩ := box_cells HEB2.out
        obtain ⟨t0, t1, t2, t3, t4⟩ := node_cells HN2.out
        obtain ⟨Ae, ce', ee, hle', hCe⟩ := Kd.R_reads HRe.out
        cases ee
        have HRT : Hid (RAt we (.agg #[.slice Ab M.length cb, .int .i64 last]) M last) := Lib.hid ⟨Ab, cb, rfl, hle', hCe⟩
        clear hle' hCe
        go_wp2_with (go_at_call 145; refine (HWI.out M _ _ HRT.out HM9.out).mono ?_; rintro e w12 ⟨A7, c7, rfl, hb7, B7, hB7, hR7⟩; have HB12 := Lib.hid hb7; have HR7 := Lib.hid hR7; have HBB := Lib.hid hB7; clear hR7 hB7 hb7 x0 x1; have er := (HB12.out.block _ (blk_lt HER2.out)).trans HER2.out; obtain ⟨⟨r0, r1⟩, f0, f1⟩ := box_cells er; have HER3 := Lib.hid er; clear er)
        have hlt2 := blk_lt HER2.out
        have hRR := Kd.R_reads (rfar2 (b := b + 1) (u := .slice A7 M.length c7) (u' := .int .i64 last) HR7.out (show b + 1 < B7 by have := HBB.out; omega))
        obtain ⟨hre, hSS⟩ := HRS.out
        have hT := res_cells (.slice A7 M.length c7) (.int .i64 last) HER3.out
        have hB9 : Below w.heap.size w ((w12.setCell ⟨b + 1, 0, none⟩ (.slice A7 M.length c7)).setCell ⟨b + 1, 1, none⟩ (.int .i64 last)) := ((HBe.out.trans (HB12.out.mono HBe.out.size)).setCell (p := ⟨b + 1, 0, none⟩) (by rw [HW0.out]; exact Nat.le_succ b) (.slice A7 M.length c7)).setCell (p := ⟨b + 1, 1, none⟩) (by rw [HW0.out]; exact Nat.le_succ b) (.int .i64 last)
        generalize (w12.setCell ⟨b + 1, 0, none⟩ (.slice A7 M.length c7)).setCell ⟨b + 1, 1, none⟩ (.int .i64 last) = w9' at hT hB9 hRR ⊢
        obtain ⟨t0, t1⟩ := hT
        refine bodyPost_ret (v := .tuple #[.agg #[.slice A7 M.length c7, .int .i64 last], .int .i64 0]) (by simp [results, Tryz.results109, go_sem, t0, t1, hu30]) rfl ⟨.agg #[.slice A7 M.length c7, .int .i64 last], by rw [hre], by rw [hSS]; exact (by obtain ⟨A9, c9, e9, h9, hC9⟩ := hRR; rw [withL_len] at e9; exact ⟨A9, c9, by rw [e9, withL_len], h9, hC9⟩), hB9⟩
       ·
        have hre : re = ce := by rw [HRE1.out, HRM2.out]; rfl
        have hSS : SS = L := by rw [HS.out, if_neg (fun e => c4 (hre.symm.trans e.1))]
        have HRS := Lib.hid (And.intro hre hSS)
        have b6 : (ce != 0) = true := bne_iff_ne.2 c4
        clear hre hSS HS HRE1 HRM2 HOW HCS HCUT HWI c4
        generalize wb.alloc (.cells #[.slice Ab cs.length cb, .int .i64 last] 30) = wc at HBc HEc Hc ⊢
        generalize wb.heap.size = gc at Hc ⊢
        clear HBa HBb HEa HEb
        obtain ⟨⟨x0, x1⟩, ⟨r0, r1⟩, f0, f1⟩ := HX.out _ HBc.out
        go_wp2
        obtain ⟨hre, hSS⟩ := HRS.out
        have e3 := (HBc.out.block _ (blk_lt HR2.out)).trans HR2.out
        have hT := res_cells (.slice A L.length c) (.int .i64 last) e3
        have hB9 : Below w.heap.size w ((wc.setCell ⟨b + 1, 0, none⟩ (.slice A L.length c)).setCell ⟨b + 1, 1, none⟩ (.int .i64 last)) := ((HB2.out.trans (HBc.out.mono HB2.out.size)).setCell (p := ⟨b + 1, 0, none⟩) (by rw [HW0.out]; exact Nat.le_succ b) (.slice A L.length c)).setCell (p := ⟨b + 1, 1, none⟩) (by rw [HW0.out]; exact Nat.le_succ b) (.int .i64 last)
        generalize (wc.setCell ⟨b + 1, 0, none⟩ (.slice A L.length c)).setCell ⟨b + 1, 1, none⟩ (.int .i64 last) = w9 at hT hB9 ⊢
        obtain ⟨t0, t1⟩ := hT
        refine bodyPost_ret (v := .tuple #[.agg #[.slice A L.length c, .int .i64 last], .int .i64 ce]) (by simp [results, Tryz.results109, go_sem, t0, t1, hu30]) rfl ⟨.agg #[.slice A L.length c, .int .i64 last], by rw [hre], by rw [hSS]; exact ⟨A, c, rfl, hle, Kd.C_below HC.out hB9⟩, hB9⟩
   ·
    rw [if_neg h2, HUP.out m] at hq
    simp only [] at hq
    have b2 : (m == 1) = false := beq_eq_false_iff_ne.2 h2
    obtain ⟨km, hkm⟩ := HATK.out m
    have HAM := Lib.hid (fun W h => linhayref07_At.calls km A c L last m _ _ _ _ _ W h HLE.out hkm)
    have HQ2 := Aside0.mk hq
    clear hq hkm h1 h2 HATK HUP HWI HCUT HAO HI2 HRM HS HRE HIV
    generalize atR L m = am at *
    obtain ⟨a0, a1, a2, a3, a4⟩ := am
    simp only [] at HAM HQ2
    go_wp2_with (go_at_call 68; refine (HAM.out _ (HCT.out _ HBr.out)).mono ?_; rintro e w9 ⟨rfl, hb⟩; have HE9 := Aside0.mk (HEr.out.trans (hb.mono HEr.out.size)); clear hb x0 x1 r0 r1 f0 f1 t3)
    go_roundg k1
    case rel => exact ⟨a1, rfl, HQ2, HE9⟩
    case measure => exact Nat.lt_succ_self _
end Go.Proofs.YtnpeeiikdcankaaGreat.Tw

namespace Go.Proofs.YtnpeeiikdcankaaGreat.Tw
open Go Go.RowKit Go.Shelf Go.Proofs Go.Proofs.YtnpeeiikdcankaaGreat Go.Proofs.YtnpeeiikdcankaaGreatW.PrintWords Go.Proofs.YtnpeeiikdcankaaGreat.Ext Go.Proofs.YtnpeeiikdcankaaGreat.X Go.Proofs.YtnpeeiikdcankaaGreat.Pu
set_option maxHeartbeats 4000000 in
set_option maxRecDepth 1000000 in
theorem rmove_file (L : List RN) (last : Int) (v : Value) (fr : Int) (s : ByteArray) (td : Int) (z : ByteArray) (w : World) (h : RAt w v L last) (hG : GoodL L last) (hM : GoodM L) (he : preE L fr s td z = 0) (hf : (atR L (inR L fr s)).f3 ≠ 1) :
  Calls Tryz.prog 109 #[v, .int .i64 fr, .string s, .int .i64 td, .string z] w fun e w' => ∃ v', e = .returned (.tuple #[v', .int .i64 (movP L last fr s td z)]) ∧ RAt w' v' (movM L last fr s td z) last ∧ Below w.heap.size w w' := by
 obtain ⟨A, c, rfl, hle, hC⟩ := h
 have hl := hG.len
 have hu30 := Tryz.underlying30
 have hu106 := Tryz.underlying106
 obtain ⟨k1, hk1⟩ := (r07_dir L fr last (by omega)).rounds
 obtain ⟨k2, hk2⟩ := (r07_dir L td last (by omega)).rounds
 obtain ⟨k3, hk3⟩ := (r07_in L fr last s (by omega)).rounds
 obtain ⟨k4, hk4⟩ := (r03_check z).rounds
 have HD1 := Lib.hid (fun W h => linhayref07_dir.calls k1 A c L last fr _ W h hle hk1)
 have HD2 := Lib.hid (fun W h => linhayref07_dir.calls k2 A c L last td _ W h hle hk2)
 have HI := Lib.hid (fun W h => linhayref07_In.calls k3 A c L last fr s _ W h hle hk3)
 have HCK := Lib.hid (fun W => linhayref03_Check.calls k4 z _ W hk4)
 obtain ⟨q1, q2, q3⟩ := two_blocks w (.cells #[.slice A L.length c, .int .i64 last] 30) (.cells #[.slice none 0 0, .int .i64 0] 30)
 have HK := Lib.hid (And.intro q1 (And.intro q2 q3))
 have HC := Lib.hid hC
 obtain ⟨z1, z2, z3, z4, z5⟩ := movP_post (last := last) he
 obtain ⟨ka, hka⟩ := (r07_at L (inR L fr s) last (by omega)).rounds
 obtain ⟨ko, hko⟩ := (r07_at L (inR L td z) last (by omega)).rounds
 obtain ⟨k5, hk5⟩ := (r07_in L td last z (by omega)).rounds
 obtain ⟨ki, bi, hki⟩ := ins_ex hG hM (inR L fr s) td (by rw [dirE_zero z2]; decide)
 have HIV : Hid (insV L last td (inR L fr s) = bi) := Lib.hid (by
  cases bi with
  | true => exact insV_true ⟨ki, hki⟩
  | false =>
   refine insV_false ?_
   rintro ⟨k', hk'⟩
   have := insF_det hki hk'
   cases this)
 have HAT := Lib.hid (fun W h => linhayref07_At.calls ka A c L last (inR L fr s) _ _ _ _ _ W h hle hka)
 have HAO := Lib.hid (fun W h => linhayref07_At.calls ko A c L last (inR L td z) _ _ _ _ _ W h hle hko)
 have HI2 := Lib.hid (fun W h => linhayref07_In.calls k5 A c L last td z _ W h hle hk5)
 have HCUT := Lib.hid (fun W h => rcut_calls L last (.agg #[.slice A L.length c, .int .i64 last]) td z W h hG)
 have HWI := Lib.hid (fun L' v W h hl => rwith_own L' last v (movX L (inR L fr s) td z) W h hl)
 unfold movX at HWI
 simp only [] at HWI
 have HRM : Hid (roomRE L (inR L fr s) td z = if inR L td z = 0 then (false, 0) else if inR L td z = inR L fr s then (true, 0) else if (atR L (inR L td z)).f3 = 1 ∧ (atR L (inR L fr s)).f3 ≠ 1 then (false, 8) else if (atR L (inR L fr s)).f3 = 1 ∧ (atR L (inR L td z)).f3 ≠ 1 then (false, 7) else (false, cutRE L td z)) := Lib.hid rfl
 have HS : Hid (movM L last fr s td z = if movP L last fr s td z = 0 ∧ (roomRE L (inR L fr s) td z).1 = false then withL (if inR L td z = 0 then L else cutL L (inR L td z)) (movX L (inR L fr s) td z) else L) := Lib.hid rfl
 have HCS : Hid (cutS L td z = if cutRE L td z = 0 then cutL L (inR L td z) else L) := Lib.hid rfl
 have HON := Lib.hid (inR_le hG td z).1
 have HUP := Lib.hid (fun m => (node_of hG m))
 have HLEN := Lib.hid hl
 have HRE := Lib.hid z5
 have HATK := Lib.hid (fun m => (r07_at L m last (by omega)).rounds)
 unfold movX at HS
 rw [z1] at hk1
 rw [z2] at hk2
 rw [z4] at hk4
 have HD1 := Lib.hid (fun W h => linhayref07_dir.calls k1 A c L last fr _ W h hle hk1)
 have HD2 := Lib.hid (fun W h => linhayref07_dir.calls k2 A c L last td _ W h hle hk2)
 have HCK := Lib.hid (fun W => linhayref03_Check.calls k4 z _ W hk4)
 have HN0 := Lib.hid z3
 have HKI := Lib.hid hki
 generalize insV L last td (inR L fr s) = iv at *
 generalize movM L last fr s td z = SS at *
 generalize movP L last fr s td z = re at *
 generalize roomRE L (inR L fr s) td z = rm at *
 generalize cutS L td z = cs at *
 generalize cutRE L td z = ce at *
 generalize atR L (inR L td z) = y at *
 generalize atR L (inR L fr s) = q at *
 generalize inR L td z = o at *
 generalize inR L fr s = n at *
 obtain ⟨p0, p1, p2, p3, p4⟩ := q
 obtain ⟨y0, y1, y2, y3, y4⟩ := y
 simp only [] at HAT HAO HWI HS HRM HRE
 have HKN : Hid (p3 ≠ 1) := Lib.hid hf
 clear hf hC q1 q2 q3 hk1 hk2 hk3 hk4 hk5 hka hko hki z1 z2 z3 z4 z5 he hG hM hl
 go_enter Tryz.func109, Tryz.ntmps109
 go_upto_region 1 with (fail)
 generalize (w.alloc (.cells #[.slice A L.length c, .int .i64 last] 30)).alloc (.cells #[.slice none 0 0, .int .i64 0] 30) = w2 at HK ⊢
 have HR1 := Lib.hid HK.out.1
 have HR2 := Lib.hid HK.out.2.1
 have HB2 := Lib.hid HK.out.2.2
 clear HK
 generalize hb0 : w.heap.size = b at HR1 HR2 ⊢
 have HW0 := Lib.hid hb0
 clear hb0
 have HX := Lib.hid (fun (W : World) (hb : Below w2.heap.size w2 W) => show (W.cell? ⟨b, 0, none⟩ = some (.slice A L.length c) ∧ W.cell? ⟨b, 1, none⟩ = some (.int .i64 last)) ∧ (W.cell? ⟨b + 1, 0, none⟩ = some (.slice none 0 0) ∧ W.cell? ⟨b + 1, 1, none⟩ = some (.int .i64 0)) ∧ (W.frozen? ⟨b + 1, 0, none⟩ = false ∧ W.frozen? ⟨b + 1, 1, none⟩ = false) by
  have e1 := (hb.block _ (blk_lt HR1.out)).trans HR1.out
  have e2 := (hb.block _ (blk_lt HR2.out)).trans HR2.out
  exact ⟨⟨by rw [blk_cell e1]; rfl, by rw [blk_cell e1]; rfl⟩, ⟨by rw [blk_cell e2]; rfl, by rw [blk_cell e2]; rfl⟩, blk_frozen e2 0, blk_frozen e2 1⟩)
 have HCT := Lib.hid (fun (W : World) (hb : Below w2.heap.size w2 W) => Kd.C_below HC.out (HB2.out.trans (hb.mono HB2.out.size)))
 have HBi := Lib.hid (Below.refl w2.heap.size w2)
 obtain ⟨⟨x0, x1⟩, ⟨r0, r1⟩, f0, f1⟩ := HX.out _ HBi.out
 go_upto_region 3 with (go_at_call 103; refine (HD1.out _ (HCT.out _ HBi.out)).mono ?_; rintro e w3 ⟨rfl, hb⟩; have HB3 := Lib.hid (HBi.out.trans (hb.mono HBi.out.size)); clear hb; clear x0 x1 r0 r1 f0 f1; obtain ⟨⟨x0, x1⟩, ⟨r0, r1⟩, f0, f1⟩ := HX.out _ HB3.out)
 go_upto_region 4 with (go_at_call 103; refine (HD2.out _ (HCT.out _ HB3.out)).mono ?_; rintro e w4 ⟨rfl, hb⟩; have HB4 := Lib.hid (HB3.out.trans (hb.mono HB3.out.size)); clear hb; clear x0 x1 r0 r1 f0 f1; obtain ⟨⟨x0, x1⟩, ⟨r0, r1⟩, f0, f1⟩ := HX.out _ HB4.out)
 have b0 : (n == 0) = false := beq_eq_false_iff_ne.2 HN0.out
 go_upto_region 7 with (go_at_call 105; refine (HI.out _ (HCT.out _ HB4.out)).mono ?_; rintro e w5 ⟨rfl, hb⟩; have HB5 := Lib.hid (HB4.out.trans (hb.mono HB4.out.size)); clear hb; clear x0 x1 r0 r1 f0 f1; obtain ⟨⟨x0, x1⟩, ⟨r0, r1⟩, f0, f1⟩ := HX.out _ HB5.out)
 go_upto_region 9 with (go_at_call 104; refine (HCK.out _).mono ?_; rintro e w6 ⟨rfl, hd⟩; have HB6 := Lib.hid (HB5.out.trans (hd.below.mono HB5.out.size)); clear hd; clear x0 x1 r0 r1 f0 f1; obtain ⟨⟨x0, x1⟩, ⟨r0, r1⟩, f0, f1⟩ := HX.out _ HB6.out)
 go_upto_region 12 with (go_at_call 68; refine (HAT.out _ (HCT.out _ HB6.out)).mono ?_; rintro e w7 ⟨rfl, hb⟩; have HB7 := Lib.hid (HB6.out.trans (hb.mono HB6.out.size)); clear hb x0 x1 r0 r1 f0 f1)
 have HB8 := Lib.hid (HB7.out.alloc HB7.out.size (.cells #[.int .i64 p0, .int .i64 p1, .string p2, .int .i64 p3, .string p4] 106))
 have H8 := Lib.hid (heap_alloc_new w7 (.cells #[.int .i64 p0, .int .i64 p1, .string p2, .int .i64 p3, .string p4] 106))
 generalize w7.alloc (.cells #[.int .i64 p0, .int .i64 p1, .string p2, .int .i64 p3, .string p4] 106) = w8 at HB8 H8 ⊢
 have HG8 := Lib.hid HB7.out.size
 generalize w7.heap.size = g at H8 HG8 ⊢
 have HY := Lib.hid (fun (W : World) (hb : Below w8.heap.size w8 W) => (hb.block _ (blk_lt H8.out)).trans H8.out)
 obtain ⟨⟨x0, x1⟩, ⟨r0, r1⟩, f0, f1⟩ := HX.out _ HB8.out
 obtain ⟨-, -, -, t3, -⟩ := node_cells H8.out
 clear HD1 HD2 HI HCK HAT
 have b3 : (p3 == 1) = false := beq_eq_false_iff_ne.2 HKN.out
 have b3' : (p3 != 1) = true := bne_iff_ne.2 HKN.out
 have HRE1 : Hid (re = if rm.1 = true then 0 else rm.2) := Lib.hid (by rw [HRE.out, if_neg (fun e => HKN.out e.1)])
 clear HRE HIV HKI HATK HUP
 go_wp2
 go_loopg [15] 0 (fun kq v15 wr => (∃ m : Int, v15 = .int .i64 m) ∧ wr = w8)
 case atStart => exact ⟨⟨_, rfl⟩, rfl⟩
 case round =>
  obtain ⟨⟨m, rfl⟩, rfl⟩ := hrel
  have HBr := Lib.hid HB8.out
  have HEr := Lib.hid (Below.refl wr.heap.size wr)
  go_upto_region 19 with (go_at_call 105; refine (HI2.out _ (HCT.out _ HBr.out)).mono ?_; rintro e w9 ⟨rfl, hb⟩; have HB9 := Lib.hid (HBr.out.trans (hb.mono HBr.out.size)); have HE9 := Lib.hid (HEr.out.trans (hb.mono HEr.out.size)); clear hb x0 x1 r0 r1 f0 f1; obtain ⟨⟨x0, x1⟩, ⟨r0, r1⟩, f0, f1⟩ := HX.out _ HB9.out)
  by_cases c1 : o = n
  ·
   have hrm : rm = (true, 0) := by rw [HRM.out, if_neg (by rw [c1]; exact HN0.out), if_pos c1]
   have hre : re = 0 := by rw [HRE1.out, hrm]; rfl
   have hSS : SS = L := by rw [HS.out, if_neg (fun e => by rw [hrm] at e; cases e.2)]
   have HRS := Lib.hid (And.intro hre hSS)
   clear hre hSS hrm HS HRE1 HRM HWI HCUT HAO
   have b1 : (o == n) = true := beq_iff_eq.2 c1
   clear c1
   go_wp2
   obtain ⟨hre, hSS⟩ := HRS.out
   have e3 := (HB9.out.block _ (blk_lt HR2.out)).trans HR2.out
   have hT := res_cells (.slice A L.length c) (.int .i64 last) e3
   have hB9 : Below w.heap.size w ((w9.setCell ⟨b + 1, 0, none⟩ (.slice A L.length c)).setCell ⟨b + 1, 1, none⟩ (.int .i64 last)) := ((HB2.out.trans (HB9.out.mono HB2.out.size)).setCell (p := ⟨b + 1, 0, none⟩) (by rw [HW0.out]; exact Nat.le_succ b) (.slice A L.length c)).setCell (p := ⟨b + 1, 1, none⟩) (by rw [HW0.out]; exact Nat.le_succ b) (.int .i64 last)
   generalize (w9.setCell ⟨b + 1, 0, none⟩ (.slice A L.length c)).setCell ⟨b + 1, 1, none⟩ (.int .i64 last) = w9 at hT hB9 ⊢
   obtain ⟨t0, t1⟩ := hT
   refine bodyPost_ret (v := .tuple #[.agg #[.slice A L.length c, .int .i64 last], .int .i64 0]) (by simp [results, Tryz.results109, go_sem, t0, t1, hu30]) rfl ⟨.agg #[.slice A L.length c, .int .i64 last], by rw [hre], by rw [hSS]; exact ⟨A, c, rfl, hle, Kd.C_below HC.out hB9⟩, hB9⟩
  ·
   have b1 : (o == n) = false := beq_eq_false_iff_ne.2 c1
   by_cases c2 : o = 0
   ·
    have hrm : rm = (false, 0) := by rw [HRM.out, if_pos c2]
    have hre : re = 0 := by rw [HRE1.out, hrm]; rfl
    have hSS : SS = withL L ⟨p0, td, z, p3, p4⟩ := by rw [HS.out, if_pos ⟨hre, by rw [hrm]⟩, if_pos c2]
    have HRS := Lib.hid (And.intro hre hSS)
    have d1 : ¬ (0 : Int) < o := by omega
    clear hre hSS hrm HS HRE1 HRM HCUT HAO c1 c2
    go_upto_region 31 with (fail)
    have g1 := blk_lt (HY.out _ HE9.out)
    obtain ⟨t0, t1, t2, t3, t4⟩ := node_cells (HY.out _ HE9.out)
    have v1 := blk_frozen (HY.out _ HE9.out) 1
    go_upto_region 32 with (fail)
    obtain ⟨hn1, hn2⟩ := node_set (.int .i64 td) (.string z) (HY.out _ HE9.out)
    have HN1 := Lib.hid hn1
    have HN2 := Lib.hid hn2
    have HB10 := Lib.hid (HB9.out.setCell (p := ⟨g, 1, none⟩) HG8.out (.int .i64 td))
    have HB11 := Lib.hid (HB10.out.setCell (p := ⟨g, 2, none⟩) HG8.out (.string z))
    clear hn1 hn2 g1 t0 t1 t2 t3 t4 v1 x0 x1 r0 r1 f0 f1
    have v2 := blk_frozen HN1.out 2
    obtain ⟨t0, t1, t2, t3, t4⟩ := node_cells HN1.out
    go_upto_region 33 with (fail)
    clear t0 t1 t2 t3 t4 v2
    generalize (w9.setCell ⟨g, 1, none⟩ (.int .i64 td)).setCell ⟨g, 2, none⟩ (.string z) = w11 at HB11 HN2 ⊢
    clear HB10 HN1
    obtain ⟨⟨x0, x1⟩, ⟨r0, r1⟩, f0, f1⟩ := HX.out _ HB11.out
    obtain ⟨t0, t1, t2, t3, t4⟩ := node_cells HN2.out
    go_wp2_with (go_at_call 145; refine (HWI.out L _ _ ⟨A, c, rfl, hle, HCT.out _ HB11.out⟩ (by have := HLEN.out; omega)).mono ?_; rintro e w12 ⟨A7, c7, rfl, hb7, B7, hB7, hR7⟩; have HB12 := Lib.hid (HB11.out.trans (hb7.mono HB11.out.size)); have HR7 := Lib.hid hR7; have HBB := Lib.hid (Nat.lt_of_le_of_lt HB11.out.size hB7); clear hR7 hB7 hb7 x0 x1 r0 r1 f0 f1; obtain ⟨⟨x0, x1⟩, ⟨r0, r1⟩, f0, f1⟩ := HX.out _ HB12.out)
    have hlt2 := blk_lt HR2.out
    have hRR := Kd.R_reads (rfar2 (u := .slice A7 L.length c7) (u' := .int .i64 last) HR7.out (show b + 1 < B7 by have := HBB.out; omega))
    obtain ⟨hre, hSS⟩ := HRS.out
    have e3 := (HB12.out.block _ (blk_lt HR2.out)).trans HR2.out
    have hT := res_cells (.slice A7 L.length c7) (.int .i64 last) e3
    have hB9 : Below w.heap.size w ((w12.setCell ⟨b + 1, 0, none⟩ (.slice A7 L.length c7)).setCell ⟨b + 1, 1, none⟩ (.int .i64 last)) := ((HB2.out.trans (HB12.out.mono HB2.out.size)).setCell (p := ⟨b + 1, 0, none⟩) (by rw [HW0.out]; exact Nat.le_succ b) (.slice A7 L.length c7)).setCell (p := ⟨b + 1, 1, none⟩) (by rw [HW0.out]; exact Nat.le_succ b) (.int .i64 last)
    generalize (w12.setCell ⟨b + 1, 0, none⟩ (.slice A7 L.length c7)).setCell ⟨b + 1, 1, none⟩ (.int .i64 last) = w9 at hT hB9 hRR ⊢
    obtain ⟨t0, t1⟩ := hT
    refine bodyPost_ret (v := .tuple #[.agg #[.slice A7 L.length c7, .int .i64 last], .int .i64 0]) (by simp [results, Tryz.results109, go_sem, t0, t1, hu30]) rfl ⟨.agg #[.slice A7 L.length c7, .int .i64 last], by rw [hre], by rw [hSS]; exact (by obtain ⟨A9, c9, e9, h9, hC9⟩ := hRR; rw [withL_len] at e9; exact ⟨A9, c9, by rw [e9, withL_len], h9, hC9⟩), hB9⟩
   ·
    have d1 : (0 : Int) < o := by have := HON.out; omega
    have hrm : rm = if y3 = 1 ∧ p3 ≠ 1 then (false, 8) else if p3 = 1 ∧ y3 ≠ 1 then (false, 7) else (false, ce) := by rw [HRM.out, if_neg c2, if_neg c1]
    have HRM1 := Lib.hid hrm
    clear hrm HRM
    go_upto_region 23 with (go_at_call 68; refine (HAO.out _ (HCT.out _ HB9.out)).mono ?_; rintro e w10 ⟨rfl, hb⟩; have HB10 := Lib.hid (HB9.out.trans (hb.mono HB9.out.size)); have HE10 := Lib.hid (HE9.out.trans (hb.mono HE9.out.size)); clear hb x0 x1 r0 r1 f0 f1)
    have HBa := Lib.hid (HB10.out.alloc HB10.out.size (.cells #[.int .i64 y0, .int .i64 y1, .string y2, .int .i64 y3, .string y4] 106))
    have HEa := Lib.hid (HE10.out.alloc HE10.out.size (.cells #[.int .i64 y0, .int .i64 y1, .string y2, .int .i64 y3, .string y4] 106))
    have Ha := Lib.hid (heap_alloc_new w10 (.cells #[.int .i64 y0, .int .i64 y1, .string y2, .int .i64 y3, .string y4] 106))
    generalize w10.alloc (.cells #[.int .i64 y0, .int .i64 y1, .string y2, .int .i64 y3, .string y4] 106) = wa at HBa HEa Ha ⊢
    generalize w10.heap.size = ga at Ha ⊢
    clear HB10 HE10
    obtain ⟨⟨x0, x1⟩, ⟨r0, r1⟩, f0, f1⟩ := HX.out _ HBa.out
    obtain ⟨-, -, -, t3, -⟩ := node_cells (HY.out _ HEa.out)
    obtain ⟨-, -, -, s3, -⟩ := node_cells Ha.out
    by_cases c3 : y3 = 1
    ·
     have hrm : rm = (false, 8) := by rw [HRM1.out, if_pos ⟨c3, HKN.out⟩]
     have hre : re = 8 := by rw [HRE1.out, hrm]; rfl
     have hSS : SS = L := by rw [HS.out, if_neg (fun e => by rw [hre] at e; cases e.1)]
     have HRS := Lib.hid (And.intro hre hSS)
     clear hre hSS hrm HS HRE1 HRM1 HWI HCUT
     subst c3
     go_wp2
     obtain ⟨hre, hSS⟩ := HRS.out
     have e3 := (HBa.out.block _ (blk_lt HR2.out)).trans HR2.out
     have hT := res_cells (.slice A L.length c) (.int .i64 last) e3
     have hB9 : Below w.heap.size w ((wa.setCell ⟨b + 1, 0, none⟩ (.slice A L.length c)).setCell ⟨b + 1, 1, none⟩ (.int .i64 last)) := ((HB2.out.trans (HBa.out.mono HB2.out.size)).setCell (p := ⟨b + 1, 0, none⟩) (by rw [HW0.out]; exact Nat.le_succ b) (.slice A L.length c)).setCell (p := ⟨b + 1, 1, none⟩) (by rw [HW0.out]; exact Nat.le_succ b) (.int .i64 last)
     generalize (wa.setCell ⟨b + 1, 0, none⟩ (.slice A L.length c)).setCell ⟨b + 1, 1, none⟩ (.int .i64 last) = w9 at hT hB9 ⊢
     obtain ⟨t0, t1⟩ := hT
     refine bodyPost_ret (v := .tuple #[.agg #[.slice A L.length c, .int .i64 last], .int .i64 8]) (by simp [results, Tryz.results109, go_sem, t0, t1, hu30]) rfl ⟨.agg #[.slice A L.length c, .int .i64 last], by rw [hre], by rw [hSS]; exact ⟨A, c, rfl, hle, Kd.C_below HC.out hB9⟩, hB9⟩
    ·
     have b4 : (y3 == 1) = false := beq_eq_false_iff_ne.2 c3
     have b5 : (y3 != 1) = true := bne_iff_ne.2 c3
     have hrm : rm = (false, ce) := by rw [HRM1.out, if_neg (fun e => c3 e.1), if_neg (fun e => HKN.out e.1)]
     have HRM2 := Lib.hid hrm
     clear hrm HRM1
     clear c3
     go_upto_region 28 with (go_at_call 108; refine (HCUT.out _ ⟨A, c, rfl, hle, HCT.out _ HBa.out⟩).mono ?_; rintro e wb ⟨vb, rfl, hRb, hb, hOwn⟩; obtain ⟨Ab, cb, rfl, hlb, hCb⟩ := hRb; have HBb := Lib.hid (HBa.out.trans (hb.mono HBa.out.size)); have HEb := Lib.hid (HEa.out.trans (hb.mono HEa.out.size)); have HOW := Lib.hid hOwn; have HSZ := Lib.hid hb.size; clear hb hlb hCb hOwn x0 x1 r0 r1 f0 f1 t3 s3)
     have HBc := Lib.hid (HBb.out.alloc HBb.out.size (.cells #[.slice Ab cs.length cb, .int .i64 last] 30))
     have HEc := Lib.hid (HEb.out.alloc HEb.out.size (.cells #[.slice Ab cs.length cb, .int .i64 last] 30))
     have Hc := Lib.hid (heap_alloc_new wb (.cells #[.slice Ab cs.length cb, .int .i64 last] 30))
     by_cases c4 : ce = 0
     ·
      have hre : re = 0 := by rw [HRE1.out, HRM2.out, c4]; rfl
      have hSS : SS = withL (cutL L o) ⟨p0, td, z, p3, p4⟩ := by rw [HS.out, if_pos ⟨hre, by rw [HRM2.out]⟩, if_neg (fun e => by omega)]
      have HRS := Lib.hid (And.intro hre hSS)
      subst c4
      obtain ⟨A9, c9, B9, e9, hB9, hR9⟩ := HOW.out rfl
      have hcs : cs = cutL L o := by rw [HCS.out, if_pos rfl]
      have hML : (cutL L o).length ≤ 1000000 := Nat.le_trans (List.length_filter_le _ _) (by have := HLEN.out; omega)
      subst hcs
      cases e9
      have HR9 := Lib.hid (Kd.R_alloc hR9 (.cells #[.slice Ab (cutL L o).length cb, .int .i64 last] 30))
      have HM9 := Lib.hid hML
      have hgb : b + 1 < w2.heap.size := blk_lt HR2.out
      have hgg := HG8.out
      have HBB9 := Lib.hid (show b < B9 ∧ g < B9 ∧ g ≠ b ∧ b ≠ g ∧ b + 1 ≠ b ∧ b + 1 ≠ g by
       have := HBa.out.size
       have := blk_lt (HY.out _ HEa.out)
       refine ⟨by omega, by omega, by omega, by omega, by omega, by omega⟩)
      clear hre hSS HS HRE1 HRM2 HOW HCS HCUT hR9 hB9 hML hgb hgg
      generalize wb.alloc (.cells #[.slice Ab (cutL L o).length cb, .int .i64 last] 30) = wc at HBc HEc Hc HR9 ⊢
      generalize wb.heap.size = gc at Hc ⊢
      generalize cutL L o = M at *
      obtain ⟨⟨m0, m1⟩, -, -⟩ := box_cells Hc.out
      have eb := (HBc.out.block _ (blk_lt HR1.out)).trans HR1.out
      have er := (HBc.out.block _ (blk_lt HR2.out)).trans HR2.out
      have eg := HY.out _ HEc.out
      obtain ⟨⟨x0, x1⟩, f0, f1⟩ := box_cells eb
      have HEB := Lib.hid (two_set (u0 := .slice Ab M.length cb) (u1 := .int .i64 last) eb)
      have HER := Lib.hid (two_other (u0 := .slice Ab M.length cb) (u1 := .int .i64 last) (i0 := 0) (i1 := 1) HBB9.out.2.2.2.2.1 er)
      have HEG := Lib.hid (two_other (u0 := .slice Ab M.length cb) (u1 := .int .i64 last) (i0 := 0) (i1 := 1) HBB9.out.2.2.1 eg)
      have HRd := Lib.hid (rfar2 (b := b) (u := .slice Ab M.length cb) (u' := .int .i64 last) HR9.out HBB9.out.1)
      have HBd := Lib.hid (((HB2.out.trans (HBc.out.mono HB2.out.size)).setCell (p := ⟨b, 0, none⟩) (by rw [HW0.out]; exact Nat.le_refl b) (.slice Ab M.length cb)).setCell (p := ⟨b, 1, none⟩) (by rw [HW0.out]; exact Nat.le_refl b) (.int .i64 last))
      clear eb er eg HBa HBb HEa HEb
      go_upto_region 31 with (fail)
      clear f0 f1 m0 m1 x0 x1
      generalize (wc.setCell ⟨b, 0, none⟩ (.slice Ab M.length cb)).setCell ⟨b, 1, none⟩ (.int .i64 last) = wd at HEB HER HEG HRd HBd ⊢
      obtain ⟨hn1, hn2⟩ := node_set (.int .i64 td) (.string z) HEG.out
      have HN1 := Lib.hid hn1
      have HN2 := Lib.hid hn2
      have HEB2 := Lib.hid (two_other (u0 := .int .i64 td) (u1 := .string z) (i0 := 1) (i1 := 2) HBB9.out.2.2.2.1 HEB.out)
      have HER2 := Lib.hid (two_other (u0 := .int .i64 td) (u1 := .string z) (i0 := 1) (i1 := 2) HBB9.out.2.2.2.2.2 HER.out)
      have HRe := Lib.hid (rfar12 (b := g) (u := .int .i64 td) (u' := .string z) HRd.out HBB9.out.2.1)
      have hgw : w.heap.size ≤ g := Nat.le_trans HB2.out.size HG8.out
      have HBe := Lib.hid ((HBd.out.setCell (p := ⟨g, 1, none⟩) hgw (.int .i64 td)).setCell (p := ⟨g, 2, none⟩) hgw (.string z))
      clear hn1 hn2 hgw
      have v1 := blk_frozen HEG.out 1
      obtain ⟨t0, t1, t2, t3, t4⟩ := node_cells HEG.out
      go_upto_region 32 with (fail)
      clear v1 t0 t1 t2 t3 t4
      have v2 := blk_frozen HN1.out 2
      obtain ⟨t0, t1, t2, t3, t4⟩ := node_cells HN1.out
      go_upto_region 33 with (fail)
      clear t0 t1 t2 t3 t4 v2 HN1 HEB HER HEG HRd HBd
      generalize (wd.setCell ⟨g, 1, none⟩ (.int .i64 td)).setCell ⟨g, 2, none⟩ (.string z) = we at HN2 HEB2 HER2 HRe HBe ⊢
      obtain ⟨⟨x0, x1⟩, -, -⟩ := box_cells HEB2.out
      obtain ⟨t0, t1, t2, t3, t4⟩ := node_cells HN2.out
      obtain ⟨Ae, ce', ee, hle', hCe⟩ := Kd.R_reads HRe.out
      cases ee
      have HRT : Hid (RAt we (.agg #[.slice Ab M.length cb, .int .i64 last]) M last) := Lib.hid ⟨Ab, cb, rfl, hle', hCe⟩
      clear hle' hCe
      go_wp2_with (go_at_call 145; refine (HWI.out M _ _ HRT.out HM9.out).mono ?_; rintro e w12 ⟨A7, c7, rfl, hb7, B7, hB7, hR7⟩; have HB12 := Lib.hid hb7; have HR7 := Lib.hid hR7; have HBB := Lib.hid hB7; clear hR7 hB7 hb7 x0 x1; have er := (HB12.out.block _ (blk_lt HER2.out)).trans HER2.out; obtain ⟨⟨r0, r1⟩, f0, f1⟩ := box_cells er; have HER3 := Lib.hid er; clear er)
      have hlt2 := blk_lt HER2.out
      have hRR := Kd.R_reads (rfar2 (b := b + 1) (u := .slice A7 M.length c7) (u' := .int .i64 last) HR7.out (show b + 1 < B7 by have := HBB.out; omega))
      obtain ⟨hre, hSS⟩ := HRS.out
      have hT := res_cells (.slice A7 M.length c7) (.int .i64 last) HER3.out
      have hB9 : Below w.heap.size w ((w12.setCell ⟨b + 1, 0, none⟩ (.slice A7 M.length c7)).setCell ⟨b + 1, 1, none⟩ (.int .i64 last)) := ((HBe.out.trans (HB12.out.mono HBe.out.size)).setCell (p := ⟨b + 1, 0, none⟩) (by rw [HW0.out]; exact Nat.le_succ b) (.slice A7 M.length c7)).setCell (p := ⟨b + 1, 1, none⟩) (by rw [HW0.out]; exact Nat.le_succ b) (.int .i64 last)
      generalize (w12.setCell ⟨b + 1, 0, none⟩ (.slice A7 M.length c7)).setCell ⟨b + 1, 1, none⟩ (.int .i64 last) = w9' at hT hB9 hRR ⊢
      obtain ⟨t0, t1⟩ := hT
      refine bodyPost_ret (v := .tuple #[.agg #[.slice A7 M.length c7, .int .i64 last], .int .i64 0]) (by simp [results, Tryz.results109, go_sem, t0, t1, hu30]) rfl ⟨.agg #[.slice A7 M.length c7, .int .i64 last], by rw [hre], by rw [hSS]; exact (by obtain ⟨A9, c9, e9, h9, hC9⟩ := hRR; rw [withL_len] at e9; exact ⟨A9, c9, by rw [e9, withL_len], h9, hC9⟩), hB9⟩
     ·
      have hre : re = ce := by rw [HRE1.out, HRM2.out]; rfl
      have hSS : SS = L := by rw [HS.out, if_neg (fun e => c4 (hre.symm.trans e.1))]
      have HRS := Lib.hid (And.intro hre hSS)
      have b6 : (ce != 0) = true := bne_iff_ne.2 c4
      clear hre hSS HS HRE1 HRM2 HOW HCS HCUT HWI c4
      generalize wb.alloc (.cells #[.slice Ab cs.length cb, .int .i64 last] 30) = wc at HBc HEc Hc ⊢
      generalize wb.heap.size = gc at Hc ⊢
      clear HBa HBb HEa HEb
      obtain ⟨⟨x0, x1⟩, ⟨r0, r1⟩, f0, f1⟩ := HX.out _ HBc.out
      go_wp2
      obtain ⟨hre, hSS⟩ := HRS.out
      have e3 := (HBc.out.block _ (blk_lt HR2.out)).trans HR2.out
      have hT := res_cells (.slice A L.length c) (.int .i64 last) e3
      have hB9 : Below w.heap.size w ((wc.setCell ⟨b + 1, 0, none⟩ (.slice A L.length c)).setCell ⟨b + 1, 1, none⟩ (.int .i64 last)) := ((HB2.out.trans (HBc.out.mono HB2.out.size)).setCell (p := ⟨b + 1, 0, none⟩) (by rw [HW0.out]; exact Nat.le_succ b) (.slice A L.length c)).setCell (p := ⟨b + 1, 1, none⟩) (by rw [HW0.out]; exact Nat.le_succ b) (.int .i64 last)
      generalize (wc.setCell ⟨b + 1, 0, none⟩ (.slice A L.length c)).setCell ⟨b + 1, 1, none⟩ (.int .i64 last) = w9 at hT hB9 ⊢
      obtain ⟨t0, t1⟩ := hT
      refine bodyPost_ret (v := .tuple #[.agg #[.slice A L.length c, .int .i64 last], .int .i64 ce]) (by simp [results, Tryz.results109, go_sem, t0, t1, hu30]) rfl ⟨.agg #[.slice A L.length c, .int .i64 last], by rw [hre], by rw [hSS]; exact ⟨A, c, rfl, hle, Kd.C_below HC.out hB9⟩, hB9⟩
end Go.Proofs.YtnpeeiikdcankaaGreat.Tw

namespace Go.Proofs.YtnpeeiikdcankaaGreat.Tw
open Go Go.RowKit Go.Proofs Go.Proofs.YtnpeeiikdcankaaGreat Go.Proofs.YtnpeeiikdcankaaGreatW.PrintWords Go.Proofs.YtnpeeiikdcankaaGreat.Ext Go.Proofs.YtnpeeiikdcankaaGreat.X Go.Proofs.YtnpeeiikdcankaaGreat.Pu
theorem walk_rng {L : List RN} {last : Int} (hG : GoodL L last) (hM : GoodM L) (lst : Bool) : ∀ (k : Nat) (a h : Int) (l : List ByteArray) (R : Int × Int), walkF (trOf L last) lst k a h l = some R → (atR L a).f3 ≠ 0 → R.2 = 0 → (atR L R.1).f3 ≠ 0 := by
 intro k
 induction k with
 | zero => intro a h l R hw; cases hw
 | succ k ih =>
  intro a h l R hw ha hR
  cases l with
  | nil =>
   rw [walk_nil] at hw
   obtain rfl := Option.some.inj hw
   exact ha
  | cons s l =>
   rw [walk_cons, node_of hG a] at hw
   simp only [] at hw
   split at hw
   · obtain rfl := Option.some.inj hw; cases hR
   rename_i hk
   have hk1 : (atR L a).f3 = 1 := by simpa using hk
   split at hw
   ·
    obtain ⟨r, hr, _, hat⟩ := at_kind ha
    refine ih _ _ _ _ hw ?_ hR
    rw [hat, hG.up r hr]
    decide
   split at hw
   ·
    rename_i h3
    obtain rfl := Option.some.inj hw
    exact absurd hR h3
   rename_i h3
   have hd : (atR L (downT (trOf L last) a s).1).f3 ≠ 0 := by
    rw [downT_of hG] at h3 ⊢
    split at h3
    ·
     rename_i hc
     rw [if_pos hc]
     split at h3
     · simp at h3
     ·
      rename_i h0
      rw [if_neg h0]
      obtain ⟨r, hr, _, _, _, _, hat⟩ := inR_mem hG h0
      rw [show (inR L a s, (0 : Int)).1 = inR L a s from rfl, hat]
      have := hM.kind r hr
      omega
    ·
     rename_i hc
     simp at h3
     exact absurd h3 hc
   split at hw
   · exact ih _ _ _ _ hw hd hR
   split at hw
   · obtain rfl := Option.some.inj hw; cases hR
   refine ih _ _ _ _ hw ?_ hR
   split
   ·
    obtain ⟨r, hr, h1, _, h2⟩ := hG.root
    rw [← h1, at_mem hG hr, h2]
    decide
   · exact ha
theorem find_rng {L : List RN} {last : Int} (hG : GoodL L last) (hM : GoodM L) {lst : Bool} {k : Nat} {s : ByteArray} {R : Int × Int} (h : findF (trOf L last) lst k s = some R) : (R.2 = 0 → 1 ≤ R.1 ∧ R.1 ≤ last) ∧ (R.2 ≠ 0 → R.1 = 0) := by
 have hroot : (atR L 1).f3 ≠ 0 := by
  obtain ⟨r, hr, h1, _, h2⟩ := hG.root
  rw [← h1, at_mem hG hr, h2]
  decide
 unfold findF at h
 split at h
 ·
  obtain ⟨q, hq, hr⟩ := Option.bind_eq_some_iff.1 h
  split at hr
  ·
   rename_i h0
   obtain rfl := Option.some.inj hr
   refine ⟨fun _ => ?_, fun h => absurd rfl h⟩
   obtain ⟨r, hr, h1, _⟩ := at_kind (walk_rng hG hM lst k 1 0 (partsB s) q hq hroot h0)
   have := hG.num r hr
   omega
  ·
   rename_i h0
   obtain rfl := Option.some.inj hr
   exact ⟨fun h => absurd h h0, fun _ => rfl⟩
 ·
  rename_i h0
  obtain rfl := Option.some.inj h
  exact ⟨fun h => absurd h h0, fun _ => rfl⟩
theorem find_wf {L : List RN} {last : Int} (hG : GoodL L last) (hM : GoodM L) (hla : last ≤ 1000000) {lst : Bool} {k : Nat} {s : ByteArray} {R : Int × Int} (h : findF (trOf L last) lst k s = some R) : wf R.1 := by
 obtain ⟨h1, h2⟩ := find_rng hG hM h
 by_cases h0 : R.2 = 0
 ·
  have := h1 h0
  exact wf_of (by omega)
 ·
  rw [h2 h0]
  exact wf0
section
variable {L : List RN} {last : Int} {s : ByteArray} {lst : Bool} {R : Int × Int}
end
end Go.Proofs.YtnpeeiikdcankaaGreat.Tw

namespace Go.Proofs.YtnpeeiikdcankaaGreat.Tw
open Go Go.RowKit Go.Shelf Go.Proofs Go.Proofs.YtnpeeiikdcankaaGreat Go.Proofs.YtnpeeiikdcankaaGreatW.PrintWords Go.Proofs.YtnpeeiikdcankaaGreat.Ext Go.Proofs.YtnpeeiikdcankaaGreat.X Go.Proofs.YtnpeeiikdcankaaGreat.Pu
set_option maxHeartbeats 2000000 in
set_option maxRecDepth 1000000 in
theorem write_new (p B : Nat) (L : List RN) (last : Int) (path data s : ByteArray) (n d : Int) (k1 k2 : Nat) (w : World) (h : TreeB w p B (trOf L last)) (hG : GoodL L last) (hla : last < 1000000) (hw : wf n) (hd : wf d) (hs : s.size < 4294967281) (hF : findF (trOf L last) true k1 path = some (n, 5)) (hS : spotF (trOf L last) k2 path = some (d, s, 0)) (hN : inR L d s = 0) :
  Calls Tryz.prog 52 #[pT p, .string path, .string data] w fun e w' => e = .returned (.int .i64 (putRE L d s 2 data)) ∧ TreeB w' p B (trOf (putL L last d s 2 data) (putN L last d s 2 data)) ∧ Frm w w' p B := by
 have hO := trOK hG (by omega)
 have HS := Lib.hid (fun W h => pstat_calls p (trOf L last) path k1 (n, 5) W h hO hw hF)
 rw [show stT (trOf L last) (n, 5) = (0, 0, 0) from rfl] at HS
 have HP := Lib.hid (fun W h => spot_calls p (trOf L last) path k2 (d, s, 0) W h hO hS)
 have HL := Lib.hid (fun W h => list_calls p (trOf L last) d W h hd (hO.small.node d))
 have HE := Lib.hid (fun A c W h hc => find_calls A c ((trOf L last).node d).ents s W h hc (hO.small.node d) (node_rt hO d))
 rw [node_of hG d] at HE HL
 simp only [find_ents hG d s, hN] at HE
 rw [show decide ((0 : Int) < 0) = false from rfl] at HE
 simp only [] at HL
 generalize entsOf L d = es at HE HL
 have HU := Lib.hid (fun W h => tput_calls p B L last d s 2 data W h hG hd hs hla)
 have HT := Lib.hid h
 have HTA := Lib.hid (fun W (hb : Below w.heap.size w W) => (h.below hb).at_)
 have hu := Tryz.underlying143
 generalize putRE L d s 2 data = pe at HU ⊢
 generalize putA L last d s 2 data = pa at HU
 generalize trOf (putL L last d s 2 data) (putN L last d s 2 data) = T2 at HU ⊢
 generalize trOf L last = T1 at *
 clear h hO hG hla hw hd hs hF hS hN
 go_enter Tryz.func52, Tryz.ntmps52
 go_wp2_with (first
  | (go_at_call 91; refine (HS.out _ HT.out.at_).mono ?_; rintro e w2 ⟨rfl, hb2⟩; have HB2 := Lib.hid (hb2.alloc hb2.size (.cells #[.int .i64 0, .int .i64 0, .int .i64 0] 143)); clear hb2)
  | (go_at_call 93; refine (HP.out _ (HTA.out _ HB2.out)).mono ?_; rintro e w3 ⟨rfl, hb3⟩; have HB3 := Lib.hid (HB2.out.trans (hb3.mono HB2.out.size)); clear hb3)
  | (go_at_call 74; refine (HL.out _ (HTA.out _ HB3.out)).mono ?_; rintro e w4 ⟨v, rfl, hv, hb4⟩; obtain ⟨A4, c4, rfl, hl4, hC4⟩ := Kd.R_reads hv; have HB4 := Lib.hid (HB3.out.trans (hb4.mono HB3.out.size)); have HC4 := Lib.hid hC4; clear hv hb4 hC4)
  | (go_at_call 94; refine (HE.out _ _ _ HC4.out hl4).mono ?_; rintro e w5 ⟨rfl, hb5⟩; have HB5 := Lib.hid (HB4.out.trans (hb5.mono HB4.out.size)); clear hb5)
  | (go_at_call 56; refine (HU.out _ (HT.out.below HB5.out)).mono ?_; rintro e w6 ⟨rfl, hT6, hf6⟩))
 go_ret
 exact ⟨rfl, hT6, (Frm.ofBelow HB5.out).trans hf6⟩
abbrev nodesB : List MN := [⟨-1, ⟨#[97]⟩, 1, ⟨#[]⟩⟩, ⟨-1, ⟨#[108]⟩, 3, ⟨#[97]⟩⟩]
abbrev nodesC : List MN := [⟨-1, ⟨#[97]⟩, 1, ⟨#[]⟩⟩, ⟨-1, ⟨#[108]⟩, 3, ⟨#[97]⟩⟩, ⟨0, ⟨#[102]⟩, 2, ⟨#[120]⟩⟩]
abbrev rowsB : List RN := [⟨1, 1, ⟨#[]⟩, 1, ⟨#[]⟩⟩, ⟨2, 1, ⟨#[97]⟩, 1, ⟨#[]⟩⟩, ⟨3, 1, ⟨#[108]⟩, 3, ⟨#[97]⟩⟩]
abbrev rowsC : List RN := [⟨1, 1, ⟨#[]⟩, 1, ⟨#[]⟩⟩, ⟨2, 1, ⟨#[97]⟩, 1, ⟨#[]⟩⟩, ⟨3, 1, ⟨#[108]⟩, 3, ⟨#[97]⟩⟩, ⟨4, 2, ⟨#[102]⟩, 2, ⟨#[120]⟩⟩]
theorem madeB : madeF nodesB = ⟨rowsB, 3, [2, 3]⟩ := by
 simp [madeF, made0, madeStep, dirAt, putL, putN, putA, putRE, dirE, atR, inR, inQ, toL, mayE, Sp.check, ByteArray.size]
theorem madeC : madeF nodesC = ⟨rowsC, 4, [2, 3, 4]⟩ := by
 simp [madeF, made0, madeStep, dirAt, putL, putN, putA, putRE, dirE, atR, inR, inQ, toL, mayE, Sp.check, ByteArray.size]
theorem goodB : GoodL rowsB 3 ∧ GoodM rowsB := by
 have h := made_good nodesB
 rw [madeB] at h
 exact ⟨h.1, h.2.1⟩
theorem goodC : GoodL rowsC 4 ∧ GoodM rowsC := by
 have h := made_good nodesC
 rw [madeC] at h
 exact ⟨h.1, h.2.1⟩
theorem findB : ∃ k, findF (trOf rowsB 3) true k ⟨#[108, 47, 102]⟩ = some (0, 5) := by
 have hG := goodB.1
 refine ⟨10, ?_⟩
 simp [findF, beginE, toL, ByteArray.size, partsB, bs, Sp.parts, Sp.go, Sp.keep, walk_cons, walk_nil, node_of hG, downT_of hG, atR, inR, inQ, Sp.check, slashB, Lib.hasPrefix, Sp.mk]
theorem spotB : ∃ k, spotF (trOf rowsB 3) k ⟨#[108, 47, 102]⟩ = some (2, ⟨#[102]⟩, 0) := by
 have hG := goodB.1
 refine ⟨10, ?_⟩
 simp [spotF, beginE, toL, ByteArray.size, partsB, bs, Sp.parts, Sp.go, Sp.keep, walk_cons, walk_nil, node_of hG, downT_of hG, atR, inR, inQ, Sp.check, slashB, Lib.hasPrefix, Sp.mk]
theorem findC : ∃ k, findF (trOf rowsC 4) true k ⟨#[47, 97, 47, 102]⟩ = some (4, 0) := by
 have hG := goodC.1
 refine ⟨10, ?_⟩
 simp [findF, beginE, toL, ByteArray.size, partsB, bs, Sp.parts, Sp.go, Sp.keep, walk_cons, walk_nil, node_of hG, downT_of hG, atR, inR, inQ, Sp.check, slashB, Lib.hasPrefix, Sp.mk]
theorem putB : putRE rowsB 2 ⟨#[102]⟩ 2 ⟨#[120]⟩ = 0 ∧ putL rowsB 3 2 ⟨#[102]⟩ 2 ⟨#[120]⟩ = rowsC ∧ putN rowsB 3 2 ⟨#[102]⟩ 2 ⟨#[120]⟩ = 4 := by
 simp [putL, putN, putRE, dirE, atR, inR, inQ, toL, mayE, Sp.check, ByteArray.size]
theorem made_B (g : Nat) (W : World) (h : W.heap[g]? = some (.cells (nodesB.flatMap cellsN).toArray 93 (0, 0))) :
  Calls Tryz.prog 14 #[.slice (some ⟨g, 0, none⟩) 2 2] W fun e w' => ∃ p B v, e = .returned (.tuple #[pT p, v]) ∧ TreeB w' p B (trOf rowsB 3) ∧ RAt w' v rowsB 3 ∧ Below W.heap.size W w' ∧ W.heap.size ≤ p ∧ W.heap.size ≤ B := by
 have := made_calls (some ⟨g, 0, none⟩) 2 nodesB W (litN W g nodesB _ h (by decide)) (by decide) (by decide) (by intro x hx; simp only [nodesB, List.mem_cons, List.not_mem_nil, or_false] at hx; rcases hx with rfl | rfl <;> decide)
 rw [madeB] at this
 exact this
theorem write_B (p B : Nat) (W : World) (h : TreeB W p B (trOf rowsB 3)) :
  Calls Tryz.prog 52 #[pT p, .string ⟨#[108, 47, 102]⟩, .string ⟨#[120]⟩] W fun e w' => e = .returned (.int .i64 0) ∧ TreeB w' p B (trOf rowsC 4) ∧ Frm W w' p B := by
 obtain ⟨k1, h1⟩ := findB
 obtain ⟨k2, h2⟩ := spotB
 obtain ⟨e1, e2, e3⟩ := putB
 have := write_new p B rowsB 3 ⟨#[108, 47, 102]⟩ ⟨#[120]⟩ ⟨#[102]⟩ 0 2 k1 k2 W h goodB.1 (by decide) wf0 (wf_of (by decide)) (by decide) h1 h2 (by simp [inR, inQ, toL])
 rw [e1, e2, e3] at this
 exact this
theorem read_C (p : Nat) (W : World) (h : TreeAt W p (trOf rowsC 4)) :
  Calls Tryz.prog 53 #[pT p, .string ⟨#[47, 97, 47, 102]⟩] W fun e w' => e = .returned (.tuple #[.string ⟨#[120]⟩, .int .i64 0]) ∧ Below W.heap.size W w' := by
 obtain ⟨k, hk⟩ := findC
 have hG := goodC.1
 have := pread_calls p (trOf rowsC 4) ⟨#[47, 97, 47, 102]⟩ k (4, 0) W h (trOK hG (by decide)) (wf_of (by decide)) hk
 rw [show askD (trOf rowsC 4) (4, 0) 2 8 = (⟨#[120]⟩, 0) by simp [askD, node_of hG, atR]] at this
 exact this
set_option maxHeartbeats 1000000 in
set_option maxRecDepth 1000000 in
theorem lives09_calls (w : World) : Calls Tryz.prog 13 #[] w fun e w' => e = .returned (.bool true) ∧ Below w.heap.size w w' := by
 have HBX := Lib.hid (heap_alloc_new w (.cells (nodesB.flatMap cellsN).toArray 93))
 have HB0 := Lib.hid ((Below.refl w.heap.size w).alloc (Nat.le_refl _) (.cells (nodesB.flatMap cellsN).toArray 93))
 have hsz : (w.alloc (.cells (nodesB.flatMap cellsN).toArray 93)).heap.size = w.heap.size + 1 := Array.size_push _
 have HSZ := Lib.hid hsz
 have HM := Lib.hid (made_B w.heap.size)
 have HW := Lib.hid write_B
 have HR := Lib.hid read_C
 clear hsz
 go_enter Tryz.func13, Tryz.ntmps13
 go_wp2_with (first
  | (go_at_call 14; refine (HM.out _ HBX.out).mono ?_; rintro e w2 ⟨p, B, v, rfl, hT2, ⟨A2, c2, rfl, _, _⟩, hb2, hp2, hB2⟩; have HT2 := Lib.hid hT2; have HB2 := Lib.hid (HB0.out.trans (hb2.mono HB0.out.size)); have HPB := Lib.hid (show w.heap.size ≤ p ∧ w.heap.size ≤ B by have := HSZ.out; omega); clear hT2 hb2 hp2 hB2)
  | (go_at_call 52; refine (HW.out _ _ _ (HT2.out.below ((Below.refl _ w2).alloc (Nat.le_refl _) _))).mono ?_; rintro e w3 ⟨rfl, hT3, hf3⟩; have HT3 := Lib.hid hT3; have HB3 := Lib.hid ((HB2.out.alloc HB2.out.size _).trans (hf3.below (HB2.out.alloc HB2.out.size _).size HPB.out.1 HPB.out.2)); clear hT3 hf3)
  | (go_at_call 53; refine (HR.out _ _ HT3.out.at_).mono ?_; rintro e w4 ⟨rfl, hb4⟩))
 go_ret
 exact ⟨rfl, HB3.out.trans (hb4.mono HB3.out.size)⟩
end Go.Proofs.YtnpeeiikdcankaaGreat.Tw

namespace Go.Proofs.YtnpeeiikdcankaaGreat.Tw
open Go Go.RowKit Go.Shelf Go.Proofs Go.Proofs.YtnpeeiikdcankaaGreat Go.Proofs.YtnpeeiikdcankaaGreatW.PrintWords Go.Proofs.YtnpeeiikdcankaaGreat.Ext Go.Proofs.YtnpeeiikdcankaaGreat.X Go.Proofs.YtnpeeiikdcankaaGreat.Pu
noncomputable def spotV (L : List RN) (last : Int) (s : ByteArray) : R3 := @Classical.epsilon R3 ⟨noS 0⟩ (fun R => ∃ k, spotF (trOf L last) k s = some R)
noncomputable def findV (L : List RN) (last : Int) (lst : Bool) (s : ByteArray) : Int × Int := @Classical.epsilon (Int × Int) ⟨(0, 0)⟩ (fun R => ∃ k, findF (trOf L last) lst k s = some R)
theorem spotV_spec {L : List RN} {last : Int} (hG : GoodL L last) (hM : GoodM L) (s : ByteArray) : ∃ k, spotF (trOf L last) k s = some (spotV L last s) := by
 obtain ⟨k, _, R, h, _⟩ := spot_both hG hM s
 exact @Classical.epsilon_spec R3 (fun R => ∃ k, spotF (trOf L last) k s = some R) ⟨R, k, h⟩
theorem findV_spec {L : List RN} {last : Int} (hG : GoodL L last) (hM : GoodM L) (lst : Bool) (s : ByteArray) : ∃ k, findF (trOf L last) lst k s = some (findV L last lst s) := by
 obtain ⟨k, R, h, _⟩ := find_both hG hM lst s
 exact @Classical.epsilon_spec (Int × Int) (fun R => ∃ k, findF (trOf L last) lst k s = some R) ⟨R, k, h⟩
theorem spotF_wf {T : Tr} (hO : TrOK T) {k : Nat} {s : ByteArray} {R : R3} (h : spotF T k s = some R) : wf R.1 ∧ R.2.1.size ≤ 1024 := by
 unfold spotF at h
 by_cases h0 : beginE s = 0
 ·
  rw [if_pos h0] at h
  have hz := (beginE_ok h0).1
  cases hl : (partsB s).getLast? with
  | none => rw [hl] at h; cases h; exact ⟨wf0, Nat.zero_le _⟩
  | some z =>
   rw [hl] at h
   have hzm : z ∈ partsB s := List.mem_of_getLast? hl
   have hzz := partsB_sz s z hzm
   simp only [] at h
   split at h
   · cases h; exact ⟨wf0, Nat.zero_le _⟩
   ·
    obtain ⟨r, hr, h⟩ := Option.bind_eq_some_iff.1 h
    have hwr := walkF_wf hO true k 1 0 _ r wf1 hr
    split at h
    ·
     split at h
     ·
      split at h
      · cases h; exact ⟨hwr, by show z.size ≤ 1024; omega⟩
      · cases h; exact ⟨wf0, Nat.zero_le _⟩
     · cases h; exact ⟨wf0, Nat.zero_le _⟩
    · cases h; exact ⟨wf0, Nat.zero_le _⟩
 ·
  rw [if_neg h0] at h
  cases h
  exact ⟨wf0, Nat.zero_le _⟩
abbrev Op3 := List RN × Int × Int
noncomputable def mkP (L : List RN) (last : Int) (s : ByteArray) (kind : Int) (data : ByteArray) : Op3 :=
 if (spotV L last s).2.2 ≠ 0 then (L, last, (spotV L last s).2.2) else
  (putL L last (spotV L last s).1 (spotV L last s).2.1 kind data, putN L last (spotV L last s).1 (spotV L last s).2.1 kind data, putRE L (spotV L last s).1 (spotV L last s).2.1 kind data)
def mayK (dir : Bool) (k : Int) : Int := if dir = true then (if k = 1 then 0 else 7) else (if k = 1 then 8 else 0)
noncomputable def cutP (L : List RN) (last : Int) (s : ByteArray) (dir : Bool) : Op3 :=
 if (spotV L last s).2.2 ≠ 0 then (L, last, (spotV L last s).2.2) else
  if inR L (spotV L last s).1 (spotV L last s).2.1 = 0 then (L, last, 5) else
   if mayK dir (atR L (inR L (spotV L last s).1 (spotV L last s).2.1)).f3 ≠ 0 then (L, last, mayK dir (atR L (inR L (spotV L last s).1 (spotV L last s).2.1)).f3) else
    (cutS L (spotV L last s).1 (spotV L last s).2.1, last, cutRE L (spotV L last s).1 (spotV L last s).2.1)
noncomputable def renP (L : List RN) (last : Int) (a b : ByteArray) : Op3 :=
 if (spotV L last a).2.2 ≠ 0 then (L, last, (spotV L last a).2.2) else if (spotV L last b).2.2 ≠ 0 then (L, last, (spotV L last b).2.2) else
  (movM L last (spotV L last a).1 (spotV L last a).2.1 (spotV L last b).1 (spotV L last b).2.1, last, movP L last (spotV L last a).1 (spotV L last a).2.1 (spotV L last b).1 (spotV L last b).2.1)
noncomputable def wrP (L : List RN) (last : Int) (s data : ByteArray) : Op3 :=
 if (findV L last true s).2 = 0 then (setS L (findV L last true s).1 data, last, setRE L (findV L last true s).1 data) else
  if (findV L last true s).2 ≠ 5 then (L, last, (findV L last true s).2) else
   if (spotV L last s).2.2 ≠ 0 then (L, last, (spotV L last s).2.2) else
    if inR L (spotV L last s).1 (spotV L last s).2.1 ≠ 0 then (L, last, 5) else
     (putL L last (spotV L last s).1 (spotV L last s).2.1 2 data, putN L last (spotV L last s).1 (spotV L last s).2.1 2 data, putRE L (spotV L last s).1 (spotV L last s).2.1 2 data)
noncomputable def doP (L : List RN) (last k : Int) (a b : ByteArray) : Op3 :=
 if k = 1 then mkP L last a 1 ⟨#[]⟩ else if k = 2 then cutP L last a true else if k = 3 then mkP L last a 3 b else if k = 4 then cutP L last a false else if k = 5 then renP L last a b else if k = 6 then wrP L last a b else (L, last, 2)
structure Fine (L : List RN) (last : Int) (o : Op3) : Prop where
 good : GoodL o.1 o.2.1
 goodm : GoodM o.1
 lst : o.2.1 ≤ last + 1
 same : o.2.2 ≠ 0 → o.1 = L ∧ o.2.1 = last
theorem fine_err {L : List RN} {last e : Int} (hG : GoodL L last) (hM : GoodM L) : Fine L last (L, last, e) := ⟨hG, hM, by show last ≤ last + 1; omega, fun _ => ⟨rfl, rfl⟩⟩
theorem fine_put {L : List RN} {last d : Int} {s : ByteArray} {kind : Int} {data : ByteArray} (hG : GoodL L last) (hM : GoodM L) : Fine L last (putL L last d s kind data, putN L last d s kind data, putRE L d s kind data) := by
 refine ⟨good_put hG, goodM_put hG hM, ?_, fun h => ?_⟩
 ·
  show putN L last d s kind data ≤ last + 1
  unfold putN
  split
  · omega
  · omega
 ·
  show putL L last d s kind data = L ∧ putN L last d s kind data = last
  unfold putL putN
  rw [if_neg h, if_neg h]
  exact ⟨rfl, rfl⟩
theorem fine_mk {L : List RN} {last : Int} (hG : GoodL L last) (hM : GoodM L) (s : ByteArray) (kind : Int) (data : ByteArray) : Fine L last (mkP L last s kind data) := by
 unfold mkP
 split
 · exact fine_err hG hM
 · exact fine_put hG hM
theorem fine_cut {L : List RN} {last : Int} (hG : GoodL L last) (hM : GoodM L) (s : ByteArray) (dir : Bool) : Fine L last (cutP L last s dir) := by
 unfold cutP
 split
 · exact fine_err hG hM
 ·
  split
  · exact fine_err hG hM
  ·
   split
   · exact fine_err hG hM
   ·
    have := good_cut hG hM (spotV L last s).1 (spotV L last s).2.1
    refine ⟨this.1, this.2, by show last ≤ last + 1; omega, fun h => ⟨?_, rfl⟩⟩
    show cutS _ _ _ = L
    unfold cutS
    rw [if_neg h]
theorem fine_ren {L : List RN} {last : Int} (hG : GoodL L last) (hM : GoodM L) (a b : ByteArray) : Fine L last (renP L last a b) := by
 unfold renP
 split
 · exact fine_err hG hM
 ·
  split
  · exact fine_err hG hM
  ·
   have := good_mov hG hM (spotV L last a).1 (spotV L last a).2.1 (spotV L last b).1 (spotV L last b).2.1
   refine ⟨this.1, this.2, by show last ≤ last + 1; omega, fun h => ⟨?_, rfl⟩⟩
   show movM _ _ _ _ _ _ = L
   unfold movM
   rw [if_neg (fun q => h q.1)]
theorem fine_wr {L : List RN} {last : Int} (hG : GoodL L last) (hM : GoodM L) (s data : ByteArray) : Fine L last (wrP L last s data) := by
 unfold wrP
 split
 ·
  have := good_set hG hM (findV L last true s).1 data
  refine ⟨this.1, this.2, by show last ≤ last + 1; omega, fun h => ⟨?_, rfl⟩⟩
  show setS _ _ _ = L
  unfold setS
  rw [if_neg h]
 ·
  split
  · exact fine_err hG hM
  ·
   split
   · exact fine_err hG hM
   ·
    split
    · exact fine_err hG hM
    · exact fine_put hG hM
theorem fine_do {L : List RN} {last : Int} (hG : GoodL L last) (hM : GoodM L) (k : Int) (a b : ByteArray) : Fine L last (doP L last k a b) := by
 unfold doP
 split
 · exact fine_mk hG hM _ _ _
 ·
  split
  · exact fine_cut hG hM _ _
  ·
   split
   · exact fine_mk hG hM _ _ _
   ·
    split
    · exact fine_cut hG hM _ _
    ·
     split
     · exact fine_ren hG hM _ _
     ·
      split
      · exact fine_wr hG hM _ _
      · exact fine_err hG hM
def Left (p B : Nat) (w : World) (o : Op3) (e : Ending) (w' : World) : Prop := e = .returned (.int .i64 o.2.2) ∧ TreeB w' p B (trOf o.1 o.2.1) ∧ Frm w w' p B
theorem left_err {p B : Nat} {w w' : World} {L : List RN} {last e : Int} (h : TreeB w p B (trOf L last)) (hb : Below w.heap.size w w') : Left p B w (L, last, e) (.returned (.int .i64 e)) w' := ⟨rfl, h.below hb, Frm.ofBelow hb⟩
set_option maxHeartbeats 1000000 in
set_option maxRecDepth 1000000 in
theorem put9_calls (p B : Nat) (L : List RN) (last : Int) (s : ByteArray) (kind : Int) (data : ByteArray) (w : World) (h : TreeB w p B (trOf L last)) (hG : GoodL L last) (hM : GoodM L) (hla : last < 1000000) :
  Calls Tryz.prog 112 #[pT p, .string s, .int .i64 kind, .string data] w (Left p B w (mkP L last s kind data)) := by
 have hO := trOK hG (by omega)
 obtain ⟨k, hk⟩ := spotV_spec hG hM s
 obtain ⟨hw, hz⟩ := spotF_wf hO hk
 have HP := Lib.hid (fun W h => spot_calls p (trOf L last) s k _ W h hO hk)
 have HU := Lib.hid (fun W h => tput_calls p B L last (spotV L last s).1 (spotV L last s).2.1 kind data W h hG hw (by omega) hla)
 have HT := Lib.hid h
 unfold mkP
 generalize putA L last (spotV L last s).1 (spotV L last s).2.1 kind data = pa at *
 generalize putRE L (spotV L last s).1 (spotV L last s).2.1 kind data = pe at *
 generalize hpl : putL L last (spotV L last s).1 (spotV L last s).2.1 kind data = pl at *
 generalize hpn : putN L last (spotV L last s).1 (spotV L last s).2.1 kind data = pn at *
 generalize spotV L last s = R at *
 obtain ⟨d, z, e⟩ := R
 simp only [] at *
 clear h hO hG hM hla hk hw hz hpl hpn
 by_cases he : e = 0
 ·
  subst he
  rw [if_neg (by simp)]
  go_enter Tryz.func112, Tryz.ntmps112
  go_wp2_with (first
   | (go_at_call 93; refine (HP.out _ HT.out.at_).mono ?_; rintro e w3 ⟨rfl, hb3⟩)
   | (go_at_call 56; refine (HU.out _ (HT.out.below hb3)).mono ?_; rintro e w6 ⟨rfl, hT6, hf6⟩))
  go_ret
  exact ⟨rfl, hT6, (Frm.ofBelow hb3).trans hf6⟩
 ·
  rw [if_pos he]
  have b1 : (e != 0) = true := bne_iff_ne.2 he
  clear he
  go_enter Tryz.func112, Tryz.ntmps112
  go_wp2_with (go_at_call 93; refine (HP.out _ HT.out.at_).mono ?_; rintro e w3 ⟨rfl, hb3⟩)
  go_ret
  exact left_err HT.out hb3
set_option maxRecDepth 1000000 in
theorem mkdir9_calls (p B : Nat) (L : List RN) (last : Int) (s : ByteArray) (w : World) (h : TreeB w p B (trOf L last)) (hG : GoodL L last) (hM : GoodM L) (hla : last < 1000000) :
  Calls Tryz.prog 62 #[pT p, .string s] w (Left p B w (mkP L last s 1 ⟨#[]⟩)) := by
 have HP := Lib.hid (put9_calls p B L last s 1 ⟨#[]⟩ w h hG hM hla)
 generalize mkP L last s 1 ⟨#[]⟩ = o at *
 clear h hG hM hla
 go_enter Tryz.func62, Tryz.ntmps62
 go_wp2_with (go_at_call 112; refine HP.out.mono ?_; rintro e w3 ⟨rfl, hT, hF⟩)
 go_ret
 exact ⟨rfl, hT, hF⟩
set_option maxRecDepth 1000000 in
theorem symlink9_calls (p B : Nat) (L : List RN) (last : Int) (data s : ByteArray) (w : World) (h : TreeB w p B (trOf L last)) (hG : GoodL L last) (hM : GoodM L) (hla : last < 1000000) :
  Calls Tryz.prog 64 #[pT p, .string data, .string s] w (Left p B w (mkP L last s 3 data)) := by
 have HP := Lib.hid (put9_calls p B L last s 3 data w h hG hM hla)
 generalize mkP L last s 3 data = o at *
 clear h hG hM hla
 go_enter Tryz.func64, Tryz.ntmps64
 go_wp2_with (go_at_call 112; refine HP.out.mono ?_; rintro e w3 ⟨rfl, hT, hF⟩)
 go_ret
 exact ⟨rfl, hT, hF⟩
set_option maxHeartbeats 1000000 in
set_option maxRecDepth 1000000 in
theorem rename9_calls (p B : Nat) (L : List RN) (last : Int) (a b : ByteArray) (w : World) (h : TreeB w p B (trOf L last)) (hG : GoodL L last) (hM : GoodM L) (hla : last < 1000000) :
  Calls Tryz.prog 66 #[pT p, .string a, .string b] w (Left p B w (renP L last a b)) := by
 have hO := trOK hG (by omega)
 obtain ⟨k, hk⟩ := spotV_spec hG hM a
 obtain ⟨hw, hz⟩ := spotF_wf hO hk
 obtain ⟨k2, hk2⟩ := spotV_spec hG hM b
 obtain ⟨hw2, hz2⟩ := spotF_wf hO hk2
 have HP := Lib.hid (fun W h => spot_calls p (trOf L last) a k _ W h hO hk)
 have HP2 := Lib.hid (fun W h => spot_calls p (trOf L last) b k2 _ W h hO hk2)
 have HU := Lib.hid (fun W h => tmove_calls p B L last (spotV L last a).1 (spotV L last a).2.1 (spotV L last b).1 (spotV L last b).2.1 W h hG hM hw hw2 (by omega) (by omega))
 have HT := Lib.hid h
 unfold renP
 generalize movP L last (spotV L last a).1 (spotV L last a).2.1 (spotV L last b).1 (spotV L last b).2.1 = pe at *
 generalize hpl : movM L last (spotV L last a).1 (spotV L last a).2.1 (spotV L last b).1 (spotV L last b).2.1 = pl at *
 generalize spotV L last a = R at *
 generalize spotV L last b = R2 at *
 obtain ⟨d, z, e⟩ := R
 obtain ⟨d2, z2, e2⟩ := R2
 simp only [] at *
 clear h hO hG hM hla hk hw hz hk2 hw2 hz2 hpl
 have tk1 : True := trivial
 by_cases he : e = 0
 ·
  subst he
  rw [if_neg (by simp)]
  by_cases he2 : e2 = 0
  ·
   subst he2
   rw [if_neg (by simp)]
   go_enter Tryz.func66, Tryz.ntmps66
   go_upto_region 2 with (go_at_call 93; refine (HP.out _ HT.out.at_).mono ?_; rintro e w3 ⟨rfl, hb3⟩)
   go_wp2_with (first
    | (go_at_call 93; refine (HP2.out _ (HT.out.below hb3).at_).mono ?_; rintro e w4 ⟨rfl, hb4⟩)
    | (go_at_call 115; refine (HU.out _ ((HT.out.below hb3).below hb4)).mono ?_; rintro e w6 ⟨rfl, hT6, hf6⟩))
   go_ret
   exact ⟨rfl, hT6, (Frm.ofBelow (hb3.trans (hb4.mono hb3.size))).trans hf6⟩
  ·
   rw [if_pos he2]
   have b1 : (e2 != 0) = true := bne_iff_ne.2 he2
   clear he2
   go_enter Tryz.func66, Tryz.ntmps66
   go_upto_region 2 with (go_at_call 93; refine (HP.out _ HT.out.at_).mono ?_; rintro e w3 ⟨rfl, hb3⟩)
   go_wp2_with (go_at_call 93; refine (HP2.out _ (HT.out.below hb3).at_).mono ?_; rintro e w4 ⟨rfl, hb4⟩)
   go_ret
   exact left_err HT.out (hb3.trans (hb4.mono hb3.size))
 ·
  rw [if_pos he]
  have b1 : (e != 0) = true := bne_iff_ne.2 he
  clear he
  go_enter Tryz.func66, Tryz.ntmps66
  go_wp2_with (go_at_call 93; refine (HP.out _ HT.out.at_).mono ?_; rintro e w3 ⟨rfl, hb3⟩)
  go_ret
  exact left_err HT.out hb3
theorem unlink1_calls (k : Int) (w : World) : Calls Tryz.prog 114 #[.int .i64 k] w fun r w' => r = .returned (.int .i64 (if k = 1 then 8 else 0)) ∧ Below w.heap.size w w' := by
 by_cases hk : k = 1
 ·
  subst hk
  rw [if_pos rfl]
  go_enter Tryz.func114, Tryz.ntmps114
  go_wp2
  go_ret
  exact ⟨rfl, Below.refl _ _⟩
 ·
  rw [if_neg hk]
  have hk' : (k == 1) = false := beq_eq_false_iff_ne.2 hk
  clear hk
  go_enter Tryz.func114, Tryz.ntmps114
  go_wp2
  go_ret
  exact ⟨rfl, Below.refl _ _⟩
set_option maxHeartbeats 2000000 in
set_option maxRecDepth 1000000 in
theorem cutR_calls (p B : Nat) (L : List RN) (last : Int) (s : ByteArray) (v : Value) (w : World) (h : TreeB w p B (trOf L last)) (hG : GoodL L last) (hM : GoodM L) (hla : last < 1000000) (hv : OnlyV w v 1 7) :
  Calls Tryz.prog 113 #[pT p, .string s, v] w (Left p B w (cutP L last s true)) := by
 have hO := trOK hG (by omega)
 obtain ⟨k, hk⟩ := spotV_spec hG hM s
 obtain ⟨hw, hz⟩ := spotF_wf hO hk
 have HP := Lib.hid (fun W h => spot_calls p (trOf L last) s k _ W h hO hk)
 have HL := Lib.hid (fun W h => list_calls p (trOf L last) (spotV L last s).1 W h hw (hO.small.node _))
 have HE := Lib.hid (fun A c W h hc => find_calls A c ((trOf L last).node (spotV L last s).1).ents (spotV L last s).2.1 W h hc (hO.small.node _) (node_rt hO _))
 rw [node_of hG (spotV L last s).1] at HE HL
 simp only [find_ents hG (spotV L last s).1 (spotV L last s).2.1] at HE
 have hwn := hO.wf_find (spotV L last s).1 (spotV L last s).2.1
 rw [node_of hG (spotV L last s).1] at hwn
 simp only [find_ents hG (spotV L last s).1 (spotV L last s).2.1] at hwn
 have HK := Lib.hid (fun W h => kind_calls p (trOf L last) (inR L (spotV L last s).1 (spotV L last s).2.1) W h hwn)
 rw [node_of hG (inR L (spotV L last s).1 (spotV L last s).2.1)] at HK
 simp only [] at HK HL
 have HU := Lib.hid (fun W h => tcut_calls p B L last (spotV L last s).1 (spotV L last s).2.1 W h hG hw (by omega))
 have HT := Lib.hid h
 have hin := inR_le hG (spotV L last s).1 (spotV L last s).2.1
 obtain ⟨gg, gh, rfl, h1, h2⟩ := hv
 have HO0 := Lib.hid (fun x W q1 q2 => only1_calls x 1 7 gg gh W q1 q2)
 have HV := Lib.hid (And.intro h1 h2)
 clear h1 h2
 unfold cutP
 generalize cutRE L (spotV L last s).1 (spotV L last s).2.1 = ce at *
 generalize hcs : cutS L (spotV L last s).1 (spotV L last s).2.1 = cs at *
 generalize (atR L (inR L (spotV L last s).1 (spotV L last s).2.1)).f3 = kd at *
 generalize inR L (spotV L last s).1 (spotV L last s).2.1 = n at *
 generalize entsOf L (spotV L last s).1 = es at *
 generalize spotV L last s = R at *
 obtain ⟨d, z, e⟩ := R
 simp only [] at *
 clear h hO hG hM hla hk hw hz hcs hwn
 by_cases he : e = 0
 ·
  subst he
  rw [if_neg (by simp)]
  by_cases hn : n = 0
  ·
   subst hn
   rw [if_pos rfl]
   rw [show decide ((0 : Int) < 0) = false from rfl] at HE
   clear HK HU hin
   go_enter Tryz.func113, Tryz.ntmps113
   go_wp2_with (first
    | (go_at_call 93; refine (HP.out _ HT.out.at_).mono ?_; rintro e w3 ⟨rfl, hb3⟩; have HB3 := Lib.hid hb3; have HT3 := Lib.hid (HT.out.below hb3); clear hb3)
    | (go_at_call 74; refine (HL.out _ HT3.out.at_).mono ?_; rintro e w4 ⟨v, rfl, hv, hb4⟩; obtain ⟨A4, c4, rfl, hl4, hC4⟩ := Kd.R_reads hv; have HB4 := Lib.hid (HB3.out.trans (hb4.mono HB3.out.size)); have HC4 := Lib.hid hC4; clear hv hb4 hC4)
    | (go_at_call 94; refine (HE.out _ _ _ HC4.out hl4).mono ?_; rintro e w5 ⟨rfl, hb5⟩; have HB5 := Lib.hid (HB4.out.trans (hb5.mono HB4.out.size)); have HT5 := Lib.hid (HT.out.below HB5.out); clear hb5))
   go_ret
   exact left_err HT.out HB5.out
  ·
   rw [if_neg hn]
   rw [decide_eq_true (show 0 < n by omega)] at HE
   by_cases hk1 : kd = 1
   ·
    subst hk1
    have hm : mayK true 1 = 0 := rfl
    rw [hm, if_neg (by simp)]
    have HO := Lib.hid (fun W q1 q2 => HO0.out 1 W q1 q2)
    rw [if_pos rfl] at HO
    clear HO0 hm
    clear hin hn
    go_enter Tryz.func113, Tryz.ntmps113
    go_wp2_with (first
     | (go_at_call 93; refine (HP.out _ HT.out.at_).mono ?_; rintro e w3 ⟨rfl, hb3⟩; have HB3 := Lib.hid hb3; have HT3 := Lib.hid (HT.out.below hb3); clear hb3)
     | (go_at_call 74; refine (HL.out _ HT3.out.at_).mono ?_; rintro e w4 ⟨v, rfl, hv, hb4⟩; obtain ⟨A4, c4, rfl, hl4, hC4⟩ := Kd.R_reads hv; have HB4 := Lib.hid (HB3.out.trans (hb4.mono HB3.out.size)); have HC4 := Lib.hid hC4; clear hv hb4 hC4)
     | (go_at_call 94; refine (HE.out _ _ _ HC4.out hl4).mono ?_; rintro e w5 ⟨rfl, hb5⟩; have HB5 := Lib.hid (HB4.out.trans (hb5.mono HB4.out.size)); have HT5 := Lib.hid (HT.out.below HB5.out); clear hb5)
     | (go_at_call 69; refine (HK.out _ HT5.out.at_).mono ?_; rintro e w6 ⟨rfl, hb6⟩; have HB6 := Lib.hid (HB5.out.trans (hb6.mono HB5.out.size)); have HT6 := Lib.hid (HT.out.below HB6.out); clear hb6)
     | (go_at_call 140; refine (HO.out _ ((HB6.out.block _ (blk_lt HV.out.1)).trans HV.out.1) ((HB6.out.block _ (blk_lt HV.out.2)).trans HV.out.2)).mono ?_; rintro e w7 ⟨rfl, hb7⟩; have HB7 := Lib.hid (HB6.out.trans (hb7.mono HB6.out.size)); have HT7 := Lib.hid (HT.out.below HB7.out); clear hb7)
     | (go_at_call 146; refine (HU.out _ HT7.out).mono ?_; rintro e w8 ⟨rfl, hT8, hF8⟩))
    go_ret
    exact ⟨rfl, hT8, (Frm.ofBelow HB7.out).trans hF8⟩
   ·
    have hm : mayK true kd = 7 := by unfold mayK; rw [if_pos rfl, if_neg hk1]
    rw [hm, if_pos (by simp)]
    have HO := Lib.hid (fun W q1 q2 => HO0.out kd W q1 q2)
    rw [if_neg hk1] at HO
    clear HO0 hm hk1
    clear hin hn HU
    go_enter Tryz.func113, Tryz.ntmps113
    go_wp2_with (first
     | (go_at_call 93; refine (HP.out _ HT.out.at_).mono ?_; rintro e w3 ⟨rfl, hb3⟩; have HB3 := Lib.hid hb3; have HT3 := Lib.hid (HT.out.below hb3); clear hb3)
     | (go_at_call 74; refine (HL.out _ HT3.out.at_).mono ?_; rintro e w4 ⟨v, rfl, hv, hb4⟩; obtain ⟨A4, c4, rfl, hl4, hC4⟩ := Kd.R_reads hv; have HB4 := Lib.hid (HB3.out.trans (hb4.mono HB3.out.size)); have HC4 := Lib.hid hC4; clear hv hb4 hC4)
     | (go_at_call 94; refine (HE.out _ _ _ HC4.out hl4).mono ?_; rintro e w5 ⟨rfl, hb5⟩; have HB5 := Lib.hid (HB4.out.trans (hb5.mono HB4.out.size)); have HT5 := Lib.hid (HT.out.below HB5.out); clear hb5)
     | (go_at_call 69; refine (HK.out _ HT5.out.at_).mono ?_; rintro e w6 ⟨rfl, hb6⟩; have HB6 := Lib.hid (HB5.out.trans (hb6.mono HB5.out.size)); have HT6 := Lib.hid (HT.out.below HB6.out); clear hb6)
     | (go_at_call 140; refine (HO.out _ ((HB6.out.block _ (blk_lt HV.out.1)).trans HV.out.1) ((HB6.out.block _ (blk_lt HV.out.2)).trans HV.out.2)).mono ?_; rintro e w7 ⟨rfl, hb7⟩; have HB7 := Lib.hid (HB6.out.trans (hb7.mono HB6.out.size)); have HT7 := Lib.hid (HT.out.below HB7.out); clear hb7))
    go_ret
    exact left_err HT.out HB7.out
 ·
  rw [if_pos he]
  have b1 : (e != 0) = true := bne_iff_ne.2 he
  clear he
  go_enter Tryz.func113, Tryz.ntmps113
  go_wp2_with (go_at_call 93; refine (HP.out _ HT.out.at_).mono ?_; rintro e w3 ⟨rfl, hb3⟩; have HB3 := Lib.hid hb3; have HT3 := Lib.hid (HT.out.below hb3); clear hb3)
  go_ret
  exact left_err HT.out HB3.out
set_option maxHeartbeats 2000000 in
set_option maxRecDepth 1000000 in
theorem cutU_calls (p B : Nat) (L : List RN) (last : Int) (s : ByteArray) (w : World) (h : TreeB w p B (trOf L last)) (hG : GoodL L last) (hM : GoodM L) (hla : last < 1000000) :
  Calls Tryz.prog 113 #[pT p, .string s, .func (.func 114) #[] #[]] w (Left p B w (cutP L last s false)) := by
 have hO := trOK hG (by omega)
 obtain ⟨k, hk⟩ := spotV_spec hG hM s
 obtain ⟨hw, hz⟩ := spotF_wf hO hk
 have HP := Lib.hid (fun W h => spot_calls p (trOf L last) s k _ W h hO hk)
 have HL := Lib.hid (fun W h => list_calls p (trOf L last) (spotV L last s).1 W h hw (hO.small.node _))
 have HE := Lib.hid (fun A c W h hc => find_calls A c ((trOf L last).node (spotV L last s).1).ents (spotV L last s).2.1 W h hc (hO.small.node _) (node_rt hO _))
 rw [node_of hG (spotV L last s).1] at HE HL
 simp only [find_ents hG (spotV L last s).1 (spotV L last s).2.1] at HE
 have hwn := hO.wf_find (spotV L last s).1 (spotV L last s).2.1
 rw [node_of hG (spotV L last s).1] at hwn
 simp only [find_ents hG (spotV L last s).1 (spotV L last s).2.1] at hwn
 have HK := Lib.hid (fun W h => kind_calls p (trOf L last) (inR L (spotV L last s).1 (spotV L last s).2.1) W h hwn)
 rw [node_of hG (inR L (spotV L last s).1 (spotV L last s).2.1)] at HK
 simp only [] at HK HL
 have HU := Lib.hid (fun W h => tcut_calls p B L last (spotV L last s).1 (spotV L last s).2.1 W h hG hw (by omega))
 have HT := Lib.hid h
 have hin := inR_le hG (spotV L last s).1 (spotV L last s).2.1
 unfold cutP
 generalize cutRE L (spotV L last s).1 (spotV L last s).2.1 = ce at *
 generalize hcs : cutS L (spotV L last s).1 (spotV L last s).2.1 = cs at *
 generalize (atR L (inR L (spotV L last s).1 (spotV L last s).2.1)).f3 = kd at *
 generalize inR L (spotV L last s).1 (spotV L last s).2.1 = n at *
 generalize entsOf L (spotV L last s).1 = es at *
 generalize spotV L last s = R at *
 obtain ⟨d, z, e⟩ := R
 simp only [] at *
 clear h hO hG hM hla hk hw hz hcs hwn
 by_cases he : e = 0
 ·
  subst he
  rw [if_neg (by simp)]
  by_cases hn : n = 0
  ·
   subst hn
   rw [if_pos rfl]
   rw [show decide ((0 : Int) < 0) = false from rfl] at HE
   clear HK HU hin
   go_enter Tryz.func113, Tryz.ntmps113
   go_wp2_with (first
    | (go_at_call 93; refine (HP.out _ HT.out.at_).mono ?_; rintro e w3 ⟨rfl, hb3⟩; have HB3 := Lib.hid hb3; have HT3 := Lib.hid (HT.out.below hb3); clear hb3)
    | (go_at_call 74; refine (HL.out _ HT3.out.at_).mono ?_; rintro e w4 ⟨v, rfl, hv, hb4⟩; obtain ⟨A4, c4, rfl, hl4, hC4⟩ := Kd.R_reads hv; have HB4 := Lib.hid (HB3.out.trans (hb4.mono HB3.out.size)); have HC4 := Lib.hid hC4; clear hv hb4 hC4)
    | (go_at_call 94; refine (HE.out _ _ _ HC4.out hl4).mono ?_; rintro e w5 ⟨rfl, hb5⟩; have HB5 := Lib.hid (HB4.out.trans (hb5.mono HB4.out.size)); have HT5 := Lib.hid (HT.out.below HB5.out); clear hb5))
   go_ret
   exact left_err HT.out HB5.out
  ·
   rw [if_neg hn]
   rw [decide_eq_true (show 0 < n by omega)] at HE
   by_cases hk1 : kd = 1
   ·
    subst hk1
    have hm : mayK false 1 = 8 := rfl
    rw [hm, if_pos (by simp)]
    have HO := Lib.hid (fun W => unlink1_calls 1 W)
    rw [if_pos rfl] at HO
    clear hm
    clear hin hn HU
    go_enter Tryz.func113, Tryz.ntmps113
    go_wp2_with (first
     | (go_at_call 93; refine (HP.out _ HT.out.at_).mono ?_; rintro e w3 ⟨rfl, hb3⟩; have HB3 := Lib.hid hb3; have HT3 := Lib.hid (HT.out.below hb3); clear hb3)
     | (go_at_call 74; refine (HL.out _ HT3.out.at_).mono ?_; rintro e w4 ⟨v, rfl, hv, hb4⟩; obtain ⟨A4, c4, rfl, hl4, hC4⟩ := Kd.R_reads hv; have HB4 := Lib.hid (HB3.out.trans (hb4.mono HB3.out.size)); have HC4 := Lib.hid hC4; clear hv hb4 hC4)
     | (go_at_call 94; refine (HE.out _ _ _ HC4.out hl4).mono ?_; rintro e w5 ⟨rfl, hb5⟩; have HB5 := Lib.hid (HB4.out.trans (hb5.mono HB4.out.size)); have HT5 := Lib.hid (HT.out.below HB5.out); clear hb5)
     | (go_at_call 69; refine (HK.out _ HT5.out.at_).mono ?_; rintro e w6 ⟨rfl, hb6⟩; have HB6 := Lib.hid (HB5.out.trans (hb6.mono HB5.out.size)); have HT6 := Lib.hid (HT.out.below HB6.out); clear hb6)
     | (go_at_call 114; refine (HO.out _).mono ?_; rintro e w7 ⟨rfl, hb7⟩; have HB7 := Lib.hid (HB6.out.trans (hb7.mono HB6.out.size)); have HT7 := Lib.hid (HT.out.below HB7.out); clear hb7))
    go_ret
    exact left_err HT.out HB7.out
   ·
    have hm : mayK false kd = 0 := by unfold mayK; rw [if_neg (by simp), if_neg hk1]
    rw [hm, if_neg (by simp)]
    have HO := Lib.hid (fun W => unlink1_calls kd W)
    rw [if_neg hk1] at HO
    clear hm hk1
    clear hin hn
    go_enter Tryz.func113, Tryz.ntmps113
    go_wp2_with (first
     | (go_at_call 93; refine (HP.out _ HT.out.at_).mono ?_; rintro e w3 ⟨rfl, hb3⟩; have HB3 := Lib.hid hb3; have HT3 := Lib.hid (HT.out.below hb3); clear hb3)
     | (go_at_call 74; refine (HL.out _ HT3.out.at_).mono ?_; rintro e w4 ⟨v, rfl, hv, hb4⟩; obtain ⟨A4, c4, rfl, hl4, hC4⟩ := Kd.R_reads hv; have HB4 := Lib.hid (HB3.out.trans (hb4.mono HB3.out.size)); have HC4 := Lib.hid hC4; clear hv hb4 hC4)
     | (go_at_call 94; refine (HE.out _ _ _ HC4.out hl4).mono ?_; rintro e w5 ⟨rfl, hb5⟩; have HB5 := Lib.hid (HB4.out.trans (hb5.mono HB4.out.size)); have HT5 := Lib.hid (HT.out.below HB5.out); clear hb5)
     | (go_at_call 69; refine (HK.out _ HT5.out.at_).mono ?_; rintro e w6 ⟨rfl, hb6⟩; have HB6 := Lib.hid (HB5.out.trans (hb6.mono HB5.out.size)); have HT6 := Lib.hid (HT.out.below HB6.out); clear hb6)
     | (go_at_call 114; refine (HO.out _).mono ?_; rintro e w7 ⟨rfl, hb7⟩; have HB7 := Lib.hid (HB6.out.trans (hb7.mono HB6.out.size)); have HT7 := Lib.hid (HT.out.below HB7.out); clear hb7)
     | (go_at_call 146; refine (HU.out _ HT7.out).mono ?_; rintro e w8 ⟨rfl, hT8, hF8⟩))
    go_ret
    exact ⟨rfl, hT8, (Frm.ofBelow HB7.out).trans hF8⟩
 ·
  rw [if_pos he]
  have b1 : (e != 0) = true := bne_iff_ne.2 he
  clear he
  go_enter Tryz.func113, Tryz.ntmps113
  go_wp2_with (go_at_call 93; refine (HP.out _ HT.out.at_).mono ?_; rintro e w3 ⟨rfl, hb3⟩; have HB3 := Lib.hid hb3; have HT3 := Lib.hid (HT.out.below hb3); clear hb3)
  go_ret
  exact left_err HT.out HB3.out
set_option maxRecDepth 1000000 in
theorem rmdir9_calls (p B : Nat) (L : List RN) (last : Int) (s : ByteArray) (w : World) (h : TreeB w p B (trOf L last)) (hG : GoodL L last) (hM : GoodM L) (hla : last < 1000000) :
  Calls Tryz.prog 63 #[pT p, .string s] w (Left p B w (cutP L last s true)) := by
 have HP := Lib.hid (fun v W h hv => cutR_calls p B L last s v W h hG hM hla hv)
 have HO := Lib.hid (only_calls 1 7 w)
 have HT := Lib.hid h
 generalize cutP L last s true = o at *
 clear h hG hM hla
 go_enter Tryz.func63, Tryz.ntmps63
 go_wp2_with (first | (go_at_call 96; refine HO.out.mono ?_; rintro e w2 ⟨v, rfl, hv, hb2⟩; have HV := Lib.hid hv; clear hv) | (go_at_call 113; refine (HP.out _ _ (HT.out.below hb2) HV.out).mono ?_; rintro e w3 ⟨rfl, hT, hF⟩))
 go_ret
 exact ⟨rfl, hT, (Frm.ofBelow hb2).trans hF⟩
set_option maxRecDepth 1000000 in
theorem unlink9_calls (p B : Nat) (L : List RN) (last : Int) (s : ByteArray) (w : World) (h : TreeB w p B (trOf L last)) (hG : GoodL L last) (hM : GoodM L) (hla : last < 1000000) :
  Calls Tryz.prog 65 #[pT p, .string s] w (Left p B w (cutP L last s false)) := by
 have HP := Lib.hid (cutU_calls p B L last s w h hG hM hla)
 generalize cutP L last s false = o at *
 clear h hG hM hla
 go_enter Tryz.func65, Tryz.ntmps65
 go_wp2_with (go_at_call 113; refine HP.out.mono ?_; rintro e w3 ⟨rfl, hT, hF⟩)
 go_ret
 exact ⟨rfl, hT, hF⟩
end Go.Proofs.YtnpeeiikdcankaaGreat.Tw

namespace Go.Proofs.YtnpeeiikdcankaaGreat.Tw
open Go Go.RowKit Go.Shelf Go.Proofs Go.Proofs.YtnpeeiikdcankaaGreat Go.Proofs.YtnpeeiikdcankaaGreatW.PrintWords Go.Proofs.YtnpeeiikdcankaaGreat.Ext Go.Proofs.YtnpeeiikdcankaaGreat.X Go.Proofs.YtnpeeiikdcankaaGreat.Pu
theorem rmove_calls (L : List RN) (last : Int) (v : Value) (fr : Int) (s : ByteArray) (td : Int) (z : ByteArray) (w : World) (h : RAt w v L last) (hG : GoodL L last) (hM : GoodM L) :
  Calls Tryz.prog 109 #[v, .int .i64 fr, .string s, .int .i64 td, .string z] w fun e w' => ∃ v', e = .returned (.tuple #[v', .int .i64 (movP L last fr s td z)]) ∧ RAt w' v' (movM L last fr s td z) last ∧ Below w.heap.size w w' := by
 by_cases he : preE L fr s td z = 0
 ·
  by_cases hf : (atR L (inR L fr s)).f3 = 1
  · exact rmove_dir L last v fr s td z w h hG hM he hf
  · exact rmove_file L last v fr s td z w h hG hM he hf
 · exact rmove_pre L last v fr s td z w h hG hM he
theorem walkF_up {T : Tr} {lst : Bool} : ∀ (k : Nat) (a h : Int) (l : List ByteArray) (R : Int × Int), walkF T lst k a h l = some R → walkF T lst (k + 1) a h l = some R
 | 0, _, _, _, _, h => by simp [walkF] at h
 | k + 1, a, h, [], R, e => by simpa [walkF] using e
 | k + 1, a, h, s :: l, R, e => by
  unfold walkF at e ⊢
  split
  · rename_i c; rw [if_pos c] at e; exact e
  ·
   rename_i c1
   rw [if_neg c1] at e
   split
   · rename_i c; rw [if_pos c] at e; exact walkF_up k _ _ _ _ e
   ·
    rename_i c2
    rw [if_neg c2] at e
    split
    · rename_i c; rw [if_pos c] at e; exact e
    ·
     rename_i c3
     rw [if_neg c3] at e
     split
     · rename_i c; rw [if_pos c] at e; exact walkF_up k _ _ _ _ e
     ·
      rename_i c4
      rw [if_neg c4] at e
      split
      · rename_i c; rw [if_pos c] at e; exact e
      ·
       rename_i c5
       rw [if_neg c5] at e
       exact walkF_up k _ _ _ _ e
theorem walkF_le {T : Tr} {lst : Bool} {k k' : Nat} (h : k ≤ k') {a b : Int} {l : List ByteArray} {R : Int × Int} (e : walkF T lst k a b l = some R) : walkF T lst k' a b l = some R := by
 induction h with
 | refl => exact e
 | step _ ih => exact walkF_up _ _ _ _ _ ih
theorem walkF_det {T : Tr} {lst : Bool} {k k' : Nat} {a b : Int} {l : List ByteArray} {R R' : Int × Int} (e : walkF T lst k a b l = some R) (e' : walkF T lst k' a b l = some R') : R = R' := by
 have h1 := walkF_le (Nat.le_max_left k k') e
 have h2 := walkF_le (Nat.le_max_right k k') e'
 rw [h1] at h2
 exact Option.some.inj h2
theorem findF_det {T : Tr} {lst : Bool} {k k' : Nat} {s : ByteArray} {R R' : Int × Int} (e : findF T lst k s = some R) (e' : findF T lst k' s = some R') : R = R' := by
 unfold findF at e e'
 split at e
 ·
  rename_i c
  rw [if_pos c] at e'
  obtain ⟨r, hr, e⟩ := Option.bind_eq_some_iff.1 e
  obtain ⟨r', hr', e'⟩ := Option.bind_eq_some_iff.1 e'
  obtain rfl := walkF_det hr hr'
  rw [e] at e'
  exact Option.some.inj e'
 ·
  rename_i c
  rw [if_neg c] at e'
  rw [e] at e'
  exact Option.some.inj e'
theorem spotF_det {T : Tr} {k k' : Nat} {s : ByteArray} {R R' : R3} (e : spotF T k s = some R) (e' : spotF T k' s = some R') : R = R' := by
 unfold spotF at e e'
 split at e
 ·
  rename_i c
  rw [if_pos c] at e'
  cases hl : (partsB s).getLast? with
  | none => rw [hl] at e e'; simp only [] at e e'; rw [e] at e'; exact Option.some.inj e'
  | some z =>
   rw [hl] at e e'
   simp only [] at e e'
   split at e
   · rename_i q; rw [if_pos q] at e'; rw [e] at e'; exact Option.some.inj e'
   ·
    rename_i q
    rw [if_neg q] at e'
    obtain ⟨r, hr, e⟩ := Option.bind_eq_some_iff.1 e
    obtain ⟨r', hr', e'⟩ := Option.bind_eq_some_iff.1 e'
    obtain rfl := walkF_det hr hr'
    rw [e] at e'
    exact Option.some.inj e'
 ·
  rename_i c
  rw [if_neg c] at e'
  rw [e] at e'
  exact Option.some.inj e'
theorem spot9 {L : List RN} {last : Int} (hG : GoodL L last) (hM : GoodM L) (s : ByteArray) : ∃ k, spotRF L last k s = some (spotV L last s) := by
 obtain ⟨k, k2, R, h1, h2⟩ := spot_both hG hM s
 obtain ⟨k', h'⟩ := spotV_spec hG hM s
 rw [spotF_det h' h1]
 exact ⟨k2, h2⟩
theorem find9 {L : List RN} {last : Int} (hG : GoodL L last) (hM : GoodM L) (lst : Bool) (s : ByteArray) : Ev (fun k => linhayref08_Find.f k L last s lst) (findV L last lst s) := by
 obtain ⟨k, R, h1, h2⟩ := find_both hG hM lst s
 obtain ⟨k', h'⟩ := findV_spec hG hM lst s
 rw [findF_det h' h1]
 exact h2
def Done (w : World) (o : Op3) (e : Ending) (w' : World) : Prop := ∃ v', e = .returned (.tuple #[v', .int .i64 o.2.2]) ∧ RAt w' v' o.1 o.2.1 ∧ Below w.heap.size w w'
set_option maxHeartbeats 4000000 in
set_option maxRecDepth 1000000 in
theorem rput9_calls (L : List RN) (last : Int) (v : Value) (s : ByteArray) (kind : Int) (data : ByteArray) (w : World) (h : RAt w v L last) (hG : GoodL L last) (hM : GoodM L) (hla : last < 1000000) :
  Calls Tryz.prog 58 #[v, .string s, .int .i64 kind, .string data] w (Done w (mkP L last s kind data)) := by
 obtain ⟨A, c, rfl, hle, hC⟩ := h
 have hl := hG.len
 have hu30 := Tryz.underlying30
 have hu106 := Tryz.underlying106
 obtain ⟨q1, q2, q3⟩ := two_blocks w (.cells #[.slice A L.length c, .int .i64 last] 30) (.cells #[.slice none 0 0, .int .i64 0] 30)
 have HK := Lib.hid (And.intro q1 (And.intro q2 q3))
 have HC := Lib.hid hC
 have HLE := Lib.hid hle
 obtain ⟨k2, hk2⟩ := spot9 hG hM s
 have HSP := Lib.hid (fun v W h => rspot_calls L last v s k2 _ W h (by omega) hk2)
 have HPU := Lib.hid (fun v W h => rput_calls L last (spotV L last s).1 v (spotV L last s).2.1 kind data W h hG hla)
 have HO : Hid (mkP L last s kind data = if (spotV L last s).2.2 ≠ 0 then (L, last, (spotV L last s).2.2) else (putL L last (spotV L last s).1 (spotV L last s).2.1 kind data, putN L last (spotV L last s).1 (spotV L last s).2.1 kind data, putRE L (spotV L last s).1 (spotV L last s).2.1 kind data)) := Lib.hid rfl
 rw [HO.out]
 generalize putA L last (spotV L last s).1 (spotV L last s).2.1 kind data = pa at *
 generalize putRE L (spotV L last s).1 (spotV L last s).2.1 kind data = pe at *
 generalize putL L last (spotV L last s).1 (spotV L last s).2.1 kind data = pl at *
 generalize putN L last (spotV L last s).1 (spotV L last s).2.1 kind data = pn at *
 generalize spotV L last s = R at *
 obtain ⟨d, z, e⟩ := R
 simp only [] at HSP HPU ⊢
 clear HO hk2 hla
 clear hC q1 q2 q3 hG hM hl hle
 by_cases he : e = 0
 ·
  subst he
  rw [if_neg (by simp)]
  go_enter Tryz.func58, Tryz.ntmps58
  go_upto_region 1 with (fail)
  generalize (w.alloc (.cells #[.slice A L.length c, .int .i64 last] 30)).alloc (.cells #[.slice none 0 0, .int .i64 0] 30) = w2 at HK ⊢
  have HR1 := Lib.hid HK.out.1
  have HR2 := Lib.hid HK.out.2.1
  have HB2 := Lib.hid HK.out.2.2
  clear HK
  generalize hb0 : w.heap.size = b at HR1 HR2 ⊢
  have HW0 := Lib.hid hb0
  clear hb0
  have HX := Lib.hid (fun (W : World) (hb : Below w2.heap.size w2 W) => show (W.cell? ⟨b, 0, none⟩ = some (.slice A L.length c) ∧ W.cell? ⟨b, 1, none⟩ = some (.int .i64 last)) ∧ (W.cell? ⟨b + 1, 0, none⟩ = some (.slice none 0 0) ∧ W.cell? ⟨b + 1, 1, none⟩ = some (.int .i64 0)) ∧ (W.frozen? ⟨b + 1, 0, none⟩ = false ∧ W.frozen? ⟨b + 1, 1, none⟩ = false) by
   have e1 := (hb.block _ (blk_lt HR1.out)).trans HR1.out
   have e2 := (hb.block _ (blk_lt HR2.out)).trans HR2.out
   exact ⟨⟨by rw [blk_cell e1]; rfl, by rw [blk_cell e1]; rfl⟩, ⟨by rw [blk_cell e2]; rfl, by rw [blk_cell e2]; rfl⟩, blk_frozen e2 0, blk_frozen e2 1⟩)
  have HCT := Lib.hid (fun (W : World) (hb : Below w2.heap.size w2 W) => Kd.C_below HC.out (HB2.out.trans (hb.mono HB2.out.size)))
  have HRA := Lib.hid (fun (W : World) (hb : Below w2.heap.size w2 W) => show RAt W (.agg #[.slice A L.length c, .int .i64 last]) L last from ⟨A, c, rfl, HLE.out, HCT.out W hb⟩)
  have HBi := Lib.hid (Below.refl w2.heap.size w2)
  obtain ⟨⟨x0, x1⟩, ⟨r0, r1⟩, f0, f1⟩ := HX.out _ HBi.out
  go_upto_region 2 with (go_at_call 107; refine (HSP.out _ _ (HRA.out _ HBi.out)).mono ?_; rintro e w3 ⟨rfl, hb⟩; have HB3 := Lib.hid (HBi.out.trans (hb.mono HBi.out.size)); clear hb; clear x0 x1 r0 r1 f0 f1; obtain ⟨⟨x0, x1⟩, ⟨r0, r1⟩, f0, f1⟩ := HX.out _ HB3.out)
  go_upto_region 5 with (go_at_call 57; refine (HPU.out _ _ (HRA.out _ HB3.out)).mono ?_; rintro e w4 ⟨v7, rfl, hR7, hb⟩; have HQ := Lib.hid hR7; obtain ⟨A7, c7, rfl, h7, C7⟩ := hR7; have HB4 := Lib.hid (HB3.out.trans (hb.mono HB3.out.size)); clear hb h7 C7; clear x0 x1 r0 r1 f0 f1; obtain ⟨⟨x0, x1⟩, ⟨r0, r1⟩, f0, f1⟩ := HX.out _ HB4.out)
  have HB5 := Lib.hid (HB4.out.alloc HB4.out.size (.cells #[.slice A7 pl.length c7, .int .i64 pn] 30))
  have H5 := Lib.hid (heap_alloc_new w4 (.cells #[.slice A7 pl.length c7, .int .i64 pn] 30))
  have HQ5 := Lib.hid (HQ.out.below (below_alloc (Below.refl _ _) (.cells #[.slice A7 pl.length c7, .int .i64 pn] 30)))
  generalize w4.alloc (.cells #[.slice A7 pl.length c7, .int .i64 pn] 30) = w5 at HB5 H5 HQ5 ⊢
  generalize w4.heap.size = g5 at H5 ⊢
  clear x0 x1 r0 r1 f0 f1 HQ HB4
  obtain ⟨⟨x0, x1⟩, ⟨r0, r1⟩, f0, f1⟩ := HX.out _ HB5.out
  obtain ⟨⟨m0, m1⟩, -, -⟩ := box_cells H5.out
  go_wp2
  have e3 := (HB5.out.block _ (blk_lt HR2.out)).trans HR2.out
  have hT := res_cells (.slice A7 pl.length c7) (.int .i64 pn) e3
  have hR9 := RAt.but HQ5.out (but_two (u0 := .slice A7 pl.length c7) (u1 := .int .i64 pn) e3 (by simp) (by simp))
  have hB9 : Below w.heap.size w ((w5.setCell ⟨b + 1, 0, none⟩ (.slice A7 pl.length c7)).setCell ⟨b + 1, 1, none⟩ (.int .i64 pn)) := ((HB2.out.trans (HB5.out.mono HB2.out.size)).setCell (p := ⟨b + 1, 0, none⟩) (by rw [HW0.out]; exact Nat.le_succ b) (.slice A7 pl.length c7)).setCell (p := ⟨b + 1, 1, none⟩) (by rw [HW0.out]; exact Nat.le_succ b) (.int .i64 pn)
  generalize (w5.setCell ⟨b + 1, 0, none⟩ (.slice A7 pl.length c7)).setCell ⟨b + 1, 1, none⟩ (.int .i64 pn) = w9' at hT hB9 hR9 ⊢
  obtain ⟨t0, t1⟩ := hT
  refine bodyPost_ret (v := .tuple #[.agg #[.slice A7 pl.length c7, .int .i64 pn], .int .i64 pe]) (by simp [results, Tryz.results58, go_sem, t0, t1, hu30]) rfl ⟨.agg #[.slice A7 pl.length c7, .int .i64 pn], rfl, hR9, hB9⟩
 ·
  rw [if_pos he]
  have b1 : (e != 0) = true := bne_iff_ne.2 he
  clear he HPU
  go_enter Tryz.func58, Tryz.ntmps58
  go_upto_region 1 with (fail)
  generalize (w.alloc (.cells #[.slice A L.length c, .int .i64 last] 30)).alloc (.cells #[.slice none 0 0, .int .i64 0] 30) = w2 at HK ⊢
  have HR1 := Lib.hid HK.out.1
  have HR2 := Lib.hid HK.out.2.1
  have HB2 := Lib.hid HK.out.2.2
  clear HK
  generalize hb0 : w.heap.size = b at HR1 HR2 ⊢
  have HW0 := Lib.hid hb0
  clear hb0
  have HX := Lib.hid (fun (W : World) (hb : Below w2.heap.size w2 W) => show (W.cell? ⟨b, 0, none⟩ = some (.slice A L.length c) ∧ W.cell? ⟨b, 1, none⟩ = some (.int .i64 last)) ∧ (W.cell? ⟨b + 1, 0, none⟩ = some (.slice none 0 0) ∧ W.cell? ⟨b + 1, 1, none⟩ = some (.int .i64 0)) ∧ (W.frozen? ⟨b + 1, 0, none⟩ = false ∧ W.frozen? ⟨b + 1, 1, none⟩ = false) by
   have e1 := (hb.block _ (blk_lt HR1.out)).trans HR1.out
   have e2 := (hb.block _ (blk_lt HR2.out)).trans HR2.out
   exact ⟨⟨by rw [blk_cell e1]; rfl, by rw [blk_cell e1]; rfl⟩, ⟨by rw [blk_cell e2]; rfl, by rw [blk_cell e2]; rfl⟩, blk_frozen e2 0, blk_frozen e2 1⟩)
  have HCT := Lib.hid (fun (W : World) (hb : Below w2.heap.size w2 W) => Kd.C_below HC.out (HB2.out.trans (hb.mono HB2.out.size)))
  have HRA := Lib.hid (fun (W : World) (hb : Below w2.heap.size w2 W) => show RAt W (.agg #[.slice A L.length c, .int .i64 last]) L last from ⟨A, c, rfl, HLE.out, HCT.out W hb⟩)
  have HBi := Lib.hid (Below.refl w2.heap.size w2)
  obtain ⟨⟨x0, x1⟩, ⟨r0, r1⟩, f0, f1⟩ := HX.out _ HBi.out
  go_wp2_with (go_at_call 107; refine (HSP.out _ _ (HRA.out _ HBi.out)).mono ?_; rintro e w3 ⟨rfl, hb⟩; have HB3 := Lib.hid (HBi.out.trans (hb.mono HBi.out.size)); clear hb; clear x0 x1 r0 r1 f0 f1; obtain ⟨⟨x0, x1⟩, ⟨r0, r1⟩, f0, f1⟩ := HX.out _ HB3.out)
  have e3 := (HB3.out.block _ (blk_lt HR2.out)).trans HR2.out
  have hT := res_cells (.slice A L.length c) (.int .i64 last) e3
  have hR9 := RAt.but (HRA.out _ HB3.out) (but_two (u0 := .slice A L.length c) (u1 := .int .i64 last) e3 (by simp) (by simp))
  have hB9 : Below w.heap.size w ((w3.setCell ⟨b + 1, 0, none⟩ (.slice A L.length c)).setCell ⟨b + 1, 1, none⟩ (.int .i64 last)) := ((HB2.out.trans (HB3.out.mono HB2.out.size)).setCell (p := ⟨b + 1, 0, none⟩) (by rw [HW0.out]; exact Nat.le_succ b) (.slice A L.length c)).setCell (p := ⟨b + 1, 1, none⟩) (by rw [HW0.out]; exact Nat.le_succ b) (.int .i64 last)
  generalize (w3.setCell ⟨b + 1, 0, none⟩ (.slice A L.length c)).setCell ⟨b + 1, 1, none⟩ (.int .i64 last) = w9' at hT hB9 hR9 ⊢
  obtain ⟨t0, t1⟩ := hT
  refine bodyPost_ret (v := .tuple #[.agg #[.slice A L.length c, .int .i64 last], .int .i64 e]) (by simp [results, Tryz.results58, go_sem, t0, t1, hu30]) rfl ⟨.agg #[.slice A L.length c, .int .i64 last], rfl, hR9, hB9⟩
set_option maxHeartbeats 4000000 in
set_option maxRecDepth 1000000 in
theorem rren9_calls (L : List RN) (last : Int) (v : Value) (a z : ByteArray) (w : World) (h : RAt w v L last) (hG : GoodL L last) (hM : GoodM L) :
  Calls Tryz.prog 60 #[v, .string a, .string z] w (Done w (renP L last a z)) := by
 obtain ⟨A, c, rfl, hle, hC⟩ := h
 have hl := hG.len
 have hu30 := Tryz.underlying30
 have hu106 := Tryz.underlying106
 obtain ⟨q1, q2, q3⟩ := two_blocks w (.cells #[.slice A L.length c, .int .i64 last] 30) (.cells #[.slice none 0 0, .int .i64 0] 30)
 have HK := Lib.hid (And.intro q1 (And.intro q2 q3))
 have HC := Lib.hid hC
 have HLE := Lib.hid hle
 obtain ⟨k2, hk2⟩ := spot9 hG hM a
 obtain ⟨k3, hk3⟩ := spot9 hG hM z
 have HSP := Lib.hid (fun v W h => rspot_calls L last v a k2 _ W h (by omega) hk2)
 have HSQ := Lib.hid (fun v W h => rspot_calls L last v z k3 _ W h (by omega) hk3)
 have HMO := Lib.hid (fun v W h => rmove_calls L last v (spotV L last a).1 (spotV L last a).2.1 (spotV L last z).1 (spotV L last z).2.1 W h hG hM)
 have HO : Hid (renP L last a z = if (spotV L last a).2.2 ≠ 0 then (L, last, (spotV L last a).2.2) else if (spotV L last z).2.2 ≠ 0 then (L, last, (spotV L last z).2.2) else (movM L last (spotV L last a).1 (spotV L last a).2.1 (spotV L last z).1 (spotV L last z).2.1, last, movP L last (spotV L last a).1 (spotV L last a).2.1 (spotV L last z).1 (spotV L last z).2.1)) := Lib.hid rfl
 rw [HO.out]
 generalize movP L last (spotV L last a).1 (spotV L last a).2.1 (spotV L last z).1 (spotV L last z).2.1 = pe at *
 generalize movM L last (spotV L last a).1 (spotV L last a).2.1 (spotV L last z).1 (spotV L last z).2.1 = pl at *
 generalize spotV L last a = R at *
 generalize spotV L last z = R2 at *
 obtain ⟨d, y, e⟩ := R
 obtain ⟨d2, y2, e2⟩ := R2
 simp only [] at HSP HSQ HMO ⊢
 clear HO hk2 hk3
 clear hC q1 q2 q3 hG hM hl hle
 by_cases he : e = 0
 ·
  subst he
  rw [if_neg (by simp)]
  by_cases he2 : e2 = 0
  ·
   subst he2
   rw [if_neg (by simp)]
   go_enter Tryz.func60, Tryz.ntmps60
   go_upto_region 1 with (fail)
   generalize (w.alloc (.cells #[.slice A L.length c, .int .i64 last] 30)).alloc (.cells #[.slice none 0 0, .int .i64 0] 30) = w2 at HK ⊢
   have HR1 := Lib.hid HK.out.1
   have HR2 := Lib.hid HK.out.2.1
   have HB2 := Lib.hid HK.out.2.2
   clear HK
   generalize hb0 : w.heap.size = b at HR1 HR2 ⊢
   have HW0 := Lib.hid hb0
   clear hb0
   have HX := Lib.hid (fun (W : World) (hb : Below w2.heap.size w2 W) => show (W.cell? ⟨b, 0, none⟩ = some (.slice A L.length c) ∧ W.cell? ⟨b, 1, none⟩ = some (.int .i64 last)) ∧ (W.cell? ⟨b + 1, 0, none⟩ = some (.slice none 0 0) ∧ W.cell? ⟨b + 1, 1, none⟩ = some (.int .i64 0)) ∧ (W.frozen? ⟨b + 1, 0, none⟩ = false ∧ W.frozen? ⟨b + 1, 1, none⟩ = false) by
    have e1 := (hb.block _ (blk_lt HR1.out)).trans HR1.out
    have e2 := (hb.block _ (blk_lt HR2.out)).trans HR2.out
    exact ⟨⟨by rw [blk_cell e1]; rfl, by rw [blk_cell e1]; rfl⟩, ⟨by rw [blk_cell e2]; rfl, by rw [blk_cell e2]; rfl⟩, blk_frozen e2 0, blk_frozen e2 1⟩)
   have HCT := Lib.hid (fun (W : World) (hb : Below w2.heap.size w2 W) => Kd.C_below HC.out (HB2.out.trans (hb.mono HB2.out.size)))
   have HRA := Lib.hid (fun (W : World) (hb : Below w2.heap.size w2 W) => show RAt W (.agg #[.slice A L.length c, .int .i64 last]) L last from ⟨A, c, rfl, HLE.out, HCT.out W hb⟩)
   have HBi := Lib.hid (Below.refl w2.heap.size w2)
   obtain ⟨⟨x0, x1⟩, ⟨r0, r1⟩, f0, f1⟩ := HX.out _ HBi.out
   go_upto_region 2 with (go_at_call 107; refine (HSP.out _ _ (HRA.out _ HBi.out)).mono ?_; rintro e w3 ⟨rfl, hb⟩; have HB3 := Lib.hid (HBi.out.trans (hb.mono HBi.out.size)); clear hb; clear x0 x1 r0 r1 f0 f1; obtain ⟨⟨x0, x1⟩, ⟨r0, r1⟩, f0, f1⟩ := HX.out _ HB3.out)
   go_upto_region 5 with (go_at_call 107; refine (HSQ.out _ _ (HRA.out _ HB3.out)).mono ?_; rintro e w4 ⟨rfl, hb⟩; have HB4 := Lib.hid (HB3.out.trans (hb.mono HB3.out.size)); clear hb; clear x0 x1 r0 r1 f0 f1; obtain ⟨⟨x0, x1⟩, ⟨r0, r1⟩, f0, f1⟩ := HX.out _ HB4.out)
   go_wp2_with (go_at_call 109; refine (HMO.out _ _ (HRA.out _ HB4.out)).mono ?_; rintro e w5 ⟨v7, rfl, hR7, hb⟩; have HQ := Lib.hid hR7; obtain ⟨A7, c7, rfl, h7, C7⟩ := hR7; have HB5 := Lib.hid (HB4.out.trans (hb.mono HB4.out.size)); clear hb h7 C7; clear x0 x1 r0 r1 f0 f1; obtain ⟨⟨x0, x1⟩, ⟨r0, r1⟩, f0, f1⟩ := HX.out _ HB5.out)
   have e3 := (HB5.out.block _ (blk_lt HR2.out)).trans HR2.out
   have hT := res_cells (.slice A7 pl.length c7) (.int .i64 last) e3
   have hR9 := RAt.but HQ.out (but_two (u0 := .slice A7 pl.length c7) (u1 := .int .i64 last) e3 (by simp) (by simp))
   have hB9 : Below w.heap.size w ((w5.setCell ⟨b + 1, 0, none⟩ (.slice A7 pl.length c7)).setCell ⟨b + 1, 1, none⟩ (.int .i64 last)) := ((HB2.out.trans (HB5.out.mono HB2.out.size)).setCell (p := ⟨b + 1, 0, none⟩) (by rw [HW0.out]; exact Nat.le_succ b) (.slice A7 pl.length c7)).setCell (p := ⟨b + 1, 1, none⟩) (by rw [HW0.out]; exact Nat.le_succ b) (.int .i64 last)
   generalize (w5.setCell ⟨b + 1, 0, none⟩ (.slice A7 pl.length c7)).setCell ⟨b + 1, 1, none⟩ (.int .i64 last) = w9' at hT hB9 hR9 ⊢
   obtain ⟨t0, t1⟩ := hT
   refine bodyPost_ret (v := .tuple #[.agg #[.slice A7 pl.length c7, .int .i64 last], .int .i64 pe]) (by simp [results, Tryz.results60, go_sem, t0, t1, hu30]) rfl ⟨.agg #[.slice A7 pl.length c7, .int .i64 last], rfl, hR9, hB9⟩
  ·
   rw [if_pos he2]
   have b1 : (e2 != 0) = true := bne_iff_ne.2 he2
   clear he2 HMO
   go_enter Tryz.func60, Tryz.ntmps60
   go_upto_region 1 with (fail)
   generalize (w.alloc (.cells #[.slice A L.length c, .int .i64 last] 30)).alloc (.cells #[.slice none 0 0, .int .i64 0] 30) = w2 at HK ⊢
   have HR1 := Lib.hid HK.out.1
   have HR2 := Lib.hid HK.out.2.1
   have HB2 := Lib.hid HK.out.2.2
   clear HK
   generalize hb0 : w.heap.size = b at HR1 HR2 ⊢
   have HW0 := Lib.hid hb0
   clear hb0
   have HX := Lib.hid (fun (W : World) (hb : Below w2.heap.size w2 W) => show (W.cell? ⟨b, 0, none⟩ = some (.slice A L.length c) ∧ W.cell? ⟨b, 1, none⟩ = some (.int .i64 last)) ∧ (W.cell? ⟨b + 1, 0, none⟩ = some (.slice none 0 0) ∧ W.cell? ⟨b + 1, 1, none⟩ = some (.int .i64 0)) ∧ (W.frozen? ⟨b + 1, 0, none⟩ = false ∧ W.frozen? ⟨b + 1, 1, none⟩ = false) by
    have e1 := (hb.block _ (blk_lt HR1.out)).trans HR1.out
    have e2 := (hb.block _ (blk_lt HR2.out)).trans HR2.out
    exact ⟨⟨by rw [blk_cell e1]; rfl, by rw [blk_cell e1]; rfl⟩, ⟨by rw [blk_cell e2]; rfl, by rw [blk_cell e2]; rfl⟩, blk_frozen e2 0, blk_frozen e2 1⟩)
   have HCT := Lib.hid (fun (W : World) (hb : Below w2.heap.size w2 W) => Kd.C_below HC.out (HB2.out.trans (hb.mono HB2.out.size)))
   have HRA := Lib.hid (fun (W : World) (hb : Below w2.heap.size w2 W) => show RAt W (.agg #[.slice A L.length c, .int .i64 last]) L last from ⟨A, c, rfl, HLE.out, HCT.out W hb⟩)
   have HBi := Lib.hid (Below.refl w2.heap.size w2)
   obtain ⟨⟨x0, x1⟩, ⟨r0, r1⟩, f0, f1⟩ := HX.out _ HBi.out
   go_upto_region 2 with (go_at_call 107; refine (HSP.out _ _ (HRA.out _ HBi.out)).mono ?_; rintro e w3 ⟨rfl, hb⟩; have HB3 := Lib.hid (HBi.out.trans (hb.mono HBi.out.size)); clear hb; clear x0 x1 r0 r1 f0 f1; obtain ⟨⟨x0, x1⟩, ⟨r0, r1⟩, f0, f1⟩ := HX.out _ HB3.out)
   go_wp2_with (go_at_call 107; refine (HSQ.out _ _ (HRA.out _ HB3.out)).mono ?_; rintro e w4 ⟨rfl, hb⟩; have HB4 := Lib.hid (HB3.out.trans (hb.mono HB3.out.size)); clear hb; clear x0 x1 r0 r1 f0 f1; obtain ⟨⟨x0, x1⟩, ⟨r0, r1⟩, f0, f1⟩ := HX.out _ HB4.out)
   have e3 := (HB4.out.block _ (blk_lt HR2.out)).trans HR2.out
   have hT := res_cells (.slice A L.length c) (.int .i64 last) e3
   have hR9 := RAt.but (HRA.out _ HB4.out) (but_two (u0 := .slice A L.length c) (u1 := .int .i64 last) e3 (by simp) (by simp))
   have hB9 : Below w.heap.size w ((w4.setCell ⟨b + 1, 0, none⟩ (.slice A L.length c)).setCell ⟨b + 1, 1, none⟩ (.int .i64 last)) := ((HB2.out.trans (HB4.out.mono HB2.out.size)).setCell (p := ⟨b + 1, 0, none⟩) (by rw [HW0.out]; exact Nat.le_succ b) (.slice A L.length c)).setCell (p := ⟨b + 1, 1, none⟩) (by rw [HW0.out]; exact Nat.le_succ b) (.int .i64 last)
   generalize (w4.setCell ⟨b + 1, 0, none⟩ (.slice A L.length c)).setCell ⟨b + 1, 1, none⟩ (.int .i64 last) = w9' at hT hB9 hR9 ⊢
   obtain ⟨t0, t1⟩ := hT
   refine bodyPost_ret (v := .tuple #[.agg #[.slice A L.length c, .int .i64 last], .int .i64 e2]) (by simp [results, Tryz.results60, go_sem, t0, t1, hu30]) rfl ⟨.agg #[.slice A L.length c, .int .i64 last], rfl, hR9, hB9⟩
 ·
  rw [if_pos he]
  have b1 : (e != 0) = true := bne_iff_ne.2 he
  clear he HMO HSQ
  go_enter Tryz.func60, Tryz.ntmps60
  go_upto_region 1 with (fail)
  generalize (w.alloc (.cells #[.slice A L.length c, .int .i64 last] 30)).alloc (.cells #[.slice none 0 0, .int .i64 0] 30) = w2 at HK ⊢
  have HR1 := Lib.hid HK.out.1
  have HR2 := Lib.hid HK.out.2.1
  have HB2 := Lib.hid HK.out.2.2
  clear HK
  generalize hb0 : w.heap.size = b at HR1 HR2 ⊢
  have HW0 := Lib.hid hb0
  clear hb0
  have HX := Lib.hid (fun (W : World) (hb : Below w2.heap.size w2 W) => show (W.cell? ⟨b, 0, none⟩ = some (.slice A L.length c) ∧ W.cell? ⟨b, 1, none⟩ = some (.int .i64 last)) ∧ (W.cell? ⟨b + 1, 0, none⟩ = some (.slice none 0 0) ∧ W.cell? ⟨b + 1, 1, none⟩ = some (.int .i64 0)) ∧ (W.frozen? ⟨b + 1, 0, none⟩ = false ∧ W.frozen? ⟨b + 1, 1, none⟩ = false) by
   have e1 := (hb.block _ (blk_lt HR1.out)).trans HR1.out
   have e2 := (hb.block _ (blk_lt HR2.out)).trans HR2.out
   exact ⟨⟨by rw [blk_cell e1]; rfl, by rw [blk_cell e1]; rfl⟩, ⟨by rw [blk_cell e2]; rfl, by rw [blk_cell e2]; rfl⟩, blk_frozen e2 0, blk_frozen e2 1⟩)
  have HCT := Lib.hid (fun (W : World) (hb : Below w2.heap.size w2 W) => Kd.C_below HC.out (HB2.out.trans (hb.mono HB2.out.size)))
  have HRA := Lib.hid (fun (W : World) (hb : Below w2.heap.size w2 W) => show RAt W (.agg #[.slice A L.length c, .int .i64 last]) L last from ⟨A, c, rfl, HLE.out, HCT.out W hb⟩)
  have HBi := Lib.hid (Below.refl w2.heap.size w2)
  obtain ⟨⟨x0, x1⟩, ⟨r0, r1⟩, f0, f1⟩ := HX.out _ HBi.out
  go_wp2_with (go_at_call 107; refine (HSP.out _ _ (HRA.out _ HBi.out)).mono ?_; rintro e w3 ⟨rfl, hb⟩; have HB3 := Lib.hid (HBi.out.trans (hb.mono HBi.out.size)); clear hb; clear x0 x1 r0 r1 f0 f1; obtain ⟨⟨x0, x1⟩, ⟨r0, r1⟩, f0, f1⟩ := HX.out _ HB3.out)
  have e3 := (HB3.out.block _ (blk_lt HR2.out)).trans HR2.out
  have hT := res_cells (.slice A L.length c) (.int .i64 last) e3
  have hR9 := RAt.but (HRA.out _ HB3.out) (but_two (u0 := .slice A L.length c) (u1 := .int .i64 last) e3 (by simp) (by simp))
  have hB9 : Below w.heap.size w ((w3.setCell ⟨b + 1, 0, none⟩ (.slice A L.length c)).setCell ⟨b + 1, 1, none⟩ (.int .i64 last)) := ((HB2.out.trans (HB3.out.mono HB2.out.size)).setCell (p := ⟨b + 1, 0, none⟩) (by rw [HW0.out]; exact Nat.le_succ b) (.slice A L.length c)).setCell (p := ⟨b + 1, 1, none⟩) (by rw [HW0.out]; exact Nat.le_succ b) (.int .i64 last)
  generalize (w3.setCell ⟨b + 1, 0, none⟩ (.slice A L.length c)).setCell ⟨b + 1, 1, none⟩ (.int .i64 last) = w9' at hT hB9 hR9 ⊢
  obtain ⟨t0, t1⟩ := hT
  refine bodyPost_ret (v := .tuple #[.agg #[.slice A L.length c, .int .i64 last], .int .i64 e]) (by simp [results, Tryz.results60, go_sem, t0, t1, hu30]) rfl ⟨.agg #[.slice A L.length c, .int .i64 last], rfl, hR9, hB9⟩
end Go.Proofs.YtnpeeiikdcankaaGreat.Tw

namespace Go.Proofs.YtnpeeiikdcankaaGreat.Tw
open Go Go.RowKit Go.Shelf Go.Proofs Go.Proofs.YtnpeeiikdcankaaGreat Go.Proofs.YtnpeeiikdcankaaGreatW.PrintWords Go.Proofs.YtnpeeiikdcankaaGreat.Ext Go.Proofs.YtnpeeiikdcankaaGreat.X Go.Proofs.YtnpeeiikdcankaaGreat.Pu
theorem kind_in {L : List RN} {last : Int} (hG : GoodL L last) (hM : GoodM L) (d : Int) (s : ByteArray) : (inR L d s = 0) ↔ (atR L (inR L d s)).f3 = 0 := by
 constructor
 ·
  intro e
  rw [e]
  refine Decidable.byContradiction fun h => ?_
  obtain ⟨r, hr, hrn, _⟩ := at_kind h
  have := (hG.num r hr).1
  omega
 ·
  intro e
  refine Decidable.byContradiction fun h => ?_
  obtain ⟨r, hr, hrn, _, _, _, hra⟩ := inR_mem hG h
  rw [hra] at e
  have := (hM.kind r hr).1
  omega
set_option maxHeartbeats 4000000 in
set_option maxRecDepth 1000000 in
theorem rcut9_calls (L : List RN) (last : Int) (v : Value) (s : ByteArray) (dir : Bool) (w : World) (h : RAt w v L last) (hG : GoodL L last) (hM : GoodM L) :
  Calls Tryz.prog 59 #[v, .string s, .bool dir] w (Done w (cutP L last s dir)) := by
 obtain ⟨A, c, rfl, hle, hC⟩ := h
 have hl := hG.len
 have hu30 := Tryz.underlying30
 have hu106 := Tryz.underlying106
 obtain ⟨q1, q2, q3⟩ := two_blocks w (.cells #[.slice A L.length c, .int .i64 last] 30) (.cells #[.slice none 0 0, .int .i64 0] 30)
 have HK := Lib.hid (And.intro q1 (And.intro q2 q3))
 have HC := Lib.hid hC
 have HLE := Lib.hid hle
 obtain ⟨k2, hk2⟩ := spot9 hG hM s
 have HSP := Lib.hid (fun v W h => rspot_calls L last v s k2 _ W h (by omega) hk2)
 have HCU := Lib.hid (fun v W h => rcut_calls L last v (spotV L last s).1 (spotV L last s).2.1 W h hG)
 obtain ⟨k3, hk3⟩ := (r07_in L (spotV L last s).1 last (spotV L last s).2.1 (by omega)).rounds
 have HI := Lib.hid (fun W h => linhayref07_In.calls k3 A c L last (spotV L last s).1 (spotV L last s).2.1 _ W h hle hk3)
 obtain ⟨k4, hk4⟩ := (r07_at L (inR L (spotV L last s).1 (spotV L last s).2.1) last (by omega)).rounds
 have HA := Lib.hid (fun W h => linhayref07_At.calls k4 A c L last (inR L (spotV L last s).1 (spotV L last s).2.1) _ _ _ _ _ W h hle hk4)
 have HN : Hid ((inR L (spotV L last s).1 (spotV L last s).2.1 = 0) ↔ (atR L (inR L (spotV L last s).1 (spotV L last s).2.1)).f3 = 0) := Lib.hid (kind_in hG hM _ _)
 have HO : Hid (cutP L last s dir = if (spotV L last s).2.2 ≠ 0 then (L, last, (spotV L last s).2.2) else if inR L (spotV L last s).1 (spotV L last s).2.1 = 0 then (L, last, 5) else if mayK dir (atR L (inR L (spotV L last s).1 (spotV L last s).2.1)).f3 ≠ 0 then (L, last, mayK dir (atR L (inR L (spotV L last s).1 (spotV L last s).2.1)).f3) else (cutS L (spotV L last s).1 (spotV L last s).2.1, last, cutRE L (spotV L last s).1 (spotV L last s).2.1)) := Lib.hid rfl
 generalize cutP L last s dir = oo at *
 generalize cutRE L (spotV L last s).1 (spotV L last s).2.1 = pe at *
 generalize cutS L (spotV L last s).1 (spotV L last s).2.1 = pl at *
 generalize atR L (inR L (spotV L last s).1 (spotV L last s).2.1) = q at *
 generalize inR L (spotV L last s).1 (spotV L last s).2.1 = n at *
 generalize spotV L last s = R at *
 obtain ⟨d, z, e⟩ := R
 obtain ⟨p0, p1, p2, p3, p4⟩ := q
 simp only [] at HSP HCU HI HA HO HN
 clear hk2 hk3 hk4
 clear hC q1 q2 q3 hG hM hl hle
 by_cases he : e = 0
 ·
  subst he
  rw [if_neg (by simp)] at HO
  by_cases hn : p3 = 0
  ·
   obtain rfl : oo = (L, last, 5) := by rw [HO.out, if_pos (HN.out.2 hn)]
   subst hn
   clear HO HN HCU
   go_enter Tryz.func59, Tryz.ntmps59
   go_upto_region 1 with (fail)
   generalize (w.alloc (.cells #[.slice A L.length c, .int .i64 last] 30)).alloc (.cells #[.slice none 0 0, .int .i64 0] 30) = w2 at HK ⊢
   have HR1 := Lib.hid HK.out.1
   have HR2 := Lib.hid HK.out.2.1
   have HB2 := Lib.hid HK.out.2.2
   clear HK
   generalize hb0 : w.heap.size = b at HR1 HR2 ⊢
   have HW0 := Lib.hid hb0
   clear hb0
   have HX := Lib.hid (fun (W : World) (hb : Below w2.heap.size w2 W) => show (W.cell? ⟨b, 0, none⟩ = some (.slice A L.length c) ∧ W.cell? ⟨b, 1, none⟩ = some (.int .i64 last)) ∧ (W.cell? ⟨b + 1, 0, none⟩ = some (.slice none 0 0) ∧ W.cell? ⟨b + 1, 1, none⟩ = some (.int .i64 0)) ∧ (W.frozen? ⟨b + 1, 0, none⟩ = false ∧ W.frozen? ⟨b + 1, 1, none⟩ = false) by
    have e1 := (hb.block _ (blk_lt HR1.out)).trans HR1.out
    have e2 := (hb.block _ (blk_lt HR2.out)).trans HR2.out
    exact ⟨⟨by rw [blk_cell e1]; rfl, by rw [blk_cell e1]; rfl⟩, ⟨by rw [blk_cell e2]; rfl, by rw [blk_cell e2]; rfl⟩, blk_frozen e2 0, blk_frozen e2 1⟩)
   have HCT := Lib.hid (fun (W : World) (hb : Below w2.heap.size w2 W) => Kd.C_below HC.out (HB2.out.trans (hb.mono HB2.out.size)))
   have HRA := Lib.hid (fun (W : World) (hb : Below w2.heap.size w2 W) => show RAt W (.agg #[.slice A L.length c, .int .i64 last]) L last from ⟨A, c, rfl, HLE.out, HCT.out W hb⟩)
   have HBi := Lib.hid (Below.refl w2.heap.size w2)
   obtain ⟨⟨x0, x1⟩, ⟨r0, r1⟩, f0, f1⟩ := HX.out _ HBi.out
   go_upto_region 4 with (go_at_call 107; refine (HSP.out _ _ (HRA.out _ HBi.out)).mono ?_; rintro e w3 ⟨rfl, hb⟩; have HB3 := Lib.hid (HBi.out.trans (hb.mono HBi.out.size)); clear hb; clear x0 x1 r0 r1 f0 f1; obtain ⟨⟨x0, x1⟩, ⟨r0, r1⟩, f0, f1⟩ := HX.out _ HB3.out)
   go_region_held3 (fun w' => w'.cell? ⟨b, 0, none⟩ = some (.slice A L.length c) ∧ w'.cell? ⟨b, 1, none⟩ = some (.int .i64 last)) (first | (go_keep; done) | exact (HX.out _ HB5.out).1 | exact (HX.out _ HB4.out).1) (first | (go_at_call 105; refine (HI.out _ (HCT.out _ (by first | exact HB3.out | exact below_drew HB3.out))).mono ?_; rintro e w4 ⟨rfl, hb⟩; have HB4 : Hid (Below w2.heap.size w2 w4) := Lib.hid (by first | exact HB3.out.trans (hb.mono HB3.out.size) | exact (below_drew HB3.out).trans (hb.mono HB3.out.size)); clear hb) | (go_at_call 68; refine (HA.out _ (HCT.out _ HB4.out)).mono ?_; rintro e w5 ⟨rfl, hb⟩; have HB5 : Hid (Below w2.heap.size w2 w5) := Lib.hid (HB4.out.trans (hb.mono HB4.out.size)); clear hb))
   clear x0 x1 r0 r1 f0 f1
   obtain ⟨⟨x0, x1⟩, ⟨r0, r1⟩, f0, f1⟩ := HX.out _ HB5.out
   go_wp2
   have e3 := (HB5.out.block _ (blk_lt HR2.out)).trans HR2.out
   have hT := res_cells (.slice A L.length c) (.int .i64 last) e3
   have hR9 := RAt.but (HRA.out _ HB5.out) (but_two (u0 := .slice A L.length c) (u1 := .int .i64 last) e3 (by simp) (by simp))
   have hB9 : Below w.heap.size w ((w5.setCell ⟨b + 1, 0, none⟩ (.slice A L.length c)).setCell ⟨b + 1, 1, none⟩ (.int .i64 last)) := ((HB2.out.trans (HB5.out.mono HB2.out.size)).setCell (p := ⟨b + 1, 0, none⟩) (by rw [HW0.out]; exact Nat.le_succ b) (.slice A L.length c)).setCell (p := ⟨b + 1, 1, none⟩) (by rw [HW0.out]; exact Nat.le_succ b) (.int .i64 last)
   generalize (w5.setCell ⟨b + 1, 0, none⟩ (.slice A L.length c)).setCell ⟨b + 1, 1, none⟩ (.int .i64 last) = w9' at hT hB9 hR9 ⊢
   obtain ⟨t0, t1⟩ := hT
   refine bodyPost_ret (v := .tuple #[.agg #[.slice A L.length c, .int .i64 last], .int .i64 5]) (by simp [results, Tryz.results59, go_sem, t0, t1, hu30]) rfl ⟨.agg #[.slice A L.length c, .int .i64 last], rfl, hR9, hB9⟩
  ·
   have HO1 : Hid (oo = if mayK dir p3 ≠ 0 then (L, last, mayK dir p3) else (pl, last, pe)) := Lib.hid (by rw [HO.out, if_neg (fun e => hn (HN.out.1 e))])
   have b0 : (p3 == 0) = false := beq_eq_false_iff_ne.2 hn
   clear HO HN
   by_cases hk : p3 = 1
   ·
    subst hk
    clear hn b0
    cases dir with
    | true =>
     obtain rfl : oo = (pl, last, pe) := by rw [HO1.out, if_neg (by decide)]
     clear HO1
     go_enter Tryz.func59, Tryz.ntmps59
     go_upto_region 1 with (fail)
     generalize (w.alloc (.cells #[.slice A L.length c, .int .i64 last] 30)).alloc (.cells #[.slice none 0 0, .int .i64 0] 30) = w2 at HK ⊢
     have HR1 := Lib.hid HK.out.1
     have HR2 := Lib.hid HK.out.2.1
     have HB2 := Lib.hid HK.out.2.2
     clear HK
     generalize hb0 : w.heap.size = b at HR1 HR2 ⊢
     have HW0 := Lib.hid hb0
     clear hb0
     have HX := Lib.hid (fun (W : World) (hb : Below w2.heap.size w2 W) => show (W.cell? ⟨b, 0, none⟩ = some (.slice A L.length c) ∧ W.cell? ⟨b, 1, none⟩ = some (.int .i64 last)) ∧ (W.cell? ⟨b + 1, 0, none⟩ = some (.slice none 0 0) ∧ W.cell? ⟨b + 1, 1, none⟩ = some (.int .i64 0)) ∧ (W.frozen? ⟨b + 1, 0, none⟩ = false ∧ W.frozen? ⟨b + 1, 1, none⟩ = false) by
      have e1 := (hb.block _ (blk_lt HR1.out)).trans HR1.out
      have e2 := (hb.block _ (blk_lt HR2.out)).trans HR2.out
      exact ⟨⟨by rw [blk_cell e1]; rfl, by rw [blk_cell e1]; rfl⟩, ⟨by rw [blk_cell e2]; rfl, by rw [blk_cell e2]; rfl⟩, blk_frozen e2 0, blk_frozen e2 1⟩)
     have HCT := Lib.hid (fun (W : World) (hb : Below w2.heap.size w2 W) => Kd.C_below HC.out (HB2.out.trans (hb.mono HB2.out.size)))
     have HRA := Lib.hid (fun (W : World) (hb : Below w2.heap.size w2 W) => show RAt W (.agg #[.slice A L.length c, .int .i64 last]) L last from ⟨A, c, rfl, HLE.out, HCT.out W hb⟩)
     have HBi := Lib.hid (Below.refl w2.heap.size w2)
     obtain ⟨⟨x0, x1⟩, ⟨r0, r1⟩, f0, f1⟩ := HX.out _ HBi.out
     go_upto_region 4 with (go_at_call 107; refine (HSP.out _ _ (HRA.out _ HBi.out)).mono ?_; rintro e w3 ⟨rfl, hb⟩; have HB3 := Lib.hid (HBi.out.trans (hb.mono HBi.out.size)); clear hb; clear x0 x1 r0 r1 f0 f1; obtain ⟨⟨x0, x1⟩, ⟨r0, r1⟩, f0, f1⟩ := HX.out _ HB3.out)
     go_region_held3 (fun w' => w'.cell? ⟨b, 0, none⟩ = some (.slice A L.length c) ∧ w'.cell? ⟨b, 1, none⟩ = some (.int .i64 last)) (first | (go_keep; done) | exact (HX.out _ HB5.out).1 | exact (HX.out _ HB4.out).1) (first | (go_at_call 105; refine (HI.out _ (HCT.out _ (by first | exact HB3.out | exact below_drew HB3.out))).mono ?_; rintro e w4 ⟨rfl, hb⟩; have HB4 : Hid (Below w2.heap.size w2 w4) := Lib.hid (by first | exact HB3.out.trans (hb.mono HB3.out.size) | exact (below_drew HB3.out).trans (hb.mono HB3.out.size)); clear hb) | (go_at_call 68; refine (HA.out _ (HCT.out _ HB4.out)).mono ?_; rintro e w5 ⟨rfl, hb⟩; have HB5 : Hid (Below w2.heap.size w2 w5) := Lib.hid (HB4.out.trans (hb.mono HB4.out.size)); clear hb))
     clear x0 x1 r0 r1 f0 f1
     obtain ⟨⟨x0, x1⟩, ⟨r0, r1⟩, f0, f1⟩ := HX.out _ HB5.out
     go_wp2_with (go_at_call 108; refine (HCU.out _ _ (HRA.out _ HB5.out)).mono ?_; rintro e w6 ⟨v7, rfl, hR7, hb, -⟩; have HQ := Lib.hid hR7; obtain ⟨A7, c7, rfl, h7, C7⟩ := hR7; have HB6 := Lib.hid (HB5.out.trans (hb.mono HB5.out.size)); clear hb h7 C7; clear x0 x1 r0 r1 f0 f1; obtain ⟨⟨x0, x1⟩, ⟨r0, r1⟩, f0, f1⟩ := HX.out _ HB6.out)
     have e3 := (HB6.out.block _ (blk_lt HR2.out)).trans HR2.out
     have hT := res_cells (.slice A7 pl.length c7) (.int .i64 last) e3
     have hR9 := RAt.but HQ.out (but_two (u0 := .slice A7 pl.length c7) (u1 := .int .i64 last) e3 (by simp) (by simp))
     have hB9 : Below w.heap.size w ((w6.setCell ⟨b + 1, 0, none⟩ (.slice A7 pl.length c7)).setCell ⟨b + 1, 1, none⟩ (.int .i64 last)) := ((HB2.out.trans (HB6.out.mono HB2.out.size)).setCell (p := ⟨b + 1, 0, none⟩) (by rw [HW0.out]; exact Nat.le_succ b) (.slice A7 pl.length c7)).setCell (p := ⟨b + 1, 1, none⟩) (by rw [HW0.out]; exact Nat.le_succ b) (.int .i64 last)
     generalize (w6.setCell ⟨b + 1, 0, none⟩ (.slice A7 pl.length c7)).setCell ⟨b + 1, 1, none⟩ (.int .i64 last) = w9' at hT hB9 hR9 ⊢
     obtain ⟨t0, t1⟩ := hT
     refine bodyPost_ret (v := .tuple #[.agg #[.slice A7 pl.length c7, .int .i64 last], .int .i64 pe]) (by simp [results, Tryz.results59, go_sem, t0, t1, hu30]) rfl ⟨.agg #[.slice A7 pl.length c7, .int .i64 last], rfl, hR9, hB9⟩
    | false =>
     obtain rfl : oo = (L, last, 8) := by rw [HO1.out, if_pos (by decide)]; rfl
     clear HO1 HCU
     go_enter Tryz.func59, Tryz.ntmps59
     go_upto_region 1 with (fail)
     generalize (w.alloc (.cells #[.slice A L.length c, .int .i64 last] 30)).alloc (.cells #[.slice none 0 0, .int .i64 0] 30) = w2 at HK ⊢
     have HR1 := Lib.hid HK.out.1
     have HR2 := Lib.hid HK.out.2.1
     have HB2 := Lib.hid HK.out.2.2
     clear HK
     generalize hb0 : w.heap.size = b at HR1 HR2 ⊢
     have HW0 := Lib.hid hb0
     clear hb0
     have HX := Lib.hid (fun (W : World) (hb : Below w2.heap.size w2 W) => show (W.cell? ⟨b, 0, none⟩ = some (.slice A L.length c) ∧ W.cell? ⟨b, 1, none⟩ = some (.int .i64 last)) ∧ (W.cell? ⟨b + 1, 0, none⟩ = some (.slice none 0 0) ∧ W.cell? ⟨b + 1, 1, none⟩ = some (.int .i64 0)) ∧ (W.frozen? ⟨b + 1, 0, none⟩ = false ∧ W.frozen? ⟨b + 1, 1, none⟩ = false) by
      have e1 := (hb.block _ (blk_lt HR1.out)).trans HR1.out
      have e2 := (hb.block _ (blk_lt HR2.out)).trans HR2.out
      exact ⟨⟨by rw [blk_cell e1]; rfl, by rw [blk_cell e1]; rfl⟩, ⟨by rw [blk_cell e2]; rfl, by rw [blk_cell e2]; rfl⟩, blk_frozen e2 0, blk_frozen e2 1⟩)
     have HCT := Lib.hid (fun (W : World) (hb : Below w2.heap.size w2 W) => Kd.C_below HC.out (HB2.out.trans (hb.mono HB2.out.size)))
     have HRA := Lib.hid (fun (W : World) (hb : Below w2.heap.size w2 W) => show RAt W (.agg #[.slice A L.length c, .int .i64 last]) L last from ⟨A, c, rfl, HLE.out, HCT.out W hb⟩)
     have HBi := Lib.hid (Below.refl w2.heap.size w2)
     obtain ⟨⟨x0, x1⟩, ⟨r0, r1⟩, f0, f1⟩ := HX.out _ HBi.out
     go_upto_region 4 with (go_at_call 107; refine (HSP.out _ _ (HRA.out _ HBi.out)).mono ?_; rintro e w3 ⟨rfl, hb⟩; have HB3 := Lib.hid (HBi.out.trans (hb.mono HBi.out.size)); clear hb; clear x0 x1 r0 r1 f0 f1; obtain ⟨⟨x0, x1⟩, ⟨r0, r1⟩, f0, f1⟩ := HX.out _ HB3.out)
     go_region_held3 (fun w' => w'.cell? ⟨b, 0, none⟩ = some (.slice A L.length c) ∧ w'.cell? ⟨b, 1, none⟩ = some (.int .i64 last)) (first | (go_keep; done) | exact (HX.out _ HB5.out).1 | exact (HX.out _ HB4.out).1) (first | (go_at_call 105; refine (HI.out _ (HCT.out _ (by first | exact HB3.out | exact below_drew HB3.out))).mono ?_; rintro e w4 ⟨rfl, hb⟩; have HB4 : Hid (Below w2.heap.size w2 w4) := Lib.hid (by first | exact HB3.out.trans (hb.mono HB3.out.size) | exact (below_drew HB3.out).trans (hb.mono HB3.out.size)); clear hb) | (go_at_call 68; refine (HA.out _ (HCT.out _ HB4.out)).mono ?_; rintro e w5 ⟨rfl, hb⟩; have HB5 : Hid (Below w2.heap.size w2 w5) := Lib.hid (HB4.out.trans (hb.mono HB4.out.size)); clear hb))
     clear x0 x1 r0 r1 f0 f1
     obtain ⟨⟨x0, x1⟩, ⟨r0, r1⟩, f0, f1⟩ := HX.out _ HB5.out
     go_wp2
     have e3 := (HB5.out.block _ (blk_lt HR2.out)).trans HR2.out
     have hT := res_cells (.slice A L.length c) (.int .i64 last) e3
     have hR9 := RAt.but (HRA.out _ HB5.out) (but_two (u0 := .slice A L.length c) (u1 := .int .i64 last) e3 (by simp) (by simp))
     have hB9 : Below w.heap.size w ((w5.setCell ⟨b + 1, 0, none⟩ (.slice A L.length c)).setCell ⟨b + 1, 1, none⟩ (.int .i64 last)) := ((HB2.out.trans (HB5.out.mono HB2.out.size)).setCell (p := ⟨b + 1, 0, none⟩) (by rw [HW0.out]; exact Nat.le_succ b) (.slice A L.length c)).setCell (p := ⟨b + 1, 1, none⟩) (by rw [HW0.out]; exact Nat.le_succ b) (.int .i64 last)
     generalize (w5.setCell ⟨b + 1, 0, none⟩ (.slice A L.length c)).setCell ⟨b + 1, 1, none⟩ (.int .i64 last) = w9' at hT hB9 hR9 ⊢
     obtain ⟨t0, t1⟩ := hT
     refine bodyPost_ret (v := .tuple #[.agg #[.slice A L.length c, .int .i64 last], .int .i64 8]) (by simp [results, Tryz.results59, go_sem, t0, t1, hu30]) rfl ⟨.agg #[.slice A L.length c, .int .i64 last], rfl, hR9, hB9⟩
   ·
    have b1 : (p3 == 1) = false := beq_eq_false_iff_ne.2 hk
    have b2 : (p3 != 1) = true := bne_iff_ne.2 hk
    cases dir with
    | true =>
     obtain rfl : oo = (L, last, 7) := by rw [HO1.out, show mayK true p3 = 7 by simp [mayK, hk], if_pos (by decide)]
     clear HO1 HCU hk hn
     go_enter Tryz.func59, Tryz.ntmps59
     go_upto_region 1 with (fail)
     generalize (w.alloc (.cells #[.slice A L.length c, .int .i64 last] 30)).alloc (.cells #[.slice none 0 0, .int .i64 0] 30) = w2 at HK ⊢
     have HR1 := Lib.hid HK.out.1
     have HR2 := Lib.hid HK.out.2.1
     have HB2 := Lib.hid HK.out.2.2
     clear HK
     generalize hb0 : w.heap.size = b at HR1 HR2 ⊢
     have HW0 := Lib.hid hb0
     clear hb0
     have HX := Lib.hid (fun (W : World) (hb : Below w2.heap.size w2 W) => show (W.cell? ⟨b, 0, none⟩ = some (.slice A L.length c) ∧ W.cell? ⟨b, 1, none⟩ = some (.int .i64 last)) ∧ (W.cell? ⟨b + 1, 0, none⟩ = some (.slice none 0 0) ∧ W.cell? ⟨b + 1, 1, none⟩ = some (.int .i64 0)) ∧ (W.frozen? ⟨b + 1, 0, none⟩ = false ∧ W.frozen? ⟨b + 1, 1, none⟩ = false) by
      have e1 := (hb.block _ (blk_lt HR1.out)).trans HR1.out
      have e2 := (hb.block _ (blk_lt HR2.out)).trans HR2.out
      exact ⟨⟨by rw [blk_cell e1]; rfl, by rw [blk_cell e1]; rfl⟩, ⟨by rw [blk_cell e2]; rfl, by rw [blk_cell e2]; rfl⟩, blk_frozen e2 0, blk_frozen e2 1⟩)
     have HCT := Lib.hid (fun (W : World) (hb : Below w2.heap.size w2 W) => Kd.C_below HC.out (HB2.out.trans (hb.mono HB2.out.size)))
     have HRA := Lib.hid (fun (W : World) (hb : Below w2.heap.size w2 W) => show RAt W (.agg #[.slice A L.length c, .int .i64 last]) L last from ⟨A, c, rfl, HLE.out, HCT.out W hb⟩)
     have HBi := Lib.hid (Below.refl w2.heap.size w2)
     obtain ⟨⟨x0, x1⟩, ⟨r0, r1⟩, f0, f1⟩ := HX.out _ HBi.out
     go_upto_region 4 with (go_at_call 107; refine (HSP.out _ _ (HRA.out _ HBi.out)).mono ?_; rintro e w3 ⟨rfl, hb⟩; have HB3 := Lib.hid (HBi.out.trans (hb.mono HBi.out.size)); clear hb; clear x0 x1 r0 r1 f0 f1; obtain ⟨⟨x0, x1⟩, ⟨r0, r1⟩, f0, f1⟩ := HX.out _ HB3.out)
     go_region_held3 (fun w' => w'.cell? ⟨b, 0, none⟩ = some (.slice A L.length c) ∧ w'.cell? ⟨b, 1, none⟩ = some (.int .i64 last)) (first | (go_keep; done) | exact (HX.out _ HB5.out).1 | exact (HX.out _ HB4.out).1) (first | (go_at_call 105; refine (HI.out _ (HCT.out _ (by first | exact HB3.out | exact below_drew HB3.out))).mono ?_; rintro e w4 ⟨rfl, hb⟩; have HB4 : Hid (Below w2.heap.size w2 w4) := Lib.hid (by first | exact HB3.out.trans (hb.mono HB3.out.size) | exact (below_drew HB3.out).trans (hb.mono HB3.out.size)); clear hb) | (go_at_call 68; refine (HA.out _ (HCT.out _ HB4.out)).mono ?_; rintro e w5 ⟨rfl, hb⟩; have HB5 : Hid (Below w2.heap.size w2 w5) := Lib.hid (HB4.out.trans (hb.mono HB4.out.size)); clear hb))
     clear x0 x1 r0 r1 f0 f1
     obtain ⟨⟨x0, x1⟩, ⟨r0, r1⟩, f0, f1⟩ := HX.out _ HB5.out
     go_wp2
     have e3 := (HB5.out.block _ (blk_lt HR2.out)).trans HR2.out
     have hT := res_cells (.slice A L.length c) (.int .i64 last) e3
     have hR9 := RAt.but (HRA.out _ HB5.out) (but_two (u0 := .slice A L.length c) (u1 := .int .i64 last) e3 (by simp) (by simp))
     have hB9 : Below w.heap.size w ((w5.setCell ⟨b + 1, 0, none⟩ (.slice A L.length c)).setCell ⟨b + 1, 1, none⟩ (.int .i64 last)) := ((HB2.out.trans (HB5.out.mono HB2.out.size)).setCell (p := ⟨b + 1, 0, none⟩) (by rw [HW0.out]; exact Nat.le_succ b) (.slice A L.length c)).setCell (p := ⟨b + 1, 1, none⟩) (by rw [HW0.out]; exact Nat.le_succ b) (.int .i64 last)
     generalize (w5.setCell ⟨b + 1, 0, none⟩ (.slice A L.length c)).setCell ⟨b + 1, 1, none⟩ (.int .i64 last) = w9' at hT hB9 hR9 ⊢
     obtain ⟨t0, t1⟩ := hT
     refine bodyPost_ret (v := .tuple #[.agg #[.slice A L.length c, .int .i64 last], .int .i64 7]) (by simp [results, Tryz.results59, go_sem, t0, t1, hu30]) rfl ⟨.agg #[.slice A L.length c, .int .i64 last], rfl, hR9, hB9⟩
    | false =>
     obtain rfl : oo = (pl, last, pe) := by rw [HO1.out, show mayK false p3 = 0 by simp [mayK, hk], if_neg (by decide)]
     clear HO1 hk hn
     go_enter Tryz.func59, Tryz.ntmps59
     go_upto_region 1 with (fail)
     generalize (w.alloc (.cells #[.slice A L.length c, .int .i64 last] 30)).alloc (.cells #[.slice none 0 0, .int .i64 0] 30) = w2 at HK ⊢
     have HR1 := Lib.hid HK.out.1
     have HR2 := Lib.hid HK.out.2.1
     have HB2 := Lib.hid HK.out.2.2
     clear HK
     generalize hb0 : w.heap.size = b at HR1 HR2 ⊢
     have HW0 := Lib.hid hb0
     clear hb0
     have HX := Lib.hid (fun (W : World) (hb : Below w2.heap.size w2 W) => show (W.cell? ⟨b, 0, none⟩ = some (.slice A L.length c) ∧ W.cell? ⟨b, 1, none⟩ = some (.int .i64 last)) ∧ (W.cell? ⟨b + 1, 0, none⟩ = some (.slice none 0 0) ∧ W.cell? ⟨b + 1, 1, none⟩ = some (.int .i64 0)) ∧ (W.frozen? ⟨b + 1, 0, none⟩ = false ∧ W.frozen? ⟨b + 1, 1, none⟩ = false) by
      have e1 := (hb.block _ (blk_lt HR1.out)).trans HR1.out
      have e2 := (hb.block _ (blk_lt HR2.out)).trans HR2.out
      exact ⟨⟨by rw [blk_cell e1]; rfl, by rw [blk_cell e1]; rfl⟩, ⟨by rw [blk_cell e2]; rfl, by rw [blk_cell e2]; rfl⟩, blk_frozen e2 0, blk_frozen e2 1⟩)
     have HCT := Lib.hid (fun (W : World) (hb : Below w2.heap.size w2 W) => Kd.C_below HC.out (HB2.out.trans (hb.mono HB2.out.size)))
     have HRA := Lib.hid (fun (W : World) (hb : Below w2.heap.size w2 W) => show RAt W (.agg #[.slice A L.length c, .int .i64 last]) L last from ⟨A, c, rfl, HLE.out, HCT.out W hb⟩)
     have HBi := Lib.hid (Below.refl w2.heap.size w2)
     obtain ⟨⟨x0, x1⟩, ⟨r0, r1⟩, f0, f1⟩ := HX.out _ HBi.out
     go_upto_region 4 with (go_at_call 107; refine (HSP.out _ _ (HRA.out _ HBi.out)).mono ?_; rintro e w3 ⟨rfl, hb⟩; have HB3 := Lib.hid (HBi.out.trans (hb.mono HBi.out.size)); clear hb; clear x0 x1 r0 r1 f0 f1; obtain ⟨⟨x0, x1⟩, ⟨r0, r1⟩, f0, f1⟩ := HX.out _ HB3.out)
     go_region_held3 (fun w' => w'.cell? ⟨b, 0, none⟩ = some (.slice A L.length c) ∧ w'.cell? ⟨b, 1, none⟩ = some (.int .i64 last)) (first | (go_keep; done) | exact (HX.out _ HB5.out).1 | exact (HX.out _ HB4.out).1) (first | (go_at_call 105; refine (HI.out _ (HCT.out _ (by first | exact HB3.out | exact below_drew HB3.out))).mono ?_; rintro e w4 ⟨rfl, hb⟩; have HB4 : Hid (Below w2.heap.size w2 w4) := Lib.hid (by first | exact HB3.out.trans (hb.mono HB3.out.size) | exact (below_drew HB3.out).trans (hb.mono HB3.out.size)); clear hb) | (go_at_call 68; refine (HA.out _ (HCT.out _ HB4.out)).mono ?_; rintro e w5 ⟨rfl, hb⟩; have HB5 : Hid (Below w2.heap.size w2 w5) := Lib.hid (HB4.out.trans (hb.mono HB4.out.size)); clear hb))
     clear x0 x1 r0 r1 f0 f1
     obtain ⟨⟨x0, x1⟩, ⟨r0, r1⟩, f0, f1⟩ := HX.out _ HB5.out
     go_wp2_with (go_at_call 108; refine (HCU.out _ _ (HRA.out _ HB5.out)).mono ?_; rintro e w6 ⟨v7, rfl, hR7, hb, -⟩; have HQ := Lib.hid hR7; obtain ⟨A7, c7, rfl, h7, C7⟩ := hR7; have HB6 := Lib.hid (HB5.out.trans (hb.mono HB5.out.size)); clear hb h7 C7; clear x0 x1 r0 r1 f0 f1; obtain ⟨⟨x0, x1⟩, ⟨r0, r1⟩, f0, f1⟩ := HX.out _ HB6.out)
     have e3 := (HB6.out.block _ (blk_lt HR2.out)).trans HR2.out
     have hT := res_cells (.slice A7 pl.length c7) (.int .i64 last) e3
     have hR9 := RAt.but HQ.out (but_two (u0 := .slice A7 pl.length c7) (u1 := .int .i64 last) e3 (by simp) (by simp))
     have hB9 : Below w.heap.size w ((w6.setCell ⟨b + 1, 0, none⟩ (.slice A7 pl.length c7)).setCell ⟨b + 1, 1, none⟩ (.int .i64 last)) := ((HB2.out.trans (HB6.out.mono HB2.out.size)).setCell (p := ⟨b + 1, 0, none⟩) (by rw [HW0.out]; exact Nat.le_succ b) (.slice A7 pl.length c7)).setCell (p := ⟨b + 1, 1, none⟩) (by rw [HW0.out]; exact Nat.le_succ b) (.int .i64 last)
     generalize (w6.setCell ⟨b + 1, 0, none⟩ (.slice A7 pl.length c7)).setCell ⟨b + 1, 1, none⟩ (.int .i64 last) = w9' at hT hB9 hR9 ⊢
     obtain ⟨t0, t1⟩ := hT
     refine bodyPost_ret (v := .tuple #[.agg #[.slice A7 pl.length c7, .int .i64 last], .int .i64 pe]) (by simp [results, Tryz.results59, go_sem, t0, t1, hu30]) rfl ⟨.agg #[.slice A7 pl.length c7, .int .i64 last], rfl, hR9, hB9⟩
 ·
  obtain rfl : oo = (L, last, e) := by rw [HO.out, if_pos he]
  have b1 : (e != 0) = true := bne_iff_ne.2 he
  clear he HO HN HCU HI HA
  go_enter Tryz.func59, Tryz.ntmps59
  go_upto_region 1 with (fail)
  generalize (w.alloc (.cells #[.slice A L.length c, .int .i64 last] 30)).alloc (.cells #[.slice none 0 0, .int .i64 0] 30) = w2 at HK ⊢
  have HR1 := Lib.hid HK.out.1
  have HR2 := Lib.hid HK.out.2.1
  have HB2 := Lib.hid HK.out.2.2
  clear HK
  generalize hb0 : w.heap.size = b at HR1 HR2 ⊢
  have HW0 := Lib.hid hb0
  clear hb0
  have HX := Lib.hid (fun (W : World) (hb : Below w2.heap.size w2 W) => show (W.cell? ⟨b, 0, none⟩ = some (.slice A L.length c) ∧ W.cell? ⟨b, 1, none⟩ = some (.int .i64 last)) ∧ (W.cell? ⟨b + 1, 0, none⟩ = some (.slice none 0 0) ∧ W.cell? ⟨b + 1, 1, none⟩ = some (.int .i64 0)) ∧ (W.frozen? ⟨b + 1, 0, none⟩ = false ∧ W.frozen? ⟨b + 1, 1, none⟩ = false) by
   have e1 := (hb.block _ (blk_lt HR1.out)).trans HR1.out
   have e2 := (hb.block _ (blk_lt HR2.out)).trans HR2.out
   exact ⟨⟨by rw [blk_cell e1]; rfl, by rw [blk_cell e1]; rfl⟩, ⟨by rw [blk_cell e2]; rfl, by rw [blk_cell e2]; rfl⟩, blk_frozen e2 0, blk_frozen e2 1⟩)
  have HCT := Lib.hid (fun (W : World) (hb : Below w2.heap.size w2 W) => Kd.C_below HC.out (HB2.out.trans (hb.mono HB2.out.size)))
  have HRA := Lib.hid (fun (W : World) (hb : Below w2.heap.size w2 W) => show RAt W (.agg #[.slice A L.length c, .int .i64 last]) L last from ⟨A, c, rfl, HLE.out, HCT.out W hb⟩)
  have HBi := Lib.hid (Below.refl w2.heap.size w2)
  obtain ⟨⟨x0, x1⟩, ⟨r0, r1⟩, f0, f1⟩ := HX.out _ HBi.out
  go_wp2_with (go_at_call 107; refine (HSP.out _ _ (HRA.out _ HBi.out)).mono ?_; rintro e w3 ⟨rfl, hb⟩; have HB3 := Lib.hid (HBi.out.trans (hb.mono HBi.out.size)); clear hb; clear x0 x1 r0 r1 f0 f1; obtain ⟨⟨x0, x1⟩, ⟨r0, r1⟩, f0, f1⟩ := HX.out _ HB3.out)
  have e3 := (HB3.out.block _ (blk_lt HR2.out)).trans HR2.out
  have hT := res_cells (.slice A L.length c) (.int .i64 last) e3
  have hR9 := RAt.but (HRA.out _ HB3.out) (but_two (u0 := .slice A L.length c) (u1 := .int .i64 last) e3 (by simp) (by simp))
  have hB9 : Below w.heap.size w ((w3.setCell ⟨b + 1, 0, none⟩ (.slice A L.length c)).setCell ⟨b + 1, 1, none⟩ (.int .i64 last)) := ((HB2.out.trans (HB3.out.mono HB2.out.size)).setCell (p := ⟨b + 1, 0, none⟩) (by rw [HW0.out]; exact Nat.le_succ b) (.slice A L.length c)).setCell (p := ⟨b + 1, 1, none⟩) (by rw [HW0.out]; exact Nat.le_succ b) (.int .i64 last)
  generalize (w3.setCell ⟨b + 1, 0, none⟩ (.slice A L.length c)).setCell ⟨b + 1, 1, none⟩ (.int .i64 last) = w9' at hT hB9 hR9 ⊢
  obtain ⟨t0, t1⟩ := hT
  refine bodyPost_ret (v := .tuple #[.agg #[.slice A L.length c, .int .i64 last], .int .i64 e]) (by simp [results, Tryz.results59, go_sem, t0, t1, hu30]) rfl ⟨.agg #[.slice A L.length c, .int .i64 last], rfl, hR9, hB9⟩
set_option maxHeartbeats 4000000 in
set_option maxRecDepth 1000000 in
theorem rwrite9_calls (L : List RN) (last : Int) (v : Value) (s data : ByteArray) (w : World) (h : RAt w v L last) (hG : GoodL L last) (hM : GoodM L) (hla : last < 1000000) :
  Calls Tryz.prog 61 #[v, .string s, .string data] w (Done w (wrP L last s data)) := by
 obtain ⟨A, c, rfl, hle, hC⟩ := h
 have hl := hG.len
 have hu30 := Tryz.underlying30
 have hu106 := Tryz.underlying106
 obtain ⟨q1, q2, q3⟩ := two_blocks w (.cells #[.slice A L.length c, .int .i64 last] 30) (.cells #[.slice none 0 0, .int .i64 0] 30)
 have HK := Lib.hid (And.intro q1 (And.intro q2 q3))
 have HC := Lib.hid hC
 have HLE := Lib.hid hle
 obtain ⟨k2, hk2⟩ := spot9 hG hM s
 obtain ⟨k1, hk1⟩ := (find9 hG hM true s).rounds
 have HF := Lib.hid (fun W h => linhayref08_Find.calls k1 A c L last s true (findV L last true s).1 (findV L last true s).2 W h hle hk1)
 have HSP := Lib.hid (fun v W h => rspot_calls L last v s k2 _ W h (by omega) hk2)
 have HSE := Lib.hid (fun v W h => rset_calls L last v (findV L last true s).1 data W h (by omega))
 have HPU := Lib.hid (fun v W h => rput9_calls L last v s 2 data W h hG hM hla)
 obtain ⟨k3, hk3⟩ := (r07_in L (spotV L last s).1 last (spotV L last s).2.1 (by omega)).rounds
 have HI := Lib.hid (fun W h => linhayref07_In.calls k3 A c L last (spotV L last s).1 (spotV L last s).2.1 _ W h hle hk3)
 have HIN := Lib.hid (inR_le hG (spotV L last s).1 (spotV L last s).2.1).1
 have HMK : Hid (mkP L last s 2 data = if (spotV L last s).2.2 ≠ 0 then (L, last, (spotV L last s).2.2) else (putL L last (spotV L last s).1 (spotV L last s).2.1 2 data, putN L last (spotV L last s).1 (spotV L last s).2.1 2 data, putRE L (spotV L last s).1 (spotV L last s).2.1 2 data)) := Lib.hid rfl
 unfold wrP
 generalize mkP L last s 2 data = mk at *
 generalize putRE L (spotV L last s).1 (spotV L last s).2.1 2 data = pe at *
 generalize putL L last (spotV L last s).1 (spotV L last s).2.1 2 data = pl at *
 generalize putN L last (spotV L last s).1 (spotV L last s).2.1 2 data = pn at *
 generalize inR L (spotV L last s).1 (spotV L last s).2.1 = n at *
 generalize setRE L (findV L last true s).1 data = se at *
 generalize setS L (findV L last true s).1 data = ss at *
 generalize spotV L last s = R at *
 generalize findV L last true s = RF at *
 obtain ⟨d, z, e⟩ := R
 obtain ⟨fn, fe⟩ := RF
 obtain ⟨mL, mN, mE⟩ := mk
 simp only [] at HSP HF HSE HI HPU HIN HMK ⊢
 clear hk1 hk2 hk3 hla
 clear hC q1 q2 q3 hG hM hl hle
 by_cases h0 : fe = 0
 ·
  subst h0
  rw [if_pos rfl]
  clear HSP HI HPU HMK HIN
  go_enter Tryz.func61, Tryz.ntmps61
  go_upto_region 1 with (fail)
  generalize (w.alloc (.cells #[.slice A L.length c, .int .i64 last] 30)).alloc (.cells #[.slice none 0 0, .int .i64 0] 30) = w2 at HK ⊢
  have HR1 := Lib.hid HK.out.1
  have HR2 := Lib.hid HK.out.2.1
  have HB2 := Lib.hid HK.out.2.2
  clear HK
  generalize hb0 : w.heap.size = b at HR1 HR2 ⊢
  have HW0 := Lib.hid hb0
  clear hb0
  have HX := Lib.hid (fun (W : World) (hb : Below w2.heap.size w2 W) => show (W.cell? ⟨b, 0, none⟩ = some (.slice A L.length c) ∧ W.cell? ⟨b, 1, none⟩ = some (.int .i64 last)) ∧ (W.cell? ⟨b + 1, 0, none⟩ = some (.slice none 0 0) ∧ W.cell? ⟨b + 1, 1, none⟩ = some (.int .i64 0)) ∧ (W.frozen? ⟨b + 1, 0, none⟩ = false ∧ W.frozen? ⟨b + 1, 1, none⟩ = false) by
   have e1 := (hb.block _ (blk_lt HR1.out)).trans HR1.out
   have e2 := (hb.block _ (blk_lt HR2.out)).trans HR2.out
   exact ⟨⟨by rw [blk_cell e1]; rfl, by rw [blk_cell e1]; rfl⟩, ⟨by rw [blk_cell e2]; rfl, by rw [blk_cell e2]; rfl⟩, blk_frozen e2 0, blk_frozen e2 1⟩)
  have HCT := Lib.hid (fun (W : World) (hb : Below w2.heap.size w2 W) => Kd.C_below HC.out (HB2.out.trans (hb.mono HB2.out.size)))
  have HRA := Lib.hid (fun (W : World) (hb : Below w2.heap.size w2 W) => show RAt W (.agg #[.slice A L.length c, .int .i64 last]) L last from ⟨A, c, rfl, HLE.out, HCT.out W hb⟩)
  have HBi := Lib.hid (Below.refl w2.heap.size w2)
  obtain ⟨⟨x0, x1⟩, ⟨r0, r1⟩, f0, f1⟩ := HX.out _ HBi.out
  go_upto_region 2 with (go_at_call 110; refine (HF.out _ (HCT.out _ HBi.out)).mono ?_; rintro e w3 ⟨rfl, hb⟩; have HB3 := Lib.hid (HBi.out.trans (hb.mono HBi.out.size)); clear hb; clear x0 x1 r0 r1 f0 f1; obtain ⟨⟨x0, x1⟩, ⟨r0, r1⟩, f0, f1⟩ := HX.out _ HB3.out)
  go_wp2_with (go_at_call 111; refine (HSE.out _ _ (HRA.out _ HB3.out)).mono ?_; rintro e w4 ⟨v7, rfl, hR7, hb⟩; have HQ := Lib.hid hR7; obtain ⟨A7, c7, rfl, h7, C7⟩ := hR7; have HB4 := Lib.hid (HB3.out.trans (hb.mono HB3.out.size)); clear hb h7 C7; clear x0 x1 r0 r1 f0 f1; obtain ⟨⟨x0, x1⟩, ⟨r0, r1⟩, f0, f1⟩ := HX.out _ HB4.out)
  have e3 := (HB4.out.block _ (blk_lt HR2.out)).trans HR2.out
  have hT := res_cells (.slice A7 ss.length c7) (.int .i64 last) e3
  have hR9 := RAt.but HQ.out (but_two (u0 := .slice A7 ss.length c7) (u1 := .int .i64 last) e3 (by simp) (by simp))
  have hB9 : Below w.heap.size w ((w4.setCell ⟨b + 1, 0, none⟩ (.slice A7 ss.length c7)).setCell ⟨b + 1, 1, none⟩ (.int .i64 last)) := ((HB2.out.trans (HB4.out.mono HB2.out.size)).setCell (p := ⟨b + 1, 0, none⟩) (by rw [HW0.out]; exact Nat.le_succ b) (.slice A7 ss.length c7)).setCell (p := ⟨b + 1, 1, none⟩) (by rw [HW0.out]; exact Nat.le_succ b) (.int .i64 last)
  generalize (w4.setCell ⟨b + 1, 0, none⟩ (.slice A7 ss.length c7)).setCell ⟨b + 1, 1, none⟩ (.int .i64 last) = w9' at hT hB9 hR9 ⊢
  obtain ⟨t0, t1⟩ := hT
  refine bodyPost_ret (v := .tuple #[.agg #[.slice A7 ss.length c7, .int .i64 last], .int .i64 se]) (by simp [results, Tryz.results61, go_sem, t0, t1, hu30]) rfl ⟨.agg #[.slice A7 ss.length c7, .int .i64 last], rfl, hR9, hB9⟩
 ·
  have b0 : (fe == 0) = false := beq_eq_false_iff_ne.2 h0
  rw [if_neg h0]
  by_cases h5 : fe = 5
  ·
   subst h5
   rw [if_neg (by simp)]
   clear h0 b0 HSE
   by_cases he : e = 0
   ·
    subst he
    rw [if_neg (by simp)]
    by_cases hn : n = 0
    ·
     subst hn
     rw [if_neg (by simp)]
     have hmk := HMK.out
     rw [if_neg (by simp)] at hmk
     cases hmk
     clear HMK HIN
     go_enter Tryz.func61, Tryz.ntmps61
     go_upto_region 1 with (fail)
     generalize (w.alloc (.cells #[.slice A L.length c, .int .i64 last] 30)).alloc (.cells #[.slice none 0 0, .int .i64 0] 30) = w2 at HK ⊢
     have HR1 := Lib.hid HK.out.1
     have HR2 := Lib.hid HK.out.2.1
     have HB2 := Lib.hid HK.out.2.2
     clear HK
     generalize hb0 : w.heap.size = b at HR1 HR2 ⊢
     have HW0 := Lib.hid hb0
     clear hb0
     have HX := Lib.hid (fun (W : World) (hb : Below w2.heap.size w2 W) => show (W.cell? ⟨b, 0, none⟩ = some (.slice A L.length c) ∧ W.cell? ⟨b, 1, none⟩ = some (.int .i64 last)) ∧ (W.cell? ⟨b + 1, 0, none⟩ = some (.slice none 0 0) ∧ W.cell? ⟨b + 1, 1, none⟩ = some (.int .i64 0)) ∧ (W.frozen? ⟨b + 1, 0, none⟩ = false ∧ W.frozen? ⟨b + 1, 1, none⟩ = false) by
      have e1 := (hb.block _ (blk_lt HR1.out)).trans HR1.out
      have e2 := (hb.block _ (blk_lt HR2.out)).trans HR2.out
      exact ⟨⟨by rw [blk_cell e1]; rfl, by rw [blk_cell e1]; rfl⟩, ⟨by rw [blk_cell e2]; rfl, by rw [blk_cell e2]; rfl⟩, blk_frozen e2 0, blk_frozen e2 1⟩)
     have HCT := Lib.hid (fun (W : World) (hb : Below w2.heap.size w2 W) => Kd.C_below HC.out (HB2.out.trans (hb.mono HB2.out.size)))
     have HRA := Lib.hid (fun (W : World) (hb : Below w2.heap.size w2 W) => show RAt W (.agg #[.slice A L.length c, .int .i64 last]) L last from ⟨A, c, rfl, HLE.out, HCT.out W hb⟩)
     have HBi := Lib.hid (Below.refl w2.heap.size w2)
     obtain ⟨⟨x0, x1⟩, ⟨r0, r1⟩, f0, f1⟩ := HX.out _ HBi.out
     go_upto_region 2 with (go_at_call 110; refine (HF.out _ (HCT.out _ HBi.out)).mono ?_; rintro e w3 ⟨rfl, hb⟩; have HB3 := Lib.hid (HBi.out.trans (hb.mono HBi.out.size)); clear hb; clear x0 x1 r0 r1 f0 f1; obtain ⟨⟨x0, x1⟩, ⟨r0, r1⟩, f0, f1⟩ := HX.out _ HB3.out)
     go_upto_region 7 with (go_at_call 107; refine (HSP.out _ _ (HRA.out _ HB3.out)).mono ?_; rintro e w4 ⟨rfl, hb⟩; have HB4 := Lib.hid (HB3.out.trans (hb.mono HB3.out.size)); clear hb; clear x0 x1 r0 r1 f0 f1; obtain ⟨⟨x0, x1⟩, ⟨r0, r1⟩, f0, f1⟩ := HX.out _ HB4.out)
     go_upto_region 11 with (go_at_call 105; refine (HI.out _ (HCT.out _ HB4.out)).mono ?_; rintro e w5 ⟨rfl, hb⟩; have HB5 := Lib.hid (HB4.out.trans (hb.mono HB4.out.size)); clear hb; clear x0 x1 r0 r1 f0 f1; obtain ⟨⟨x0, x1⟩, ⟨r0, r1⟩, f0, f1⟩ := HX.out _ HB5.out)
     go_wp2_with (go_at_call 58; refine (HPU.out _ _ (HRA.out _ HB5.out)).mono ?_; rintro e w6 ⟨v7, rfl, hR7, hb⟩; have HQ := Lib.hid hR7; obtain ⟨A7, c7, rfl, h7, C7⟩ := hR7; have HB6 := Lib.hid (HB5.out.trans (hb.mono HB5.out.size)); clear hb h7 C7; clear x0 x1 r0 r1 f0 f1; obtain ⟨⟨x0, x1⟩, ⟨r0, r1⟩, f0, f1⟩ := HX.out _ HB6.out)
     have e3 := (HB6.out.block _ (blk_lt HR2.out)).trans HR2.out
     have hT := res_cells (.slice A7 pl.length c7) (.int .i64 pn) e3
     have hR9 := RAt.but HQ.out (but_two (u0 := .slice A7 pl.length c7) (u1 := .int .i64 pn) e3 (by simp) (by simp))
     have hB9 : Below w.heap.size w ((w6.setCell ⟨b + 1, 0, none⟩ (.slice A7 pl.length c7)).setCell ⟨b + 1, 1, none⟩ (.int .i64 pn)) := ((HB2.out.trans (HB6.out.mono HB2.out.size)).setCell (p := ⟨b + 1, 0, none⟩) (by rw [HW0.out]; exact Nat.le_succ b) (.slice A7 pl.length c7)).setCell (p := ⟨b + 1, 1, none⟩) (by rw [HW0.out]; exact Nat.le_succ b) (.int .i64 pn)
     generalize (w6.setCell ⟨b + 1, 0, none⟩ (.slice A7 pl.length c7)).setCell ⟨b + 1, 1, none⟩ (.int .i64 pn) = w9' at hT hB9 hR9 ⊢
     obtain ⟨t0, t1⟩ := hT
     refine bodyPost_ret (v := .tuple #[.agg #[.slice A7 pl.length c7, .int .i64 pn], .int .i64 pe]) (by simp [results, Tryz.results61, go_sem, t0, t1, hu30]) rfl ⟨.agg #[.slice A7 pl.length c7, .int .i64 pn], rfl, hR9, hB9⟩
    ·
     have d1 : (0 : Int) < n := by have := HIN.out; omega
     rw [if_pos hn]
     clear HMK HIN HPU hn
     go_enter Tryz.func61, Tryz.ntmps61
     go_upto_region 1 with (fail)
     generalize (w.alloc (.cells #[.slice A L.length c, .int .i64 last] 30)).alloc (.cells #[.slice none 0 0, .int .i64 0] 30) = w2 at HK ⊢
     have HR1 := Lib.hid HK.out.1
     have HR2 := Lib.hid HK.out.2.1
     have HB2 := Lib.hid HK.out.2.2
     clear HK
     generalize hb0 : w.heap.size = b at HR1 HR2 ⊢
     have HW0 := Lib.hid hb0
     clear hb0
     have HX := Lib.hid (fun (W : World) (hb : Below w2.heap.size w2 W) => show (W.cell? ⟨b, 0, none⟩ = some (.slice A L.length c) ∧ W.cell? ⟨b, 1, none⟩ = some (.int .i64 last)) ∧ (W.cell? ⟨b + 1, 0, none⟩ = some (.slice none 0 0) ∧ W.cell? ⟨b + 1, 1, none⟩ = some (.int .i64 0)) ∧ (W.frozen? ⟨b + 1, 0, none⟩ = false ∧ W.frozen? ⟨b + 1, 1, none⟩ = false) by
      have e1 := (hb.block _ (blk_lt HR1.out)).trans HR1.out
      have e2 := (hb.block _ (blk_lt HR2.out)).trans HR2.out
      exact ⟨⟨by rw [blk_cell e1]; rfl, by rw [blk_cell e1]; rfl⟩, ⟨by rw [blk_cell e2]; rfl, by rw [blk_cell e2]; rfl⟩, blk_frozen e2 0, blk_frozen e2 1⟩)
     have HCT := Lib.hid (fun (W : World) (hb : Below w2.heap.size w2 W) => Kd.C_below HC.out (HB2.out.trans (hb.mono HB2.out.size)))
     have HRA := Lib.hid (fun (W : World) (hb : Below w2.heap.size w2 W) => show RAt W (.agg #[.slice A L.length c, .int .i64 last]) L last from ⟨A, c, rfl, HLE.out, HCT.out W hb⟩)
     have HBi := Lib.hid (Below.refl w2.heap.size w2)
     obtain ⟨⟨x0, x1⟩, ⟨r0, r1⟩, f0, f1⟩ := HX.out _ HBi.out
     go_upto_region 2 with (go_at_call 110; refine (HF.out _ (HCT.out _ HBi.out)).mono ?_; rintro e w3 ⟨rfl, hb⟩; have HB3 := Lib.hid (HBi.out.trans (hb.mono HBi.out.size)); clear hb; clear x0 x1 r0 r1 f0 f1; obtain ⟨⟨x0, x1⟩, ⟨r0, r1⟩, f0, f1⟩ := HX.out _ HB3.out)
     go_upto_region 7 with (go_at_call 107; refine (HSP.out _ _ (HRA.out _ HB3.out)).mono ?_; rintro e w4 ⟨rfl, hb⟩; have HB4 := Lib.hid (HB3.out.trans (hb.mono HB3.out.size)); clear hb; clear x0 x1 r0 r1 f0 f1; obtain ⟨⟨x0, x1⟩, ⟨r0, r1⟩, f0, f1⟩ := HX.out _ HB4.out)
     go_wp2_with (go_at_call 105; refine (HI.out _ (HCT.out _ HB4.out)).mono ?_; rintro e w5 ⟨rfl, hb⟩; have HB5 := Lib.hid (HB4.out.trans (hb.mono HB4.out.size)); clear hb; clear x0 x1 r0 r1 f0 f1; obtain ⟨⟨x0, x1⟩, ⟨r0, r1⟩, f0, f1⟩ := HX.out _ HB5.out)
     have e3 := (HB5.out.block _ (blk_lt HR2.out)).trans HR2.out
     have hT := res_cells (.slice A L.length c) (.int .i64 last) e3
     have hR9 := RAt.but (HRA.out _ HB5.out) (but_two (u0 := .slice A L.length c) (u1 := .int .i64 last) e3 (by simp) (by simp))
     have hB9 : Below w.heap.size w ((w5.setCell ⟨b + 1, 0, none⟩ (.slice A L.length c)).setCell ⟨b + 1, 1, none⟩ (.int .i64 last)) := ((HB2.out.trans (HB5.out.mono HB2.out.size)).setCell (p := ⟨b + 1, 0, none⟩) (by rw [HW0.out]; exact Nat.le_succ b) (.slice A L.length c)).setCell (p := ⟨b + 1, 1, none⟩) (by rw [HW0.out]; exact Nat.le_succ b) (.int .i64 last)
     generalize (w5.setCell ⟨b + 1, 0, none⟩ (.slice A L.length c)).setCell ⟨b + 1, 1, none⟩ (.int .i64 last) = w9' at hT hB9 hR9 ⊢
     obtain ⟨t0, t1⟩ := hT
     refine bodyPost_ret (v := .tuple #[.agg #[.slice A L.length c, .int .i64 last], .int .i64 5]) (by simp [results, Tryz.results61, go_sem, t0, t1, hu30]) rfl ⟨.agg #[.slice A L.length c, .int .i64 last], rfl, hR9, hB9⟩
   ·
    rw [if_pos he]
    have b1 : (e != 0) = true := bne_iff_ne.2 he
    clear he HMK HIN HPU HI
    go_enter Tryz.func61, Tryz.ntmps61
    go_upto_region 1 with (fail)
    generalize (w.alloc (.cells #[.slice A L.length c, .int .i64 last] 30)).alloc (.cells #[.slice none 0 0, .int .i64 0] 30) = w2 at HK ⊢
    have HR1 := Lib.hid HK.out.1
    have HR2 := Lib.hid HK.out.2.1
    have HB2 := Lib.hid HK.out.2.2
    clear HK
    generalize hb0 : w.heap.size = b at HR1 HR2 ⊢
    have HW0 := Lib.hid hb0
    clear hb0
    have HX := Lib.hid (fun (W : World) (hb : Below w2.heap.size w2 W) => show (W.cell? ⟨b, 0, none⟩ = some (.slice A L.length c) ∧ W.cell? ⟨b, 1, none⟩ = some (.int .i64 last)) ∧ (W.cell? ⟨b + 1, 0, none⟩ = some (.slice none 0 0) ∧ W.cell? ⟨b + 1, 1, none⟩ = some (.int .i64 0)) ∧ (W.frozen? ⟨b + 1, 0, none⟩ = false ∧ W.frozen? ⟨b + 1, 1, none⟩ = false) by
     have e1 := (hb.block _ (blk_lt HR1.out)).trans HR1.out
     have e2 := (hb.block _ (blk_lt HR2.out)).trans HR2.out
     exact ⟨⟨by rw [blk_cell e1]; rfl, by rw [blk_cell e1]; rfl⟩, ⟨by rw [blk_cell e2]; rfl, by rw [blk_cell e2]; rfl⟩, blk_frozen e2 0, blk_frozen e2 1⟩)
    have HCT := Lib.hid (fun (W : World) (hb : Below w2.heap.size w2 W) => Kd.C_below HC.out (HB2.out.trans (hb.mono HB2.out.size)))
    have HRA := Lib.hid (fun (W : World) (hb : Below w2.heap.size w2 W) => show RAt W (.agg #[.slice A L.length c, .int .i64 last]) L last from ⟨A, c, rfl, HLE.out, HCT.out W hb⟩)
    have HBi := Lib.hid (Below.refl w2.heap.size w2)
    obtain ⟨⟨x0, x1⟩, ⟨r0, r1⟩, f0, f1⟩ := HX.out _ HBi.out
    go_upto_region 2 with (go_at_call 110; refine (HF.out _ (HCT.out _ HBi.out)).mono ?_; rintro e w3 ⟨rfl, hb⟩; have HB3 := Lib.hid (HBi.out.trans (hb.mono HBi.out.size)); clear hb; clear x0 x1 r0 r1 f0 f1; obtain ⟨⟨x0, x1⟩, ⟨r0, r1⟩, f0, f1⟩ := HX.out _ HB3.out)
    go_wp2_with (go_at_call 107; refine (HSP.out _ _ (HRA.out _ HB3.out)).mono ?_; rintro e w4 ⟨rfl, hb⟩; have HB4 := Lib.hid (HB3.out.trans (hb.mono HB3.out.size)); clear hb; clear x0 x1 r0 r1 f0 f1; obtain ⟨⟨x0, x1⟩, ⟨r0, r1⟩, f0, f1⟩ := HX.out _ HB4.out)
    have e3 := (HB4.out.block _ (blk_lt HR2.out)).trans HR2.out
    have hT := res_cells (.slice A L.length c) (.int .i64 last) e3
    have hR9 := RAt.but (HRA.out _ HB4.out) (but_two (u0 := .slice A L.length c) (u1 := .int .i64 last) e3 (by simp) (by simp))
    have hB9 : Below w.heap.size w ((w4.setCell ⟨b + 1, 0, none⟩ (.slice A L.length c)).setCell ⟨b + 1, 1, none⟩ (.int .i64 last)) := ((HB2.out.trans (HB4.out.mono HB2.out.size)).setCell (p := ⟨b + 1, 0, none⟩) (by rw [HW0.out]; exact Nat.le_succ b) (.slice A L.length c)).setCell (p := ⟨b + 1, 1, none⟩) (by rw [HW0.out]; exact Nat.le_succ b) (.int .i64 last)
    generalize (w4.setCell ⟨b + 1, 0, none⟩ (.slice A L.length c)).setCell ⟨b + 1, 1, none⟩ (.int .i64 last) = w9' at hT hB9 hR9 ⊢
    obtain ⟨t0, t1⟩ := hT
    refine bodyPost_ret (v := .tuple #[.agg #[.slice A L.length c, .int .i64 last], .int .i64 e]) (by simp [results, Tryz.results61, go_sem, t0, t1, hu30]) rfl ⟨.agg #[.slice A L.length c, .int .i64 last], rfl, hR9, hB9⟩
  ·
   rw [if_pos h5]
   have b5 : (fe != 5) = true := bne_iff_ne.2 h5
   clear h0 h5 HSP HI HPU HMK HIN HSE
   go_enter Tryz.func61, Tryz.ntmps61
   go_upto_region 1 with (fail)
   generalize (w.alloc (.cells #[.slice A L.length c, .int .i64 last] 30)).alloc (.cells #[.slice none 0 0, .int .i64 0] 30) = w2 at HK ⊢
   have HR1 := Lib.hid HK.out.1
   have HR2 := Lib.hid HK.out.2.1
   have HB2 := Lib.hid HK.out.2.2
   clear HK
   generalize hb0 : w.heap.size = b at HR1 HR2 ⊢
   have HW0 := Lib.hid hb0
   clear hb0
   have HX := Lib.hid (fun (W : World) (hb : Below w2.heap.size w2 W) => show (W.cell? ⟨b, 0, none⟩ = some (.slice A L.length c) ∧ W.cell? ⟨b, 1, none⟩ = some (.int .i64 last)) ∧ (W.cell? ⟨b + 1, 0, none⟩ = some (.slice none 0 0) ∧ W.cell? ⟨b + 1, 1, none⟩ = some (.int .i64 0)) ∧ (W.frozen? ⟨b + 1, 0, none⟩ = false ∧ W.frozen? ⟨b + 1, 1, none⟩ = false) by
    have e1 := (hb.block _ (blk_lt HR1.out)).trans HR1.out
    have e2 := (hb.block _ (blk_lt HR2.out)).trans HR2.out
    exact ⟨⟨by rw [blk_cell e1]; rfl, by rw [blk_cell e1]; rfl⟩, ⟨by rw [blk_cell e2]; rfl, by rw [blk_cell e2]; rfl⟩, blk_frozen e2 0, blk_frozen e2 1⟩)
   have HCT := Lib.hid (fun (W : World) (hb : Below w2.heap.size w2 W) => Kd.C_below HC.out (HB2.out.trans (hb.mono HB2.out.size)))
   have HRA := Lib.hid (fun (W : World) (hb : Below w2.heap.size w2 W) => show RAt W (.agg #[.slice A L.length c, .int .i64 last]) L last from ⟨A, c, rfl, HLE.out, HCT.out W hb⟩)
   have HBi := Lib.hid (Below.refl w2.heap.size w2)
   obtain ⟨⟨x0, x1⟩, ⟨r0, r1⟩, f0, f1⟩ := HX.out _ HBi.out
   go_wp2_with (go_at_call 110; refine (HF.out _ (HCT.out _ HBi.out)).mono ?_; rintro e w3 ⟨rfl, hb⟩; have HB3 := Lib.hid (HBi.out.trans (hb.mono HBi.out.size)); clear hb; clear x0 x1 r0 r1 f0 f1; obtain ⟨⟨x0, x1⟩, ⟨r0, r1⟩, f0, f1⟩ := HX.out _ HB3.out)
   have e3 := (HB3.out.block _ (blk_lt HR2.out)).trans HR2.out
   have hT := res_cells (.slice A L.length c) (.int .i64 last) e3
   have hR9 := RAt.but (HRA.out _ HB3.out) (but_two (u0 := .slice A L.length c) (u1 := .int .i64 last) e3 (by simp) (by simp))
   have hB9 : Below w.heap.size w ((w3.setCell ⟨b + 1, 0, none⟩ (.slice A L.length c)).setCell ⟨b + 1, 1, none⟩ (.int .i64 last)) := ((HB2.out.trans (HB3.out.mono HB2.out.size)).setCell (p := ⟨b + 1, 0, none⟩) (by rw [HW0.out]; exact Nat.le_succ b) (.slice A L.length c)).setCell (p := ⟨b + 1, 1, none⟩) (by rw [HW0.out]; exact Nat.le_succ b) (.int .i64 last)
   generalize (w3.setCell ⟨b + 1, 0, none⟩ (.slice A L.length c)).setCell ⟨b + 1, 1, none⟩ (.int .i64 last) = w9' at hT hB9 hR9 ⊢
   obtain ⟨t0, t1⟩ := hT
   refine bodyPost_ret (v := .tuple #[.agg #[.slice A L.length c, .int .i64 last], .int .i64 fe]) (by simp [results, Tryz.results61, go_sem, t0, t1, hu30]) rfl ⟨.agg #[.slice A L.length c, .int .i64 last], rfl, hR9, hB9⟩
end Go.Proofs.YtnpeeiikdcankaaGreat.Tw

namespace Go.Proofs.YtnpeeiikdcankaaGreat.Tw
open Go Go.RowKit Go.Shelf Go.Proofs Go.Proofs.YtnpeeiikdcankaaGreat Go.Proofs.YtnpeeiikdcankaaGreatW.PrintWords Go.Proofs.YtnpeeiikdcankaaGreat.Ext Go.Proofs.YtnpeeiikdcankaaGreat.X Go.Proofs.YtnpeeiikdcankaaGreat.Pu
theorem findV_wf {L : List RN} {last : Int} (hG : GoodL L last) (hM : GoodM L) (hla : last ≤ 1000000) (lst : Bool) (s : ByteArray) : wf (findV L last lst s).1 := by
 obtain ⟨k, hk⟩ := findV_spec hG hM lst s
 exact find_wf hG hM hla hk
set_option maxHeartbeats 4000000 in
set_option maxRecDepth 1000000 in
theorem write9_calls (p B : Nat) (L : List RN) (last : Int) (s data : ByteArray) (w : World) (h : TreeB w p B (trOf L last)) (hG : GoodL L last) (hM : GoodM L) (hla : last < 1000000) :
  Calls Tryz.prog 52 #[pT p, .string s, .string data] w (Left p B w (wrP L last s data)) := by
 have hO := trOK hG (by omega)
 obtain ⟨k1, hk1⟩ := findV_spec hG hM true s
 have hwF := findV_wf hG hM (by omega) true s
 obtain ⟨k, hk⟩ := spotV_spec hG hM s
 obtain ⟨hw, hz⟩ := spotF_wf hO hk
 have HS := Lib.hid (fun W h => pstat_calls p (trOf L last) s k1 _ W h hO hwF hk1)
 have HST : Hid (stT (trOf L last) (findV L last true s) = if (findV L last true s).2 = 0 then ((findV L last true s).1, ((trOf L last).node (findV L last true s).1).kind, sizeT (trOf L last) (findV L last true s).1) else (0, 0, 0)) := Lib.hid rfl
 have HP := Lib.hid (fun W h => spot_calls p (trOf L last) s k _ W h hO hk)
 have HL := Lib.hid (fun W h => list_calls p (trOf L last) (spotV L last s).1 W h hw (hO.small.node _))
 have HE := Lib.hid (fun A c W h hc => find_calls A c ((trOf L last).node (spotV L last s).1).ents (spotV L last s).2.1 W h hc (hO.small.node _) (node_rt hO _))
 rw [node_of hG (spotV L last s).1] at HE HL
 simp only [find_ents hG (spotV L last s).1 (spotV L last s).2.1] at HE
 simp only [] at HL
 have HU := Lib.hid (fun W h => tput_calls p B L last (spotV L last s).1 (spotV L last s).2.1 2 data W h hG hw (by omega) hla)
 have HSET := Lib.hid (fun W h => tset_calls p B L last (findV L last true s).1 data W h hG hM hwF)
 have hin := inR_le hG (spotV L last s).1 (spotV L last s).2.1
 have HT := Lib.hid h
 unfold wrP
 generalize hst : stT (trOf L last) (findV L last true s) = st at *
 generalize sizeT (trOf L last) (findV L last true s).1 = sz at *
 generalize (trOf L last).node (findV L last true s).1 = nd at *
 generalize setRE L (findV L last true s).1 data = se at *
 generalize hsl : setS L (findV L last true s).1 data = sl at *
 generalize putA L last (spotV L last s).1 (spotV L last s).2.1 2 data = pa at *
 generalize putRE L (spotV L last s).1 (spotV L last s).2.1 2 data = pe at *
 generalize hpl : putL L last (spotV L last s).1 (spotV L last s).2.1 2 data = pl at *
 generalize hpn : putN L last (spotV L last s).1 (spotV L last s).2.1 2 data = pn at *
 generalize inR L (spotV L last s).1 (spotV L last s).2.1 = n at *
 generalize entsOf L (spotV L last s).1 = es at *
 generalize spotV L last s = R at *
 generalize findV L last true s = F at *
 obtain ⟨d, z, e⟩ := R
 obtain ⟨fn, fe⟩ := F
 obtain ⟨s0, s1, s2⟩ := st
 obtain ⟨nk, nu, ndd, nes⟩ := nd
 simp only [] at *
 clear h hO hG hM hla hk hw hz hk1 hwF hst hsl hpl hpn
 have hu := Tryz.underlying143
 by_cases hfe : fe = 0
 ·
  subst hfe
  rw [if_pos rfl]
  have hst := HST.out
  rw [if_pos rfl] at hst
  have q0 : fn = s0 := (congrArg Prod.fst hst).symm
  have q1 : nk = s1 := (congrArg (fun x => x.2.1) hst).symm
  have q2 : sz = s2 := (congrArg (fun x => x.2.2) hst).symm
  subst q0 q1 q2
  clear hst HST hin HP HL HE HU
  go_enter Tryz.func52, Tryz.ntmps52
  go_wp2_with (first | (go_at_call 91; refine (HS.out _ HT.out.at_).mono ?_; rintro e w2 ⟨rfl, hb2⟩; have HB2 := Lib.hid (hb2.alloc hb2.size (.cells #[.int .i64 fn, .int .i64 nk, .int .i64 sz] 143)); have HT2 := Lib.hid (HT.out.below HB2.out); clear hb2) | (go_at_call 92; refine (HSET.out _ HT2.out).mono ?_; rintro e w6 ⟨rfl, hT6, hf6⟩))
  go_ret
  exact ⟨rfl, hT6, (Frm.ofBelow HB2.out).trans hf6⟩
 ·
  rw [if_neg hfe]
  have hst := HST.out
  rw [if_neg hfe] at hst
  cases hst
  have b1 : (fe == 0) = false := beq_eq_false_iff_ne.2 hfe
  clear HST HSET
  by_cases hf5 : fe = 5
  ·
   subst hf5
   rw [if_neg (by simp)]
   clear hfe
   by_cases he : e = 0
   ·
    subst he
    rw [if_neg (by simp)]
    by_cases hn : n = 0
    ·
     subst hn
     rw [if_neg (by simp)]
     rw [show decide ((0 : Int) < 0) = false from rfl] at HE
     clear hin
     go_enter Tryz.func52, Tryz.ntmps52
     go_wp2_with (first | (go_at_call 91; refine (HS.out _ HT.out.at_).mono ?_; rintro e w2 ⟨rfl, hb2⟩; have HB2 := Lib.hid (hb2.alloc hb2.size (.cells #[.int .i64 0, .int .i64 0, .int .i64 0] 143)); have HT2 := Lib.hid (HT.out.below HB2.out); clear hb2) | (go_at_call 93; refine (HP.out _ HT2.out.at_).mono ?_; rintro e w3 ⟨rfl, hb3⟩; have HB3 := Lib.hid (HB2.out.trans (hb3.mono HB2.out.size)); have HT3 := Lib.hid (HT.out.below HB3.out); clear hb3) | (go_at_call 74; refine (HL.out _ HT3.out.at_).mono ?_; rintro e w4 ⟨v, rfl, hv, hb4⟩; obtain ⟨A4, c4, rfl, hl4, hC4⟩ := Kd.R_reads hv; have HB4 := Lib.hid (HB3.out.trans (hb4.mono HB3.out.size)); have HC4 := Lib.hid hC4; clear hv hb4 hC4) | (go_at_call 94; refine (HE.out _ _ _ HC4.out hl4).mono ?_; rintro e w5 ⟨rfl, hb5⟩; have HB5 := Lib.hid (HB4.out.trans (hb5.mono HB4.out.size)); clear hb5) | (go_at_call 56; refine (HU.out _ (HT.out.below HB5.out)).mono ?_; rintro e w6 ⟨rfl, hT6, hf6⟩))
     go_ret
     exact ⟨rfl, hT6, (Frm.ofBelow HB5.out).trans hf6⟩
    ·
     rw [if_pos hn]
     rw [decide_eq_true (show 0 < n by omega)] at HE
     clear hin hn HU
     go_enter Tryz.func52, Tryz.ntmps52
     go_wp2_with (first | (go_at_call 91; refine (HS.out _ HT.out.at_).mono ?_; rintro e w2 ⟨rfl, hb2⟩; have HB2 := Lib.hid (hb2.alloc hb2.size (.cells #[.int .i64 0, .int .i64 0, .int .i64 0] 143)); have HT2 := Lib.hid (HT.out.below HB2.out); clear hb2) | (go_at_call 93; refine (HP.out _ HT2.out.at_).mono ?_; rintro e w3 ⟨rfl, hb3⟩; have HB3 := Lib.hid (HB2.out.trans (hb3.mono HB2.out.size)); have HT3 := Lib.hid (HT.out.below HB3.out); clear hb3) | (go_at_call 74; refine (HL.out _ HT3.out.at_).mono ?_; rintro e w4 ⟨v, rfl, hv, hb4⟩; obtain ⟨A4, c4, rfl, hl4, hC4⟩ := Kd.R_reads hv; have HB4 := Lib.hid (HB3.out.trans (hb4.mono HB3.out.size)); have HC4 := Lib.hid hC4; clear hv hb4 hC4) | (go_at_call 94; refine (HE.out _ _ _ HC4.out hl4).mono ?_; rintro e w5 ⟨rfl, hb5⟩; have HB5 := Lib.hid (HB4.out.trans (hb5.mono HB4.out.size)); clear hb5))
     go_ret
     exact left_err HT.out HB5.out
   ·
    rw [if_pos he]
    have b3 : (e != 0) = true := bne_iff_ne.2 he
    clear he hin HL HE HU
    go_enter Tryz.func52, Tryz.ntmps52
    go_wp2_with (first | (go_at_call 91; refine (HS.out _ HT.out.at_).mono ?_; rintro e w2 ⟨rfl, hb2⟩; have HB2 := Lib.hid (hb2.alloc hb2.size (.cells #[.int .i64 0, .int .i64 0, .int .i64 0] 143)); have HT2 := Lib.hid (HT.out.below HB2.out); clear hb2) | (go_at_call 93; refine (HP.out _ HT2.out.at_).mono ?_; rintro e w3 ⟨rfl, hb3⟩; have HB3 := Lib.hid (HB2.out.trans (hb3.mono HB2.out.size)); have HT3 := Lib.hid (HT.out.below HB3.out); clear hb3))
    go_ret
    exact left_err HT.out HB3.out
  ·
   rw [if_pos hf5]
   have b2 : (fe != 5) = true := bne_iff_ne.2 hf5
   clear hfe hf5 hin HP HL HE HU
   go_enter Tryz.func52, Tryz.ntmps52
   go_wp2_with (go_at_call 91; refine (HS.out _ HT.out.at_).mono ?_; rintro e w2 ⟨rfl, hb2⟩; have HB2 := Lib.hid (hb2.alloc hb2.size (.cells #[.int .i64 0, .int .i64 0, .int .i64 0] 143)); have HT2 := Lib.hid (HT.out.below HB2.out); clear hb2)
   go_ret
   exact left_err HT.out HB2.out
set_option maxHeartbeats 4000000 in
set_option maxRecDepth 1000000 in
theorem do9_calls (p B : Nat) (L : List RN) (last k : Int) (a b : ByteArray) (w : World) (h : TreeB w p B (trOf L last)) (hG : GoodL L last) (hM : GoodM L) (hla : last < 1000000) :
  Calls Tryz.prog 16 #[pT p, .agg #[.int .i64 k, .string a, .string b]] w (Left p B w (doP L last k a b)) := by
 have hB0 := (Below.refl w.heap.size w).alloc (Nat.le_refl _) (.cells #[.int .i64 k, .string a, .string b] 36)
 have HB0 := Lib.hid hB0
 have hT0 := h.below hB0
 have HT := Lib.hid h
 have HS1 := Lib.hid (mkdir9_calls p B L last a _ hT0 hG hM hla)
 have HS2 := Lib.hid (rmdir9_calls p B L last a _ hT0 hG hM hla)
 have HS3 := Lib.hid (symlink9_calls p B L last b a _ hT0 hG hM hla)
 have HS4 := Lib.hid (unlink9_calls p B L last a _ hT0 hG hM hla)
 have HS5 := Lib.hid (rename9_calls p B L last a b _ hT0 hG hM hla)
 have HS6 := Lib.hid (write9_calls p B L last a b _ hT0 hG hM hla)
 unfold doP
 generalize mkP L last a 1 ⟨#[]⟩ = o1 at *
 generalize mkP L last a 3 b = o3 at *
 generalize cutP L last a true = o2 at *
 generalize cutP L last a false = o4 at *
 generalize renP L last a b = o5 at *
 generalize wrP L last a b = o6 at *
 clear h hG hM hla hT0 hB0
 by_cases k1 : k = 1
 ·
  subst k1
  rw [if_pos rfl]
  clear HS2 HS3 HS4 HS5 HS6
  go_enter Tryz.func16, Tryz.ntmps16
  go_wp2_with (go_at_call 62; refine HS1.out.mono ?_; rintro e w2 ⟨rfl, hT2, hF2⟩)
  go_ret
  exact ⟨rfl, hT2, (Frm.ofBelow HB0.out).trans hF2⟩
 ·
  have b1 : (k == 1) = false := beq_eq_false_iff_ne.2 k1
  by_cases k2 : k = 2
  ·
   subst k2
   rw [if_neg (by decide), if_pos rfl]
   clear HS1 HS3 HS4 HS5 HS6
   go_enter Tryz.func16, Tryz.ntmps16
   go_wp2_with (go_at_call 63; refine HS2.out.mono ?_; rintro e w2 ⟨rfl, hT2, hF2⟩)
   go_ret
   exact ⟨rfl, hT2, (Frm.ofBelow HB0.out).trans hF2⟩
  ·
   have b2 : (k == 2) = false := beq_eq_false_iff_ne.2 k2
   by_cases k3 : k = 3
   ·
    subst k3
    rw [if_neg (by decide), if_neg (by decide), if_pos rfl]
    clear HS1 HS2 HS4 HS5 HS6
    go_enter Tryz.func16, Tryz.ntmps16
    go_wp2_with (go_at_call 64; refine HS3.out.mono ?_; rintro e w2 ⟨rfl, hT2, hF2⟩)
    go_ret
    exact ⟨rfl, hT2, (Frm.ofBelow HB0.out).trans hF2⟩
   ·
    have b3 : (k == 3) = false := beq_eq_false_iff_ne.2 k3
    by_cases k4 : k = 4
    ·
     subst k4
     rw [if_neg (by decide), if_neg (by decide), if_neg (by decide), if_pos rfl]
     clear HS1 HS2 HS3 HS5 HS6
     go_enter Tryz.func16, Tryz.ntmps16
     go_wp2_with (go_at_call 65; refine HS4.out.mono ?_; rintro e w2 ⟨rfl, hT2, hF2⟩)
     go_ret
     exact ⟨rfl, hT2, (Frm.ofBelow HB0.out).trans hF2⟩
    ·
     have b4 : (k == 4) = false := beq_eq_false_iff_ne.2 k4
     by_cases k5 : k = 5
     ·
      subst k5
      rw [if_neg (by decide), if_neg (by decide), if_neg (by decide), if_neg (by decide), if_pos rfl]
      clear HS1 HS2 HS3 HS4 HS6
      go_enter Tryz.func16, Tryz.ntmps16
      go_wp2_with (go_at_call 66; refine HS5.out.mono ?_; rintro e w2 ⟨rfl, hT2, hF2⟩)
      go_ret
      exact ⟨rfl, hT2, (Frm.ofBelow HB0.out).trans hF2⟩
     ·
      have b5 : (k == 5) = false := beq_eq_false_iff_ne.2 k5
      by_cases k6 : k = 6
      ·
       subst k6
       rw [if_neg (by decide), if_neg (by decide), if_neg (by decide), if_neg (by decide), if_neg (by decide), if_pos rfl]
       clear HS1 HS2 HS3 HS4 HS5
       go_enter Tryz.func16, Tryz.ntmps16
       go_wp2_with (go_at_call 52; refine HS6.out.mono ?_; rintro e w2 ⟨rfl, hT2, hF2⟩)
       go_ret
       exact ⟨rfl, hT2, (Frm.ofBelow HB0.out).trans hF2⟩
      ·
       have b6 : (k == 6) = false := beq_eq_false_iff_ne.2 k6
       rw [if_neg k1, if_neg k2, if_neg k3, if_neg k4, if_neg k5, if_neg k6]
       clear HS1 HS2 HS3 HS4 HS5 HS6 k1 k2 k3 k4 k5 k6
       go_enter Tryz.func16, Tryz.ntmps16
       go_wp2
       go_ret
       exact left_err HT.out HB0.out
end Go.Proofs.YtnpeeiikdcankaaGreat.Tw

namespace Go.Proofs.YtnpeeiikdcankaaGreat.Tw
open Go Go.RowKit Go.Shelf Go.Proofs Go.Proofs.YtnpeeiikdcankaaGreat Go.Proofs.YtnpeeiikdcankaaGreatW.PrintWords Go.Proofs.YtnpeeiikdcankaaGreat.Ext Go.Proofs.YtnpeeiikdcankaaGreat.X Go.Proofs.YtnpeeiikdcankaaGreat.Pu
set_option maxHeartbeats 4000000 in
set_option maxRecDepth 1000000 in
theorem rdo9_calls (L : List RN) (last : Int) (v : Value) (k : Int) (a t : ByteArray) (w : World) (h : RAt w v L last) (hG : GoodL L last) (hM : GoodM L) (hla : last < 1000000) :
  Calls Tryz.prog 15 #[v, .agg #[.int .i64 k, .string a, .string t]] w (Done w (doP L last k a t)) := by
 obtain ⟨A, c, rfl, hle, hC⟩ := h
 have hu30 := Tryz.underlying30
 have hu36 := Tryz.underlying36
 obtain ⟨q1, q2, q3, q4, -⟩ := three_blocks w (.cells #[.slice A L.length c, .int .i64 last] 30) (.cells #[.int .i64 k, .string a, .string t] 36) (.cells #[.slice none 0 0, .int .i64 0] 30)
 have HK := Lib.hid (And.intro q1 (And.intro q2 (And.intro q3 q4)))
 have HC := Lib.hid hC
 have HLE := Lib.hid hle
 have HS1 := Lib.hid (fun v W h => rput9_calls L last v a 1 ⟨#[]⟩ W h hG hM hla)
 have HS2 := Lib.hid (fun v W h => rcut9_calls L last v a true W h hG hM)
 have HS3 := Lib.hid (fun v W h => rput9_calls L last v a 3 t W h hG hM hla)
 have HS4 := Lib.hid (fun v W h => rcut9_calls L last v a false W h hG hM)
 have HS5 := Lib.hid (fun v W h => rren9_calls L last v a t W h hG hM)
 have HS6 := Lib.hid (fun v W h => rwrite9_calls L last v a t W h hG hM hla)
 unfold doP
 generalize mkP L last a 1 ⟨#[]⟩ = o1 at *
 generalize mkP L last a 3 t = o3 at *
 generalize cutP L last a true = o2 at *
 generalize cutP L last a false = o4 at *
 generalize renP L last a t = o5 at *
 generalize wrP L last a t = o6 at *
 obtain ⟨L1, n1, g1⟩ := o1
 obtain ⟨L2, n2, g2⟩ := o2
 obtain ⟨L3, n3, g3⟩ := o3
 obtain ⟨L4, n4, g4⟩ := o4
 obtain ⟨L5, n5, g5⟩ := o5
 obtain ⟨L6, n6, g6⟩ := o6
 clear hC hle q1 q2 q3 q4 hG hM hla
 by_cases k1 : k = 1
 ·
  subst k1
  rw [if_pos rfl]
  clear HS2 HS3 HS4 HS5 HS6
  go_enter Tryz.func15, Tryz.ntmps15
  go_upto_region 1 with (fail)
  generalize ((w.alloc (.cells #[.slice A L.length c, .int .i64 last] 30)).alloc (.cells #[.int .i64 1, .string a, .string t] 36)).alloc (.cells #[.slice none 0 0, .int .i64 0] 30) = w2 at HK ⊢
  have HR1 := Lib.hid HK.out.1
  have HT := Lib.hid HK.out.2.1
  have HR2 := Lib.hid HK.out.2.2.1
  have HB2 := Lib.hid HK.out.2.2.2
  clear HK
  generalize hb0 : w.heap.size = b at HR1 HT HR2 ⊢
  have HW0 := Lib.hid hb0
  clear hb0
  have HX := Lib.hid (fun (W : World) (hb : Below w2.heap.size w2 W) => show (W.cell? ⟨b, 0, none⟩ = some (.slice A L.length c) ∧ W.cell? ⟨b, 1, none⟩ = some (.int .i64 last)) ∧ (W.cell? ⟨b + 1 + 1, 0, none⟩ = some (.slice none 0 0) ∧ W.cell? ⟨b + 1 + 1, 1, none⟩ = some (.int .i64 0)) ∧ (W.frozen? ⟨b + 1 + 1, 0, none⟩ = false ∧ W.frozen? ⟨b + 1 + 1, 1, none⟩ = false) by
   have e1 := (hb.block _ (blk_lt HR1.out)).trans HR1.out
   have e2 := (hb.block _ (blk_lt HR2.out)).trans HR2.out
   exact ⟨⟨by rw [blk_cell e1]; rfl, by rw [blk_cell e1]; rfl⟩, ⟨by rw [blk_cell e2]; rfl, by rw [blk_cell e2]; rfl⟩, blk_frozen e2 0, blk_frozen e2 1⟩)
  have HRA := Lib.hid (fun (W : World) (hb : Below w2.heap.size w2 W) => show RAt W (.agg #[.slice A L.length c, .int .i64 last]) L last from ⟨A, c, rfl, HLE.out, Kd.C_below HC.out (HB2.out.trans (hb.mono HB2.out.size))⟩)
  have HBi := Lib.hid (Below.refl w2.heap.size w2)
  obtain ⟨⟨x0, x1⟩, ⟨r0, r1⟩, f0, f1⟩ := HX.out _ HBi.out
  have y0 : w2.cell? ⟨b + 1, 0, none⟩ = some (.int .i64 1) := by rw [blk_cell HT.out]; rfl
  have y1 : w2.cell? ⟨b + 1, 1, none⟩ = some (.string a) := by rw [blk_cell HT.out]; rfl
  have y2 : w2.cell? ⟨b + 1, 2, none⟩ = some (.string t) := by rw [blk_cell HT.out]; rfl
  go_wp2_with (go_at_call 58; refine (HS1.out _ _ (HRA.out _ HBi.out)).mono ?_; rintro e w3 ⟨v7, rfl, hR7, hb⟩; have HQ := Lib.hid hR7; obtain ⟨A7, c7, rfl, h7, C7⟩ := hR7; have HB3 := Lib.hid (HBi.out.trans (hb.mono HBi.out.size)); clear hb h7 C7 y0 y1 y2; clear x0 x1 r0 r1 f0 f1; obtain ⟨⟨x0, x1⟩, ⟨r0, r1⟩, f0, f1⟩ := HX.out _ HB3.out)
  have e3 := (HB3.out.block _ (blk_lt HR2.out)).trans HR2.out
  have hT := res_cells (.slice A7 L1.length c7) (.int .i64 n1) e3
  have hR9 := RAt.but HQ.out (but_two (u0 := .slice A7 L1.length c7) (u1 := .int .i64 n1) e3 (by simp) (by simp))
  have hB9 : Below w.heap.size w ((w3.setCell ⟨b + 1 + 1, 0, none⟩ (.slice A7 L1.length c7)).setCell ⟨b + 1 + 1, 1, none⟩ (.int .i64 n1)) := ((HB2.out.trans (HB3.out.mono HB2.out.size)).setCell (p := ⟨b + 1 + 1, 0, none⟩) (by rw [HW0.out]; exact Nat.le_succ_of_le (Nat.le_succ b)) (.slice A7 L1.length c7)).setCell (p := ⟨b + 1 + 1, 1, none⟩) (by rw [HW0.out]; exact Nat.le_succ_of_le (Nat.le_succ b)) (.int .i64 n1)
  generalize (w3.setCell ⟨b + 1 + 1, 0, none⟩ (.slice A7 L1.length c7)).setCell ⟨b + 1 + 1, 1, none⟩ (.int .i64 n1) = w9' at hT hB9 hR9 ⊢
  obtain ⟨t0, t1⟩ := hT
  refine bodyPost_ret (v := .tuple #[.agg #[.slice A7 L1.length c7, .int .i64 n1], .int .i64 g1]) (by simp [results, Tryz.results15, go_sem, t0, t1, hu30]) rfl ⟨.agg #[.slice A7 L1.length c7, .int .i64 n1], rfl, hR9, hB9⟩
 ·
  have b1 : (k == 1) = false := beq_eq_false_iff_ne.2 k1
  by_cases k2 : k = 2
  ·
   subst k2
   rw [if_neg (by decide), if_pos rfl]
   clear HS1 HS3 HS4 HS5 HS6
   go_enter Tryz.func15, Tryz.ntmps15
   go_upto_region 1 with (fail)
   generalize ((w.alloc (.cells #[.slice A L.length c, .int .i64 last] 30)).alloc (.cells #[.int .i64 2, .string a, .string t] 36)).alloc (.cells #[.slice none 0 0, .int .i64 0] 30) = w2 at HK ⊢
   have HR1 := Lib.hid HK.out.1
   have HT := Lib.hid HK.out.2.1
   have HR2 := Lib.hid HK.out.2.2.1
   have HB2 := Lib.hid HK.out.2.2.2
   clear HK
   generalize hb0 : w.heap.size = b at HR1 HT HR2 ⊢
   have HW0 := Lib.hid hb0
   clear hb0
   have HX := Lib.hid (fun (W : World) (hb : Below w2.heap.size w2 W) => show (W.cell? ⟨b, 0, none⟩ = some (.slice A L.length c) ∧ W.cell? ⟨b, 1, none⟩ = some (.int .i64 last)) ∧ (W.cell? ⟨b + 1 + 1, 0, none⟩ = some (.slice none 0 0) ∧ W.cell? ⟨b + 1 + 1, 1, none⟩ = some (.int .i64 0)) ∧ (W.frozen? ⟨b + 1 + 1, 0, none⟩ = false ∧ W.frozen? ⟨b + 1 + 1, 1, none⟩ = false) by
    have e1 := (hb.block _ (blk_lt HR1.out)).trans HR1.out
    have e2 := (hb.block _ (blk_lt HR2.out)).trans HR2.out
    exact ⟨⟨by rw [blk_cell e1]; rfl, by rw [blk_cell e1]; rfl⟩, ⟨by rw [blk_cell e2]; rfl, by rw [blk_cell e2]; rfl⟩, blk_frozen e2 0, blk_frozen e2 1⟩)
   have HRA := Lib.hid (fun (W : World) (hb : Below w2.heap.size w2 W) => show RAt W (.agg #[.slice A L.length c, .int .i64 last]) L last from ⟨A, c, rfl, HLE.out, Kd.C_below HC.out (HB2.out.trans (hb.mono HB2.out.size))⟩)
   have HBi := Lib.hid (Below.refl w2.heap.size w2)
   obtain ⟨⟨x0, x1⟩, ⟨r0, r1⟩, f0, f1⟩ := HX.out _ HBi.out
   have y0 : w2.cell? ⟨b + 1, 0, none⟩ = some (.int .i64 2) := by rw [blk_cell HT.out]; rfl
   have y1 : w2.cell? ⟨b + 1, 1, none⟩ = some (.string a) := by rw [blk_cell HT.out]; rfl
   have y2 : w2.cell? ⟨b + 1, 2, none⟩ = some (.string t) := by rw [blk_cell HT.out]; rfl
   go_wp2_with (go_at_call 59; refine (HS2.out _ _ (HRA.out _ HBi.out)).mono ?_; rintro e w3 ⟨v7, rfl, hR7, hb⟩; have HQ := Lib.hid hR7; obtain ⟨A7, c7, rfl, h7, C7⟩ := hR7; have HB3 := Lib.hid (HBi.out.trans (hb.mono HBi.out.size)); clear hb h7 C7 y0 y1 y2; clear x0 x1 r0 r1 f0 f1; obtain ⟨⟨x0, x1⟩, ⟨r0, r1⟩, f0, f1⟩ := HX.out _ HB3.out)
   have e3 := (HB3.out.block _ (blk_lt HR2.out)).trans HR2.out
   have hT := res_cells (.slice A7 L2.length c7) (.int .i64 n2) e3
   have hR9 := RAt.but HQ.out (but_two (u0 := .slice A7 L2.length c7) (u1 := .int .i64 n2) e3 (by simp) (by simp))
   have hB9 : Below w.heap.size w ((w3.setCell ⟨b + 1 + 1, 0, none⟩ (.slice A7 L2.length c7)).setCell ⟨b + 1 + 1, 1, none⟩ (.int .i64 n2)) := ((HB2.out.trans (HB3.out.mono HB2.out.size)).setCell (p := ⟨b + 1 + 1, 0, none⟩) (by rw [HW0.out]; exact Nat.le_succ_of_le (Nat.le_succ b)) (.slice A7 L2.length c7)).setCell (p := ⟨b + 1 + 1, 1, none⟩) (by rw [HW0.out]; exact Nat.le_succ_of_le (Nat.le_succ b)) (.int .i64 n2)
   generalize (w3.setCell ⟨b + 1 + 1, 0, none⟩ (.slice A7 L2.length c7)).setCell ⟨b + 1 + 1, 1, none⟩ (.int .i64 n2) = w9' at hT hB9 hR9 ⊢
   obtain ⟨t0, t1⟩ := hT
   refine bodyPost_ret (v := .tuple #[.agg #[.slice A7 L2.length c7, .int .i64 n2], .int .i64 g2]) (by simp [results, Tryz.results15, go_sem, t0, t1, hu30]) rfl ⟨.agg #[.slice A7 L2.length c7, .int .i64 n2], rfl, hR9, hB9⟩
  ·
   have b2 : (k == 2) = false := beq_eq_false_iff_ne.2 k2
   by_cases k3 : k = 3
   ·
    subst k3
    rw [if_neg (by decide), if_neg (by decide), if_pos rfl]
    clear HS1 HS2 HS4 HS5 HS6
    go_enter Tryz.func15, Tryz.ntmps15
    go_upto_region 1 with (fail)
    generalize ((w.alloc (.cells #[.slice A L.length c, .int .i64 last] 30)).alloc (.cells #[.int .i64 3, .string a, .string t] 36)).alloc (.cells #[.slice none 0 0, .int .i64 0] 30) = w2 at HK ⊢
    have HR1 := Lib.hid HK.out.1
    have HT := Lib.hid HK.out.2.1
    have HR2 := Lib.hid HK.out.2.2.1
    have HB2 := Lib.hid HK.out.2.2.2
    clear HK
    generalize hb0 : w.heap.size = b at HR1 HT HR2 ⊢
    have HW0 := Lib.hid hb0
    clear hb0
    have HX := Lib.hid (fun (W : World) (hb : Below w2.heap.size w2 W) => show (W.cell? ⟨b, 0, none⟩ = some (.slice A L.length c) ∧ W.cell? ⟨b, 1, none⟩ = some (.int .i64 last)) ∧ (W.cell? ⟨b + 1 + 1, 0, none⟩ = some (.slice none 0 0) ∧ W.cell? ⟨b + 1 + 1, 1, none⟩ = some (.int .i64 0)) ∧ (W.frozen? ⟨b + 1 + 1, 0, none⟩ = false ∧ W.frozen? ⟨b + 1 + 1, 1, none⟩ = false) by
     have e1 := (hb.block _ (blk_lt HR1.out)).trans HR1.out
     have e2 := (hb.block _ (blk_lt HR2.out)).trans HR2.out
     exact ⟨⟨by rw [blk_cell e1]; rfl, by rw [blk_cell e1]; rfl⟩, ⟨by rw [blk_cell e2]; rfl, by rw [blk_cell e2]; rfl⟩, blk_frozen e2 0, blk_frozen e2 1⟩)
    have HRA := Lib.hid (fun (W : World) (hb : Below w2.heap.size w2 W) => show RAt W (.agg #[.slice A L.length c, .int .i64 last]) L last from ⟨A, c, rfl, HLE.out, Kd.C_below HC.out (HB2.out.trans (hb.mono HB2.out.size))⟩)
    have HBi := Lib.hid (Below.refl w2.heap.size w2)
    obtain ⟨⟨x0, x1⟩, ⟨r0, r1⟩, f0, f1⟩ := HX.out _ HBi.out
    have y0 : w2.cell? ⟨b + 1, 0, none⟩ = some (.int .i64 3) := by rw [blk_cell HT.out]; rfl
    have y1 : w2.cell? ⟨b + 1, 1, none⟩ = some (.string a) := by rw [blk_cell HT.out]; rfl
    have y2 : w2.cell? ⟨b + 1, 2, none⟩ = some (.string t) := by rw [blk_cell HT.out]; rfl
    go_wp2_with (go_at_call 58; refine (HS3.out _ _ (HRA.out _ HBi.out)).mono ?_; rintro e w3 ⟨v7, rfl, hR7, hb⟩; have HQ := Lib.hid hR7; obtain ⟨A7, c7, rfl, h7, C7⟩ := hR7; have HB3 := Lib.hid (HBi.out.trans (hb.mono HBi.out.size)); clear hb h7 C7 y0 y1 y2; clear x0 x1 r0 r1 f0 f1; obtain ⟨⟨x0, x1⟩, ⟨r0, r1⟩, f0, f1⟩ := HX.out _ HB3.out)
    have e3 := (HB3.out.block _ (blk_lt HR2.out)).trans HR2.out
    have hT := res_cells (.slice A7 L3.length c7) (.int .i64 n3) e3
    have hR9 := RAt.but HQ.out (but_two (u0 := .slice A7 L3.length c7) (u1 := .int .i64 n3) e3 (by simp) (by simp))
    have hB9 : Below w.heap.size w ((w3.setCell ⟨b + 1 + 1, 0, none⟩ (.slice A7 L3.length c7)).setCell ⟨b + 1 + 1, 1, none⟩ (.int .i64 n3)) := ((HB2.out.trans (HB3.out.mono HB2.out.size)).setCell (p := ⟨b + 1 + 1, 0, none⟩) (by rw [HW0.out]; exact Nat.le_succ_of_le (Nat.le_succ b)) (.slice A7 L3.length c7)).setCell (p := ⟨b + 1 + 1, 1, none⟩) (by rw [HW0.out]; exact Nat.le_succ_of_le (Nat.le_succ b)) (.int .i64 n3)
    generalize (w3.setCell ⟨b + 1 + 1, 0, none⟩ (.slice A7 L3.length c7)).setCell ⟨b + 1 + 1, 1, none⟩ (.int .i64 n3) = w9' at hT hB9 hR9 ⊢
    obtain ⟨t0, t1⟩ := hT
    refine bodyPost_ret (v := .tuple #[.agg #[.slice A7 L3.length c7, .int .i64 n3], .int .i64 g3]) (by simp [results, Tryz.results15, go_sem, t0, t1, hu30]) rfl ⟨.agg #[.slice A7 L3.length c7, .int .i64 n3], rfl, hR9, hB9⟩
   ·
    have b3 : (k == 3) = false := beq_eq_false_iff_ne.2 k3
    by_cases k4 : k = 4
    ·
     subst k4
     rw [if_neg (by decide), if_neg (by decide), if_neg (by decide), if_pos rfl]
     clear HS1 HS2 HS3 HS5 HS6
     go_enter Tryz.func15, Tryz.ntmps15
     go_upto_region 1 with (fail)
     generalize ((w.alloc (.cells #[.slice A L.length c, .int .i64 last] 30)).alloc (.cells #[.int .i64 4, .string a, .string t] 36)).alloc (.cells #[.slice none 0 0, .int .i64 0] 30) = w2 at HK ⊢
     have HR1 := Lib.hid HK.out.1
     have HT := Lib.hid HK.out.2.1
     have HR2 := Lib.hid HK.out.2.2.1
     have HB2 := Lib.hid HK.out.2.2.2
     clear HK
     generalize hb0 : w.heap.size = b at HR1 HT HR2 ⊢
     have HW0 := Lib.hid hb0
     clear hb0
     have HX := Lib.hid (fun (W : World) (hb : Below w2.heap.size w2 W) => show (W.cell? ⟨b, 0, none⟩ = some (.slice A L.length c) ∧ W.cell? ⟨b, 1, none⟩ = some (.int .i64 last)) ∧ (W.cell? ⟨b + 1 + 1, 0, none⟩ = some (.slice none 0 0) ∧ W.cell? ⟨b + 1 + 1, 1, none⟩ = some (.int .i64 0)) ∧ (W.frozen? ⟨b + 1 + 1, 0, none⟩ = false ∧ W.frozen? ⟨b + 1 + 1, 1, none⟩ = false) by
      have e1 := (hb.block _ (blk_lt HR1.out)).trans HR1.out
      have e2 := (hb.block _ (blk_lt HR2.out)).trans HR2.out
      exact ⟨⟨by rw [blk_cell e1]; rfl, by rw [blk_cell e1]; rfl⟩, ⟨by rw [blk_cell e2]; rfl, by rw [blk_cell e2]; rfl⟩, blk_frozen e2 0, blk_frozen e2 1⟩)
     have HRA := Lib.hid (fun (W : World) (hb : Below w2.heap.size w2 W) => show RAt W (.agg #[.slice A L.length c, .int .i64 last]) L last from ⟨A, c, rfl, HLE.out, Kd.C_below HC.out (HB2.out.trans (hb.mono HB2.out.size))⟩)
     have HBi := Lib.hid (Below.refl w2.heap.size w2)
     obtain ⟨⟨x0, x1⟩, ⟨r0, r1⟩, f0, f1⟩ := HX.out _ HBi.out
     have y0 : w2.cell? ⟨b + 1, 0, none⟩ = some (.int .i64 4) := by rw [blk_cell HT.out]; rfl
     have y1 : w2.cell? ⟨b + 1, 1, none⟩ = some (.string a) := by rw [blk_cell HT.out]; rfl
     have y2 : w2.cell? ⟨b + 1, 2, none⟩ = some (.string t) := by rw [blk_cell HT.out]; rfl
     go_wp2_with (go_at_call 59; refine (HS4.out _ _ (HRA.out _ HBi.out)).mono ?_; rintro e w3 ⟨v7, rfl, hR7, hb⟩; have HQ := Lib.hid hR7; obtain ⟨A7, c7, rfl, h7, C7⟩ := hR7; have HB3 := Lib.hid (HBi.out.trans (hb.mono HBi.out.size)); clear hb h7 C7 y0 y1 y2; clear x0 x1 r0 r1 f0 f1; obtain ⟨⟨x0, x1⟩, ⟨r0, r1⟩, f0, f1⟩ := HX.out _ HB3.out)
     have e3 := (HB3.out.block _ (blk_lt HR2.out)).trans HR2.out
     have hT := res_cells (.slice A7 L4.length c7) (.int .i64 n4) e3
     have hR9 := RAt.but HQ.out (but_two (u0 := .slice A7 L4.length c7) (u1 := .int .i64 n4) e3 (by simp) (by simp))
     have hB9 : Below w.heap.size w ((w3.setCell ⟨b + 1 + 1, 0, none⟩ (.slice A7 L4.length c7)).setCell ⟨b + 1 + 1, 1, none⟩ (.int .i64 n4)) := ((HB2.out.trans (HB3.out.mono HB2.out.size)).setCell (p := ⟨b + 1 + 1, 0, none⟩) (by rw [HW0.out]; exact Nat.le_succ_of_le (Nat.le_succ b)) (.slice A7 L4.length c7)).setCell (p := ⟨b + 1 + 1, 1, none⟩) (by rw [HW0.out]; exact Nat.le_succ_of_le (Nat.le_succ b)) (.int .i64 n4)
     generalize (w3.setCell ⟨b + 1 + 1, 0, none⟩ (.slice A7 L4.length c7)).setCell ⟨b + 1 + 1, 1, none⟩ (.int .i64 n4) = w9' at hT hB9 hR9 ⊢
     obtain ⟨t0, t1⟩ := hT
     refine bodyPost_ret (v := .tuple #[.agg #[.slice A7 L4.length c7, .int .i64 n4], .int .i64 g4]) (by simp [results, Tryz.results15, go_sem, t0, t1, hu30]) rfl ⟨.agg #[.slice A7 L4.length c7, .int .i64 n4], rfl, hR9, hB9⟩
    ·
     have b4 : (k == 4) = false := beq_eq_false_iff_ne.2 k4
     by_cases k5 : k = 5
     ·
      subst k5
      rw [if_neg (by decide), if_neg (by decide), if_neg (by decide), if_neg (by decide), if_pos rfl]
      clear HS1 HS2 HS3 HS4 HS6
      go_enter Tryz.func15, Tryz.ntmps15
      go_upto_region 1 with (fail)
      generalize ((w.alloc (.cells #[.slice A L.length c, .int .i64 last] 30)).alloc (.cells #[.int .i64 5, .string a, .string t] 36)).alloc (.cells #[.slice none 0 0, .int .i64 0] 30) = w2 at HK ⊢
      have HR1 := Lib.hid HK.out.1
      have HT := Lib.hid HK.out.2.1
      have HR2 := Lib.hid HK.out.2.2.1
      have HB2 := Lib.hid HK.out.2.2.2
      clear HK
      generalize hb0 : w.heap.size = b at HR1 HT HR2 ⊢
      have HW0 := Lib.hid hb0
      clear hb0
      have HX := Lib.hid (fun (W : World) (hb : Below w2.heap.size w2 W) => show (W.cell? ⟨b, 0, none⟩ = some (.slice A L.length c) ∧ W.cell? ⟨b, 1, none⟩ = some (.int .i64 last)) ∧ (W.cell? ⟨b + 1 + 1, 0, none⟩ = some (.slice none 0 0) ∧ W.cell? ⟨b + 1 + 1, 1, none⟩ = some (.int .i64 0)) ∧ (W.frozen? ⟨b + 1 + 1, 0, none⟩ = false ∧ W.frozen? ⟨b + 1 + 1, 1, none⟩ = false) by
       have e1 := (hb.block _ (blk_lt HR1.out)).trans HR1.out
       have e2 := (hb.block _ (blk_lt HR2.out)).trans HR2.out
       exact ⟨⟨by rw [blk_cell e1]; rfl, by rw [blk_cell e1]; rfl⟩, ⟨by rw [blk_cell e2]; rfl, by rw [blk_cell e2]; rfl⟩, blk_frozen e2 0, blk_frozen e2 1⟩)
      have HRA := Lib.hid (fun (W : World) (hb : Below w2.heap.size w2 W) => show RAt W (.agg #[.slice A L.length c, .int .i64 last]) L last from ⟨A, c, rfl, HLE.out, Kd.C_below HC.out (HB2.out.trans (hb.mono HB2.out.size))⟩)
      have HBi := Lib.hid (Below.refl w2.heap.size w2)
      obtain ⟨⟨x0, x1⟩, ⟨r0, r1⟩, f0, f1⟩ := HX.out _ HBi.out
      have y0 : w2.cell? ⟨b + 1, 0, none⟩ = some (.int .i64 5) := by rw [blk_cell HT.out]; rfl
      have y1 : w2.cell? ⟨b + 1, 1, none⟩ = some (.string a) := by rw [blk_cell HT.out]; rfl
      have y2 : w2.cell? ⟨b + 1, 2, none⟩ = some (.string t) := by rw [blk_cell HT.out]; rfl
      go_wp2_with (go_at_call 60; refine (HS5.out _ _ (HRA.out _ HBi.out)).mono ?_; rintro e w3 ⟨v7, rfl, hR7, hb⟩; have HQ := Lib.hid hR7; obtain ⟨A7, c7, rfl, h7, C7⟩ := hR7; have HB3 := Lib.hid (HBi.out.trans (hb.mono HBi.out.size)); clear hb h7 C7 y0 y1 y2; clear x0 x1 r0 r1 f0 f1; obtain ⟨⟨x0, x1⟩, ⟨r0, r1⟩, f0, f1⟩ := HX.out _ HB3.out)
      have e3 := (HB3.out.block _ (blk_lt HR2.out)).trans HR2.out
      have hT := res_cells (.slice A7 L5.length c7) (.int .i64 n5) e3
      have hR9 := RAt.but HQ.out (but_two (u0 := .slice A7 L5.length c7) (u1 := .int .i64 n5) e3 (by simp) (by simp))
      have hB9 : Below w.heap.size w ((w3.setCell ⟨b + 1 + 1, 0, none⟩ (.slice A7 L5.length c7)).setCell ⟨b + 1 + 1, 1, none⟩ (.int .i64 n5)) := ((HB2.out.trans (HB3.out.mono HB2.out.size)).setCell (p := ⟨b + 1 + 1, 0, none⟩) (by rw [HW0.out]; exact Nat.le_succ_of_le (Nat.le_succ b)) (.slice A7 L5.length c7)).setCell (p := ⟨b + 1 + 1, 1, none⟩) (by rw [HW0.out]; exact Nat.le_succ_of_le (Nat.le_succ b)) (.int .i64 n5)
      generalize (w3.setCell ⟨b + 1 + 1, 0, none⟩ (.slice A7 L5.length c7)).setCell ⟨b + 1 + 1, 1, none⟩ (.int .i64 n5) = w9' at hT hB9 hR9 ⊢
      obtain ⟨t0, t1⟩ := hT
      refine bodyPost_ret (v := .tuple #[.agg #[.slice A7 L5.length c7, .int .i64 n5], .int .i64 g5]) (by simp [results, Tryz.results15, go_sem, t0, t1, hu30]) rfl ⟨.agg #[.slice A7 L5.length c7, .int .i64 n5], rfl, hR9, hB9⟩
     ·
      have b5 : (k == 5) = false := beq_eq_false_iff_ne.2 k5
      by_cases k6 : k = 6
      ·
       subst k6
       rw [if_neg (by decide), if_neg (by decide), if_neg (by decide), if_neg (by decide), if_neg (by decide), if_pos rfl]
       clear HS1 HS2 HS3 HS4 HS5
       go_enter Tryz.func15, Tryz.ntmps15
       go_upto_region 1 with (fail)
       generalize ((w.alloc (.cells #[.slice A L.length c, .int .i64 last] 30)).alloc (.cells #[.int .i64 6, .string a, .string t] 36)).alloc (.cells #[.slice none 0 0, .int .i64 0] 30) = w2 at HK ⊢
       have HR1 := Lib.hid HK.out.1
       have HT := Lib.hid HK.out.2.1
       have HR2 := Lib.hid HK.out.2.2.1
       have HB2 := Lib.hid HK.out.2.2.2
       clear HK
       generalize hb0 : w.heap.size = b at HR1 HT HR2 ⊢
       have HW0 := Lib.hid hb0
       clear hb0
       have HX := Lib.hid (fun (W : World) (hb : Below w2.heap.size w2 W) => show (W.cell? ⟨b, 0, none⟩ = some (.slice A L.length c) ∧ W.cell? ⟨b, 1, none⟩ = some (.int .i64 last)) ∧ (W.cell? ⟨b + 1 + 1, 0, none⟩ = some (.slice none 0 0) ∧ W.cell? ⟨b + 1 + 1, 1, none⟩ = some (.int .i64 0)) ∧ (W.frozen? ⟨b + 1 + 1, 0, none⟩ = false ∧ W.frozen? ⟨b + 1 + 1, 1, none⟩ = false) by
        have e1 := (hb.block _ (blk_lt HR1.out)).trans HR1.out
        have e2 := (hb.block _ (blk_lt HR2.out)).trans HR2.out
        exact ⟨⟨by rw [blk_cell e1]; rfl, by rw [blk_cell e1]; rfl⟩, ⟨by rw [blk_cell e2]; rfl, by rw [blk_cell e2]; rfl⟩, blk_frozen e2 0, blk_frozen e2 1⟩)
       have HRA := Lib.hid (fun (W : World) (hb : Below w2.heap.size w2 W) => show RAt W (.agg #[.slice A L.length c, .int .i64 last]) L last from ⟨A, c, rfl, HLE.out, Kd.C_below HC.out (HB2.out.trans (hb.mono HB2.out.size))⟩)
       have HBi := Lib.hid (Below.refl w2.heap.size w2)
       obtain ⟨⟨x0, x1⟩, ⟨r0, r1⟩, f0, f1⟩ := HX.out _ HBi.out
       have y0 : w2.cell? ⟨b + 1, 0, none⟩ = some (.int .i64 6) := by rw [blk_cell HT.out]; rfl
       have y1 : w2.cell? ⟨b + 1, 1, none⟩ = some (.string a) := by rw [blk_cell HT.out]; rfl
       have y2 : w2.cell? ⟨b + 1, 2, none⟩ = some (.string t) := by rw [blk_cell HT.out]; rfl
       go_wp2_with (go_at_call 61; refine (HS6.out _ _ (HRA.out _ HBi.out)).mono ?_; rintro e w3 ⟨v7, rfl, hR7, hb⟩; have HQ := Lib.hid hR7; obtain ⟨A7, c7, rfl, h7, C7⟩ := hR7; have HB3 := Lib.hid (HBi.out.trans (hb.mono HBi.out.size)); clear hb h7 C7 y0 y1 y2; clear x0 x1 r0 r1 f0 f1; obtain ⟨⟨x0, x1⟩, ⟨r0, r1⟩, f0, f1⟩ := HX.out _ HB3.out)
       have e3 := (HB3.out.block _ (blk_lt HR2.out)).trans HR2.out
       have hT := res_cells (.slice A7 L6.length c7) (.int .i64 n6) e3
       have hR9 := RAt.but HQ.out (but_two (u0 := .slice A7 L6.length c7) (u1 := .int .i64 n6) e3 (by simp) (by simp))
       have hB9 : Below w.heap.size w ((w3.setCell ⟨b + 1 + 1, 0, none⟩ (.slice A7 L6.length c7)).setCell ⟨b + 1 + 1, 1, none⟩ (.int .i64 n6)) := ((HB2.out.trans (HB3.out.mono HB2.out.size)).setCell (p := ⟨b + 1 + 1, 0, none⟩) (by rw [HW0.out]; exact Nat.le_succ_of_le (Nat.le_succ b)) (.slice A7 L6.length c7)).setCell (p := ⟨b + 1 + 1, 1, none⟩) (by rw [HW0.out]; exact Nat.le_succ_of_le (Nat.le_succ b)) (.int .i64 n6)
       generalize (w3.setCell ⟨b + 1 + 1, 0, none⟩ (.slice A7 L6.length c7)).setCell ⟨b + 1 + 1, 1, none⟩ (.int .i64 n6) = w9' at hT hB9 hR9 ⊢
       obtain ⟨t0, t1⟩ := hT
       refine bodyPost_ret (v := .tuple #[.agg #[.slice A7 L6.length c7, .int .i64 n6], .int .i64 g6]) (by simp [results, Tryz.results15, go_sem, t0, t1, hu30]) rfl ⟨.agg #[.slice A7 L6.length c7, .int .i64 n6], rfl, hR9, hB9⟩
      ·
       have b6 : (k == 6) = false := beq_eq_false_iff_ne.2 k6
       rw [if_neg k1, if_neg k2, if_neg k3, if_neg k4, if_neg k5, if_neg k6]
       clear HS1 HS2 HS3 HS4 HS5 HS6 k1 k2 k3 k4 k5 k6
       go_enter Tryz.func15, Tryz.ntmps15
       go_upto_region 1 with (fail)
       generalize ((w.alloc (.cells #[.slice A L.length c, .int .i64 last] 30)).alloc (.cells #[.int .i64 k, .string a, .string t] 36)).alloc (.cells #[.slice none 0 0, .int .i64 0] 30) = w2 at HK ⊢
       have HR1 := Lib.hid HK.out.1
       have HT := Lib.hid HK.out.2.1
       have HR2 := Lib.hid HK.out.2.2.1
       have HB2 := Lib.hid HK.out.2.2.2
       clear HK
       generalize hb0 : w.heap.size = b at HR1 HT HR2 ⊢
       have HW0 := Lib.hid hb0
       clear hb0
       have HX := Lib.hid (fun (W : World) (hb : Below w2.heap.size w2 W) => show (W.cell? ⟨b, 0, none⟩ = some (.slice A L.length c) ∧ W.cell? ⟨b, 1, none⟩ = some (.int .i64 last)) ∧ (W.cell? ⟨b + 1 + 1, 0, none⟩ = some (.slice none 0 0) ∧ W.cell? ⟨b + 1 + 1, 1, none⟩ = some (.int .i64 0)) ∧ (W.frozen? ⟨b + 1 + 1, 0, none⟩ = false ∧ W.frozen? ⟨b + 1 + 1, 1, none⟩ = false) by
        have e1 := (hb.block _ (blk_lt HR1.out)).trans HR1.out
        have e2 := (hb.block _ (blk_lt HR2.out)).trans HR2.out
        exact ⟨⟨by rw [blk_cell e1]; rfl, by rw [blk_cell e1]; rfl⟩, ⟨by rw [blk_cell e2]; rfl, by rw [blk_cell e2]; rfl⟩, blk_frozen e2 0, blk_frozen e2 1⟩)
       have HRA := Lib.hid (fun (W : World) (hb : Below w2.heap.size w2 W) => show RAt W (.agg #[.slice A L.length c, .int .i64 last]) L last from ⟨A, c, rfl, HLE.out, Kd.C_below HC.out (HB2.out.trans (hb.mono HB2.out.size))⟩)
       have HBi := Lib.hid (Below.refl w2.heap.size w2)
       obtain ⟨⟨x0, x1⟩, ⟨r0, r1⟩, f0, f1⟩ := HX.out _ HBi.out
       have y0 : w2.cell? ⟨b + 1, 0, none⟩ = some (.int .i64 k) := by rw [blk_cell HT.out]; rfl
       have y1 : w2.cell? ⟨b + 1, 1, none⟩ = some (.string a) := by rw [blk_cell HT.out]; rfl
       have y2 : w2.cell? ⟨b + 1, 2, none⟩ = some (.string t) := by rw [blk_cell HT.out]; rfl
       go_wp2
       have e3 := (HBi.out.block _ (blk_lt HR2.out)).trans HR2.out
       have hT := res_cells (.slice A L.length c) (.int .i64 last) e3
       have hR9 := RAt.but (HRA.out _ HBi.out) (but_two (u0 := .slice A L.length c) (u1 := .int .i64 last) e3 (by simp) (by simp))
       have hB9 : Below w.heap.size w ((w2.setCell ⟨b + 1 + 1, 0, none⟩ (.slice A L.length c)).setCell ⟨b + 1 + 1, 1, none⟩ (.int .i64 last)) := ((HB2.out.trans (HBi.out.mono HB2.out.size)).setCell (p := ⟨b + 1 + 1, 0, none⟩) (by rw [HW0.out]; exact Nat.le_succ_of_le (Nat.le_succ b)) (.slice A L.length c)).setCell (p := ⟨b + 1 + 1, 1, none⟩) (by rw [HW0.out]; exact Nat.le_succ_of_le (Nat.le_succ b)) (.int .i64 last)
       generalize (w2.setCell ⟨b + 1 + 1, 0, none⟩ (.slice A L.length c)).setCell ⟨b + 1 + 1, 1, none⟩ (.int .i64 last) = w9' at hT hB9 hR9 ⊢
       obtain ⟨t0, t1⟩ := hT
       refine bodyPost_ret (v := .tuple #[.agg #[.slice A L.length c, .int .i64 last], .int .i64 2]) (by simp [results, Tryz.results15, go_sem, t0, t1, hu30]) rfl ⟨.agg #[.slice A L.length c, .int .i64 last], rfl, hR9, hB9⟩
end Go.Proofs.YtnpeeiikdcankaaGreat.Tw

namespace Go.Proofs.YtnpeeiikdcankaaGreat.Ext
end Go.Proofs.YtnpeeiikdcankaaGreat.Ext
namespace Go.Proofs.YtnpeeiikdcankaaGreat.X
open Go.RowKit Go.Proofs.YtnpeeiikdcankaaGreatW.PrintWords Go.Proofs.YtnpeeiikdcankaaGreatW.PrintLast Go.Proofs.YtnpeeiikdcankaaGreatW.PrintMore Go.Proofs.YtnpeeiikdcankaaGreat.Ext
attribute [local go_sem] max2_int min2_int max_two min_two max_three min_three max_four min_four   -- for this text's walks alone

theorem eqA162 (d : Nat) (w : World) (x0 y0 : ByteArray) (x1 y1 : Int) :
  (Op.equalIn (d + 2) 162 (.agg #[.string x0, .int .i64 x1]) (.agg #[.string y0, .int .i64 y1])).run Tryz.prog w = .ok (x0.toList == y0.toList && (x1 == y1)) w := by
 refine eqA_of Tryz.underlying162 (by kernel_rfl) ?_
 refine eqf_cons (by rfl) (by go_simp; rfl) (by go_simp; rfl) (by go_simp) ?_
 exact eqf_last (by rfl) (by go_simp; rfl) (by go_simp; rfl) (by go_simp)
end Go.Proofs.YtnpeeiikdcankaaGreat.X

namespace Go.Proofs.YtnpeeiikdcankaaGreat.Ext
end Go.Proofs.YtnpeeiikdcankaaGreat.Ext
namespace Go.Proofs.YtnpeeiikdcankaaGreat.X
open Go.RowKit Go.Proofs.YtnpeeiikdcankaaGreatW.PrintWords Go.Proofs.YtnpeeiikdcankaaGreatW.PrintLast Go.Proofs.YtnpeeiikdcankaaGreatW.PrintMore Go.Proofs.YtnpeeiikdcankaaGreat.Ext
attribute [local go_sem] max2_int min2_int max_two min_two max_three min_three max_four min_four   -- for this text's walks alone

attribute [local go_sem high] eqA162
def linhayref06_Same.l0 : Nat → List (S162) → List (S162) → Int → Option (Bool)
 | 0, _, _, _ => none
 | k + 1, x0, x1, x5 => if x5 < (x0.length : Int) then (if 0 ≤ x5 then (if x5 < (x1.length : Int) then (if (!((((rd_T162 x0 x5).f0).toList) == (((rd_T162 x1 x5).f0).toList)) || (!(((rd_T162 x0 x5).f1) == ((rd_T162 x1 x5).f1)))) = true then (some false) else (linhayref06_Same.l0 k x0 x1 (wrap64 (x5 + 1)))) else (none)) else (none)) else (some true)
def linhayref06_Same.f (k : Nat) (l0 : List (S162)) (l1 : List (S162)) : Option (Bool) := if (l0.length : Int) = (l1.length : Int) then (linhayref06_Same.l0 k l0 l1 0) else (some false)
set_option maxHeartbeats 8000000 in
set_option maxRecDepth 100000 in
theorem linhayref06_Same.calls (k : Nat) (A0 : Option Addr) (c0 : Nat) (l0 : List (S162)) (A1 : Option Addr) (c1 : Nat) (l1 : List (S162)) (r : Bool) (w : World) (hr0 : Kd.C k162 w A0 l0.length l0) (hc0 : l0.length ≤ c0) (hr1 : Kd.C k162 w A1 l1.length l1) (hc1 : l1.length ≤ c1) (h : linhayref06_Same.f k l0 l1 = some r) :
  Calls Tryz.prog 73 #[.slice A0 l0.length c0, .slice A1 l1.length c1] w fun e w' => e = .returned (.bool r) ∧ Drawn0 w w' := by
 have hu36 := Tryz.underlying36
 have hu49 := Tryz.underlying49
 have hu66 := Tryz.underlying66
 have hu93 := Tryz.underlying93
 have hu106 := Tryz.underlying106
 have hu115 := Tryz.underlying115
 have hu130 := Tryz.underlying130
 have hu162 := Tryz.underlying162
 have HR0 := Aside0.mk hr0
 have HC0 := Aside0.mk hc0
 clear hr0 hc0
 have HR1 := Aside0.mk hr1
 have HC1 := Aside0.mk hc1
 clear hr1 hc1
 have H : (if (l0.length : Int) = (l1.length : Int) then (linhayref06_Same.l0 k l0 l1 0) else (some false)) = some r := h
 clear h
 by_cases c3 : (l0.length : Int) = (l1.length : Int)
 ·
  rw [if_pos c3] at H
  have c3b0 : ((l0.length : Int) == (l1.length : Int)) = true := beq_iff_eq.mpr c3
  have c3b1 : ((l0.length : Int) != (l1.length : Int)) = false := bne_eq_false_iff_eq.mpr c3
  have c3b2 : (l0.length == l1.length) = true := by first | simpa using c3 | (simp at c3 ⊢; omega)
  clear c3
  have H' := Aside0.mk H
  clear H
  go_enter Tryz.func73, Tryz.ntmps73
  go_wp2
  repeat (go_quiet (fail); try go_wp2)
  go_loopg [5] k (fun kq v5 w' => ∃ (x5_1 : Int), v5 = .int .i64 x5_1 ∧ Aside0 (linhayref06_Same.l0 kq l0 l1 x5_1 = some r) ∧ Aside0 (kq ≤ k) ∧ Drawn0 w w')
  case atStart => exact ⟨(0), (by first | rfl | (simp; done) | (simp [*]; done) | (simp [bne_nil]; done)), H', ⟨Nat.le_refl _⟩, by repeat (first | exact Drawn0.refl _ | apply Drawn0.step)⟩
  case round =>
   clear H'
   try clear c1
   try clear p2
   try clear c3
   try clear c3b0
   try clear c3b1
   try clear c3b2
   obtain ⟨x5_1, rfl, HA, HK1, ⟨m1, rfl⟩⟩ := hrel
   cases gk with
   | zero => exact absurd HA.out (by simp [linhayref06_Same.l0])
   | succ k1 =>
    have H := HA.out
    clear HA
    simp only [linhayref06_Same.l0] at H
    by_cases c4 : x5_1 < (l0.length : Int)
    ·
     rw [if_pos c4] at H
     have c4b0 : decide (x5_1 < (l0.length : Int)) = true := decide_eq_true c4
     clear c4
     by_cases c5 : 0 ≤ x5_1
     ·
      rw [if_pos c5] at H
      have c5b0 : decide (0 ≤ x5_1) = true := decide_eq_true c5
      clear c5
      by_cases c6 : x5_1 < (l1.length : Int)
      ·
       rw [if_pos c6] at H
       have c6b0 : decide (x5_1 < (l1.length : Int)) = true := decide_eq_true c6
       clear c6
       by_cases c7 : (!((((rd_T162 l0 x5_1).f0).toList) == (((rd_T162 l1 x5_1).f0).toList)) || (!(((rd_T162 l0 x5_1).f1) == ((rd_T162 l1 x5_1).f1)))) = true
       ·
        rw [if_pos c7] at H
        have c7b0 : (!((((rd_T162 l0 x5_1).f0).toList) == (((rd_T162 l1 x5_1).f0).toList)) || (!(((rd_T162 l0 x5_1).f1) == ((rd_T162 l1 x5_1).f1)))) = true := c7
        clear c7
        obtain rfl := Option.some.inj H
        have p265 : 0 ≤ (x5_1 : Int) := of_decide_eq_true (by first | (with_reducible assumption) | assumption)
        have q265 : x5_1 < (l0.length : Int) := of_decide_eq_true (by first | (with_reducible assumption) | assumption)
        obtain ⟨ad265, e265, hx265_0, hx265_1⟩ := at_T162 HR0.out x5_1 p265 q265
        cases e265
        replace p265 := eq_true p265
        replace q265 := eq_true q265
        have p266 : 0 ≤ (x5_1 : Int) := of_decide_eq_true (by first | (with_reducible assumption) | assumption)
        have q266 : x5_1 < (l1.length : Int) := of_decide_eq_true (by first | (with_reducible assumption) | assumption)
        obtain ⟨ad266, e266, hx266_0, hx266_1⟩ := at_T162 HR1.out x5_1 p266 q266
        cases e266
        replace p266 := eq_true p266
        replace q266 := eq_true q266
        go_wp2
        repeat (go_quiet (fail); try go_wp2)
        go_ret
        exact ⟨by first | rfl | (simp; done) | (simp [*]; done), by repeat (first | exact Drawn0.refl _ | apply Drawn0.step)⟩
       ·
        rw [if_neg c7] at H
        have c7b0 : (!((((rd_T162 l0 x5_1).f0).toList) == (((rd_T162 l1 x5_1).f0).toList)) || (!(((rd_T162 l0 x5_1).f1) == ((rd_T162 l1 x5_1).f1)))) = false := by simpa using c7
        clear c7
        have H' := Aside0.mk H
        clear H
        have p265 : 0 ≤ (x5_1 : Int) := of_decide_eq_true (by first | (with_reducible assumption) | assumption)
        have q265 : x5_1 < (l0.length : Int) := of_decide_eq_true (by first | (with_reducible assumption) | assumption)
        obtain ⟨ad265, e265, hx265_0, hx265_1⟩ := at_T162 HR0.out x5_1 p265 q265
        cases e265
        replace p265 := eq_true p265
        replace q265 := eq_true q265
        have p266 : 0 ≤ (x5_1 : Int) := of_decide_eq_true (by first | (with_reducible assumption) | assumption)
        have q266 : x5_1 < (l1.length : Int) := of_decide_eq_true (by first | (with_reducible assumption) | assumption)
        obtain ⟨ad266, e266, hx266_0, hx266_1⟩ := at_T162 HR1.out x5_1 p266 q266
        cases e266
        replace p266 := eq_true p266
        replace q266 := eq_true q266
        go_wp2
        repeat (go_quiet (fail); try go_wp2)
        go_roundg k1
        case measure => have := HK1.out; omega
        case rel => exact ⟨(wrap64 (x5_1 + 1)), (by first | rfl | (simp; done) | (simp [*]; done) | (simp [bne_nil]; done)), H', ⟨by have := HK1.out; omega⟩, by repeat (first | exact Drawn0.refl _ | apply Drawn0.step)⟩
      ·
       rw [if_neg c6] at H
       exact absurd H (by simp)
     ·
      rw [if_neg c5] at H
      exact absurd H (by simp)
    ·
     rw [if_neg c4] at H
     have c4b0 : decide (x5_1 < (l0.length : Int)) = false := decide_eq_false c4
     clear c4
     obtain rfl := Option.some.inj H
     go_wp2
     repeat (go_quiet (fail); try go_wp2)
     go_ret
     exact ⟨by first | rfl | (simp; done) | (simp [*]; done), by repeat (first | exact Drawn0.refl _ | apply Drawn0.step)⟩
 ·
  rw [if_neg c3] at H
  have c3b0 : ((l0.length : Int) == (l1.length : Int)) = false := beq_eq_false_iff_ne.mpr c3
  have c3b1 : ((l0.length : Int) != (l1.length : Int)) = true := bne_iff_ne.mpr c3
  have c3b2 : (l0.length == l1.length) = false := by first | simpa using c3 | (simp at c3 ⊢; omega)
  obtain rfl := Option.some.inj H
  go_enter Tryz.func73, Tryz.ntmps73
  go_wp2
  repeat (go_quiet (fail); try go_wp2)
  go_ret
  exact ⟨by first | rfl | (simp; done) | (simp [*]; done), by repeat (first | exact Drawn0.refl _ | apply Drawn0.step)⟩

end Go.Proofs.YtnpeeiikdcankaaGreat.X

namespace Go.Proofs.YtnpeeiikdcankaaGreat.Tw
open Go Go.RowKit Go.Shelf Go.Proofs Go.Proofs.YtnpeeiikdcankaaGreat Go.Proofs.YtnpeeiikdcankaaGreatW.PrintWords Go.Proofs.YtnpeeiikdcankaaGreat.Ext Go.Proofs.YtnpeeiikdcankaaGreat.X Go.Proofs.YtnpeeiikdcankaaGreat.Pu
theorem same6_ev (l : List En) (hl : l.length < 4294967296) : Ev (fun k => linhayref06_Same.f k l l) true := by
 have key : ∀ (d i : Nat), i + d = l.length → Ev (fun k => linhayref06_Same.l0 k l l (i : Int)) true := by
  intro d
  induction d with
  | zero =>
   intro i hi
   refine Ev.step (fun k => by rw [linhayref06_Same.l0]) ?_
   exact ev_neg (by omega) (Ev.now _)
  | succ d ih =>
   intro i hi
   refine Ev.step (fun k => by rw [linhayref06_Same.l0]) (ev_pos (by omega) (ev_pos (by omega) (ev_pos (by omega) (ev_neg (by simp) ?_))))
   rw [w1 (by omega)]
   exact ih (i + 1) (by omega)
 unfold linhayref06_Same.f
 exact ev_pos rfl (key l.length 0 (by omega))
theorem len_calls (p B : Nat) (T : Tr) (w : World) (h : TreeB w p B T) :
  Calls Tryz.prog 67 #[pT p] w fun e w' => e = .returned (.int .i64 (T.cnt : Int)) ∧ w' = w := by
 have c0 := h.cell0
 have hrun := fun ty => h.len_run ty
 go_enter Tryz.func67, Tryz.ntmps67
 go_wp2
 go_ret
 exact ⟨rfl, rfl⟩
theorem wf_mid {n : Int} (h : -1000000 ≤ n ∧ n ≤ 2000000) : wf n := by unfold wf; simp only [Lit.wf, Bool.and_eq_true, decide_eq_true_eq]; obtain ⟨a, b⟩ := h; exact ⟨Int.le_trans (by decide) a, Int.le_trans b (by decide)⟩
theorem C_none {w : World} : Kd.C k162 w none 0 [] := Kd.C_nil _ _
theorem wmid {n : Int} (h : -2 ≤ n ∧ n ≤ 2000000) : wrap64 (n + 1) = n + 1 := by unfold wrap64; omega
theorem ents_dirS {L : List RN} {last : Int} (h : GoodL L last) {n : Int} (hk : (atR L n).f3 ≠ 1) : entsOf L n = [] := by
 refine List.eq_nil_iff_forall_not_mem.2 fun e he => ?_
 obtain ⟨r, hr, hi, _⟩ := mem_ents.1 he
 have hu := h.up r hr
 rw [(isIn_iff.1 hi).1] at hu
 exact hk hu
set_option maxHeartbeats 4000000 in
set_option maxRecDepth 1000000 in
theorem same7_calls (p B : Nat) (L : List RN) (last : Int) (v : Value) (w : World) (hT : TreeB w p B (trOf L last)) (hV : RAt w v L last) (hG : GoodL L last) (hla : last ≤ 1000000) :
  Calls Tryz.prog 17 #[pT p, v] w fun e w' => e = .returned (.bool true) ∧ Below w.heap.size w w' := by
 have hl := hG.len
 have hl1 := hG.last1
 have hO := trOK hG hla
 obtain ⟨A, c, rfl, hle, hC⟩ := hV
 have hu30 := Tryz.underlying30
 have hu106 := Tryz.underlying106
 have HB1 := Lib.hid ((Below.refl w.heap.size w).alloc (Nat.le_refl _) (.cells #[.slice A L.length c, .int .i64 last] 30))
 have H1 := Lib.hid (heap_alloc_new w (.cells #[.slice A L.length c, .int .i64 last] 30))
 have HLEN := Lib.hid (fun W h => len_calls p B (trOf L last) W h)
 have hcnt : ((trOf L last).cnt : Int) = (L.length : Int) := rfl
 rw [hcnt] at HLEN
 have HAT := Lib.hid (fun m => (r07_at L m last (by omega)).rounds)
 have HKI := Lib.hid (fun m W h hm => kind_calls p (trOf L last) m W h hm)
 have HDA := Lib.hid (fun m W h hm => data_calls p (trOf L last) m W h hm)
 have HUP := Lib.hid (fun m W h hm => up_calls p (trOf L last) m W h hm)
 have HLI := Lib.hid (fun m W h hm => list_calls p (trOf L last) m W h hm (hO.small.node _))
 have HL7 := Lib.hid (fun m => (list7_ev hG m).rounds)
 have HND := Lib.hid (fun m => node_of hG m)
 have HED := Lib.hid (fun m h => ents_dirS hG (n := m) h)
 have HEL := Lib.hid (fun m => ents_len L m)
 have HSZ := Lib.hid hl
 have HLA := Lib.hid (And.intro hl1 hla)
 have HC := Lib.hid hC
 have HLE := Lib.hid hle
 have HT := Lib.hid hT
 clear hT hC hle hG hO hl hl1 hla hcnt
 go_enter Tryz.func17, Tryz.ntmps17
 go_upto_region 1 with (fail)
 generalize w.alloc (.cells #[.slice A L.length c, .int .i64 last] 30) = w1 at HB1 H1 ⊢
 generalize hb0 : w.heap.size = b at HB1 H1 ⊢
 have HW0 := Lib.hid hb0
 clear hb0
 have HX := Lib.hid (fun (W : World) (hb : Below w1.heap.size w1 W) => show W.cell? ⟨b, 0, none⟩ = some (.slice A L.length c) ∧ W.cell? ⟨b, 1, none⟩ = some (.int .i64 last) by
  have e1 := (hb.block _ (blk_lt H1.out)).trans H1.out
  exact ⟨by rw [blk_cell e1]; rfl, by rw [blk_cell e1]; rfl⟩)
 have HZ := Lib.hid (show Below w.heap.size w w1 by rw [HW0.out]; exact HB1.out)
 have HCT := Lib.hid (fun (W : World) (hb : Below w1.heap.size w1 W) => Kd.C_below HC.out (HZ.out.trans (hb.mono HZ.out.size)))
 have HTT := Lib.hid (fun (W : World) (hb : Below w1.heap.size w1 W) => HT.out.below (HZ.out.trans (hb.mono HZ.out.size)))
 obtain ⟨x0, x1⟩ := HX.out _ (Below.refl _ _)
 have e0 : ((L.length : Int) != (L.length : Int)) = false := by simp
 have HT1 := Lib.hid (HTT.out _ (Below.refl _ _))
 go_quiet ((go_at_call 67; exact Calls.quiet_of_same (HLEN.out _ (HT1.out.below (pw_below_drewN (Below.refl _ _) _)))))
 go_wp2
 have HBQ := Lib.hid (pw_below_drewN (Below.refl w1.heap.size w1) nq)
 obtain ⟨W2, hW2⟩ : ∃ W2, w1.drewN nq = W2 := ⟨_, rfl⟩
 rw [hW2] at HBQ ⊢
 clear hW2 x0 x1 HT1 e0 HLEN
 go_loopw [5] (fun v5 wr => ∃ m : Int, v5 = .int .i64 m ∧ -1 ≤ m ∧ m ≤ last + 2 ∧ Below w1.heap.size w1 wr) (fun v _ => (last + 2 - intOf v).toNat)
 case atStart => exact ⟨-1, rfl, by omega, by have := HLA.out.1; omega, HBQ.out⟩
 case round =>
  obtain ⟨m, rfl, hm1, hm2, hB⟩ := hrel
  have HBr := Lib.hid hB
  clear hB HBQ
  obtain ⟨x0, x1⟩ := HX.out _ HBr.out
  have hla := HLA.out
  by_cases h : m ≤ last + 1
  ·
   have hlt : m ≤ wrap64 (last + 1) := by rw [wmid (by omega)]; exact h
   have hwm : wf m := wf_mid (by omega)
   have HWM := Lib.hid hwm
   have HM := Lib.hid (And.intro hm1 h)
   obtain ⟨km, hkm⟩ := HAT.out m
   obtain ⟨kl, hkl⟩ := HL7.out m
   have HA := Lib.hid (fun W h => linhayref07_At.calls km A c L last m _ _ _ _ _ W h HLE.out hkm)
   have HLL := Lib.hid (fun W h => linhayref07_List.calls kl A c L last m _ W h HLE.out hkl)
   have HK := Lib.hid (fun W h => HKI.out m W h HWM.out)
   have HD := Lib.hid (fun W h => HDA.out m W h HWM.out)
   have HU := Lib.hid (fun W h => HUP.out m W h HWM.out)
   have HL := Lib.hid (fun W h => HLI.out m W h HWM.out)
   obtain ⟨k6, hk6⟩ := (same6_ev (entsOf L m) (by have := HEL.out m; have := HSZ.out; omega)).rounds
   have HS6 := Lib.hid (fun A c A' c' W h1 h2 h3 h4 => linhayref06_Same.calls k6 A c (entsOf L m) A' c' (entsOf L m) true W h1 h2 h3 h4 hk6)
   rw [HND.out m] at HK HD HU HL
   have HED2 := Lib.hid (HED.out m)
   generalize entsOf L m = es at *
   generalize atR L m = q at *
   obtain ⟨p0, p1, p2, p3, p4⟩ := q
   simp only [] at HK HD HU HL HA HED2
   clear hm1 hm2 hwm hkm hkl hk6 HAT HL7 HKI HDA HUP HLI HND HED HEL
   go_upto_region 7 with (go_at_call 68; refine (HA.out _ (HCT.out _ HBr.out)).mono ?_; rintro e w3 ⟨rfl, hb⟩; have HB3 := Lib.hid (HBr.out.trans (hb.mono HBr.out.size)); clear hb x0 x1)
   have HB4 := Lib.hid (HB3.out.alloc HB3.out.size (.cells #[.int .i64 p0, .int .i64 p1, .string p2, .int .i64 p3, .string p4] 106))
   have H4 := Lib.hid (heap_alloc_new w3 (.cells #[.int .i64 p0, .int .i64 p1, .string p2, .int .i64 p3, .string p4] 106))
   generalize w3.alloc (.cells #[.int .i64 p0, .int .i64 p1, .string p2, .int .i64 p3, .string p4] 106) = w4 at HB4 H4 ⊢
   generalize w3.heap.size = g at H4 ⊢
   have HY := Lib.hid (fun (W : World) (hb : Below w4.heap.size w4 W) => show W.cell? ⟨g, 1, none⟩ = some (.int .i64 p1) ∧ W.cell? ⟨g, 3, none⟩ = some (.int .i64 p3) ∧ W.cell? ⟨g, 4, none⟩ = some (.string p4) by
    obtain ⟨-, t1, -, t3, t4⟩ := node_cells ((hb.block _ (blk_lt H4.out)).trans H4.out)
    exact ⟨t1, t3, t4⟩)
   have HTB := Lib.hid (fun (W : World) (hb : Below w4.heap.size w4 W) => HTT.out W (HB4.out.trans (hb.mono HB4.out.size)))
   have HE4 := Lib.hid (Below.refl w4.heap.size w4)
   obtain ⟨y1, y3, y4⟩ := HY.out _ HE4.out
   have e1 : (p3 != p3) = false := by simp
   have e2 : (p4.toList != p4.toList) = false := by simp
   have e3 : (p1 != p1) = false := by simp
   go_region_held3 (fun w' => w'.cell? ⟨g, 1, none⟩ = some (.int .i64 p1) ∧ w'.cell? ⟨g, 3, none⟩ = some (.int .i64 p3) ∧ w'.cell? ⟨g, 4, none⟩ = some (.string p4)) (first | (go_keep; done) | exact HY.out _ HE7.out | exact HY.out _ HE6.out | exact HY.out _ HE5.out)
    (first
     | (go_at_call 69; refine (HK.out _ (HTB.out _ (by first | exact HE4.out | exact below_drew HE4.out)).at_).mono ?_; rintro e w5 ⟨rfl, hb⟩; have HE5 : Hid (Below w4.heap.size w4 w5) := Lib.hid (by first | exact HE4.out.trans (hb.mono HE4.out.size) | exact (below_drew HE4.out).trans (hb.mono HE4.out.size)); clear hb)
     | (go_at_call 70; refine (HD.out _ (HTB.out _ HE5.out).at_).mono ?_; rintro e w6 ⟨rfl, hb⟩; have HE6 : Hid (Below w4.heap.size w4 w6) := Lib.hid (HE5.out.trans (hb.mono HE5.out.size)); clear hb)
     | (go_at_call 71; refine (HU.out _ (HTB.out _ HE6.out).at_).mono ?_; rintro e w7 ⟨rfl, hb⟩; have HE7 : Hid (Below w4.heap.size w4 w7) := Lib.hid (HE6.out.trans (hb.mono HE6.out.size)); clear hb))
   clear y1 y3 y4 e1 e2 e3 HE5 HE6 HK HD HU HA
   have HB7 := Lib.hid (HB4.out.trans (HE7.out.mono HB4.out.size))
   obtain ⟨x0, x1⟩ := HX.out _ HB7.out
   go_upto_region 10 with (go_at_call 72; refine (HLL.out _ (HCT.out _ HB7.out)).mono ?_; rintro e w8 ⟨v8, rfl, ho8, hb⟩; obtain ⟨A8, c8, rfl, hl8, hC8⟩ := Kd.R_reads ho8; have HE8 := Lib.hid (HE7.out.trans (hb.mono HE7.out.size)); have HC8 := Lib.hid hC8; have HL8 := Lib.hid hl8; clear hb hC8 hl8 ho8 x0 x1)
   obtain ⟨y1, y3, y4⟩ := HY.out _ HE8.out
   by_cases k1 : p3 = 1
   ·
    have b1 : (p3 != 1) = false := bne_eq_false_iff_eq.2 k1
    clear k1 HED2
    go_wp2_with (first
     | (go_at_call 74; refine (HL.out _ (HTB.out _ HE8.out).at_).mono ?_; rintro e w9 ⟨v9, rfl, ho9, hb⟩; obtain ⟨A9, c9, rfl, hl9, hC9⟩ := Kd.R_reads ho9; have HE9 := Lib.hid (HE8.out.trans (hb.mono HE8.out.size)); have HC9 := Lib.hid hC9; have HL9 := Lib.hid hl9; have HC8 := Lib.hid (Kd.C_below HC8.out hb); clear hb hC9 hl9 ho9 y1 y3 y4)
     | (go_at_call 73; refine (HS6.out _ _ _ _ _ HC9.out HL9.out HC8.out HL8.out).mono ?_; rintro e w10 ⟨rfl, hd⟩; have HE10 := Lib.hid (HE9.out.trans (hd.below.mono HE9.out.size)); clear hd))
    go_roundw
    case rel => have := HM.out; have := HLA.out; exact ⟨m + 1, by rw [wmid (by omega)], by omega, by omega, HB4.out.trans (HE10.out.mono HB4.out.size)⟩
    case measure => have := HM.out; have := HLA.out; rw [wmid (by omega)]; simp only [intOf]; omega
   ·
    have b1 : (p3 != 1) = true := bne_iff_ne.2 k1
    have hes := HED2.out k1
    subst hes
    simp only [List.length_nil] at HL HLL HS6 HC8 HL8
    clear k1 HED2
    go_wp2_with (first
     | (go_at_call 74; refine (HL.out _ (HTB.out _ HE8.out).at_).mono ?_; rintro e w9 ⟨v9, rfl, ho9, hb⟩; obtain ⟨A9, c9, rfl, hl9, hC9⟩ := Kd.R_reads ho9; have HE9 := Lib.hid (HE8.out.trans (hb.mono HE8.out.size)); have HC9 := Lib.hid hC9; have HL9 := Lib.hid hl9; have HC8 := Lib.hid (Kd.C_below HC8.out hb); clear hb hC9 hl9 ho9 y1 y3 y4)
     | (go_at_call 73; refine (HS6.out _ _ none 0 _ HC9.out HL9.out C_none (Nat.le_refl 0)).mono ?_; rintro e w10 ⟨rfl, hd⟩; have HE10 := Lib.hid (HE9.out.trans (hd.below.mono HE9.out.size)); clear hd))
    go_roundw
    case rel => have := HM.out; have := HLA.out; exact ⟨m + 1, by rw [wmid (by omega)], by omega, by omega, HB4.out.trans (HE10.out.mono HB4.out.size)⟩
    case measure => have := HM.out; have := HLA.out; rw [wmid (by omega)]; simp only [intOf]; omega
  ·
   have hlt : ¬ m ≤ wrap64 (last + 1) := by rw [wmid (by omega)]; exact h
   clear HAT HL7 HKI HDA HUP HLI HND HED HEL
   go_wp2
   go_ret
   exact ⟨rfl, HZ.out.trans (HBr.out.mono HZ.out.size)⟩
end Go.Proofs.YtnpeeiikdcankaaGreat.Tw
