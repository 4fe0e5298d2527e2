/- linhaylaw10.FsApplies, walked: it returns true. -/
import Derived.Test.YtnpeeiikdcankaaGreatQA0
import Derived.Test.YtnpeeiikdcankaaGreatQA1
import Derived.Test.YtnpeeiikdcankaaGreatQA3
import Derived.Test.YtnpeeiikdcankaaGreatQA4
import Derived.Test.YtnpeeiikdcankaaGreatQA5

set_option linter.unusedVariables false
set_option linter.unusedSimpArgs false

set_option maxHeartbeats 8000000
set_option maxRecDepth 1000000
namespace Go.Proofs.YtnpeeiikdcankaaGreat.Tw
open Go Go.RowKit Go.Shelf Go.Proofs Go.Proofs.YtnpeeiikdcankaaGreat Go.Proofs.YtnpeeiikdcankaaGreatW.PrintWords Go.Proofs.YtnpeeiikdcankaaGreat.Ext Go.Proofs.YtnpeeiikdcankaaGreat.X Go.Proofs.YtnpeeiikdcankaaGreat.Pu
theorem rdo9_calls (L : List RN) (last : Int) (v : Value) (k : Int) (a t : ByteArray) (w : World) (h : RAt w v L last) (hG : GoodL L last) (hM : GoodM L) (hla : last < 1000000) :
  Calls Tryz.prog 15 #[v, .agg #[.int .i64 k, .string a, .string t]] w (Done w (doP L last k a t)) := by
 obtain ⟨A, c, rfl, hle, hC⟩ := h
 have hu30 := Tryz.underlying30
 have hu36 := Tryz.underlying36
 obtain ⟨q1, q2, q3, q4, -⟩ := three_blocks w (.cells #[.slice A L.length c, .int .i64 last] 30) (.cells #[.int .i64 k, .string a, .string t] 36) (.cells #[.slice none 0 0, .int .i64 0] 30)
 have HK := qh (And.intro q1 (And.intro q2 (And.intro q3 q4)))
 have HC := qh hC
 have HLE := qh hle
 have HS1 := qh (fun v W h => rput9_calls L last v a 1 ⟨#[]⟩ W h hG hM hla)
 have HS2 := qh (fun v W h => rcut9_calls L last v a true W h hG hM)
 have HS3 := qh (fun v W h => rput9_calls L last v a 3 t W h hG hM hla)
 have HS4 := qh (fun v W h => rcut9_calls L last v a false W h hG hM)
 have HS5 := qh (fun v W h => rren9_calls L last v a t W h hG hM)
 have HS6 := qh (fun v W h => rwrite9_calls L last v a t W h hG hM hla)
 unfold doP
 generalize mkP L last a 1 ⟨#[]⟩ = o1 at *
 generalize mkP L last a 3 t = o3 at *
 generalize cutP L last a true = o2 at *
 generalize cutP L last a false = o4 at *
 generalize renP L last a t = o5 at *
 generalize wrP L last a t = o6 at *
 obtain ⟨L1, n1, g1⟩ := o1
 obtain ⟨L2, n2, g2⟩ := o2
 obtain ⟨L3, n3, g3⟩ := o3
 obtain ⟨L4, n4, g4⟩ := o4
 obtain ⟨L5, n5, g5⟩ := o5
 obtain ⟨L6, n6, g6⟩ := o6
 clear hC hle q1 q2 q3 q4 hG hM hla
 by_cases k1 : k = 1
 ·
  subst k1
  rw [if_pos rfl]
  clear HS2 HS3 HS4 HS5 HS6
  go_enter Tryz.func15, Tryz.ntmps15
  go_upto_region 1 with (fail)
  generalize ((w.alloc (.cells #[.slice A L.length c, .int .i64 last] 30)).alloc (.cells #[.int .i64 1, .string a, .string t] 36)).alloc (.cells #[.slice none 0 0, .int .i64 0] 30) = w2 at HK ⊢
  have HR1 := qh HK.out.1
  have HT := qh HK.out.2.1
  have HR2 := qh HK.out.2.2.1
  have HB2 := qh HK.out.2.2.2
  clear HK
  generalize hb0 : w.heap.size = b at HR1 HT HR2 ⊢
  have HW0 := qh hb0
  clear hb0
  have HX := qh (fun (W : World) (hb : Below w2.heap.size w2 W) => show (W.cell? ⟨b, 0, none⟩ = some (.slice A L.length c) ∧ W.cell? ⟨b, 1, none⟩ = some (.int .i64 last)) ∧ (W.cell? ⟨b + 1 + 1, 0, none⟩ = some (.slice none 0 0) ∧ W.cell? ⟨b + 1 + 1, 1, none⟩ = some (.int .i64 0)) ∧ (W.frozen? ⟨b + 1 + 1, 0, none⟩ = false ∧ W.frozen? ⟨b + 1 + 1, 1, none⟩ = false) by
   have e1 := (hb.block _ (blk_lt HR1.out)).trans HR1.out
   have e2 := (hb.block _ (blk_lt HR2.out)).trans HR2.out
   exact ⟨⟨by rw [blk_cell e1]; rfl, by rw [blk_cell e1]; rfl⟩, ⟨by rw [blk_cell e2]; rfl, by rw [blk_cell e2]; rfl⟩, blk_frozen e2 0, blk_frozen e2 1⟩)
  have HRA := qh (fun (W : World) (hb : Below w2.heap.size w2 W) => show RAt W (.agg #[.slice A L.length c, .int .i64 last]) L last from ⟨A, c, rfl, HLE.out, Kd.C_below HC.out (HB2.out.trans (hb.mono HB2.out.size))⟩)
  have HBi := qh (Below.refl w2.heap.size w2)
  obtain ⟨⟨x0, x1⟩, ⟨r0, r1⟩, f0, f1⟩ := HX.out _ HBi.out
  have y0 : w2.cell? ⟨b + 1, 0, none⟩ = some (.int .i64 1) := by rw [blk_cell HT.out]; rfl
  have y1 : w2.cell? ⟨b + 1, 1, none⟩ = some (.string a) := by rw [blk_cell HT.out]; rfl
  have y2 : w2.cell? ⟨b + 1, 2, none⟩ = some (.string t) := by rw [blk_cell HT.out]; rfl
  go_wp2_with (go_at_call 58; refine (HS1.out _ _ (HRA.out _ HBi.out)).mono ?_; rintro e w3 ⟨v7, rfl, hR7, hb⟩; have HQ := qh hR7; obtain ⟨A7, c7, rfl, h7, C7⟩ := hR7; have HB3 := qh (HBi.out.trans (hb.mono HBi.out.size)); clear hb h7 C7 y0 y1 y2; clear x0 x1 r0 r1 f0 f1; obtain ⟨⟨x0, x1⟩, ⟨r0, r1⟩, f0, f1⟩ := HX.out _ HB3.out)
  obtain ⟨hT, hB9, hbt⟩ := fin4 (.slice A7 L1.length c7) (.int .i64 n1) HR2.out HB2.out HB3.out (by rw [HW0.out]; exact Nat.le_succ_of_le (Nat.le_succ b))
  have hR9 := RAt.but HQ.out hbt
  clear hbt
  generalize (w3.setCell ⟨b + 1 + 1, 0, none⟩ (.slice A7 L1.length c7)).setCell ⟨b + 1 + 1, 1, none⟩ (.int .i64 n1) = w9' at hT hB9 hR9 ⊢
  obtain ⟨t0, t1⟩ := hT
  refine bodyPost_ret (v := .tuple #[.agg #[.slice A7 L1.length c7, .int .i64 n1], .int .i64 g1]) (by simp [results, Tryz.results15, go_sem, t0, t1, hu30]) rfl ⟨.agg #[.slice A7 L1.length c7, .int .i64 n1], rfl, hR9, hB9⟩
 ·
  have b1 : (k == 1) = false := beq_eq_false_iff_ne.2 k1
  by_cases k2 : k = 2
  ·
   subst k2
   rw [if_neg (by decide), if_pos rfl]
   clear HS1 HS3 HS4 HS5 HS6
   go_enter Tryz.func15, Tryz.ntmps15
   go_upto_region 1 with (fail)
   generalize ((w.alloc (.cells #[.slice A L.length c, .int .i64 last] 30)).alloc (.cells #[.int .i64 2, .string a, .string t] 36)).alloc (.cells #[.slice none 0 0, .int .i64 0] 30) = w2 at HK ⊢
   have HR1 := qh HK.out.1
   have HT := qh HK.out.2.1
   have HR2 := qh HK.out.2.2.1
   have HB2 := qh HK.out.2.2.2
   clear HK
   generalize hb0 : w.heap.size = b at HR1 HT HR2 ⊢
   have HW0 := qh hb0
   clear hb0
   have HX := qh (fun (W : World) (hb : Below w2.heap.size w2 W) => show (W.cell? ⟨b, 0, none⟩ = some (.slice A L.length c) ∧ W.cell? ⟨b, 1, none⟩ = some (.int .i64 last)) ∧ (W.cell? ⟨b + 1 + 1, 0, none⟩ = some (.slice none 0 0) ∧ W.cell? ⟨b + 1 + 1, 1, none⟩ = some (.int .i64 0)) ∧ (W.frozen? ⟨b + 1 + 1, 0, none⟩ = false ∧ W.frozen? ⟨b + 1 + 1, 1, none⟩ = false) by
    have e1 := (hb.block _ (blk_lt HR1.out)).trans HR1.out
    have e2 := (hb.block _ (blk_lt HR2.out)).trans HR2.out
    exact ⟨⟨by rw [blk_cell e1]; rfl, by rw [blk_cell e1]; rfl⟩, ⟨by rw [blk_cell e2]; rfl, by rw [blk_cell e2]; rfl⟩, blk_frozen e2 0, blk_frozen e2 1⟩)
   have HRA := qh (fun (W : World) (hb : Below w2.heap.size w2 W) => show RAt W (.agg #[.slice A L.length c, .int .i64 last]) L last from ⟨A, c, rfl, HLE.out, Kd.C_below HC.out (HB2.out.trans (hb.mono HB2.out.size))⟩)
   have HBi := qh (Below.refl w2.heap.size w2)
   obtain ⟨⟨x0, x1⟩, ⟨r0, r1⟩, f0, f1⟩ := HX.out _ HBi.out
   have y0 : w2.cell? ⟨b + 1, 0, none⟩ = some (.int .i64 2) := by rw [blk_cell HT.out]; rfl
   have y1 : w2.cell? ⟨b + 1, 1, none⟩ = some (.string a) := by rw [blk_cell HT.out]; rfl
   have y2 : w2.cell? ⟨b + 1, 2, none⟩ = some (.string t) := by rw [blk_cell HT.out]; rfl
   go_wp2_with (go_at_call 59; refine (HS2.out _ _ (HRA.out _ HBi.out)).mono ?_; rintro e w3 ⟨v7, rfl, hR7, hb⟩; have HQ := qh hR7; obtain ⟨A7, c7, rfl, h7, C7⟩ := hR7; have HB3 := qh (HBi.out.trans (hb.mono HBi.out.size)); clear hb h7 C7 y0 y1 y2; clear x0 x1 r0 r1 f0 f1; obtain ⟨⟨x0, x1⟩, ⟨r0, r1⟩, f0, f1⟩ := HX.out _ HB3.out)
   obtain ⟨hT, hB9, hbt⟩ := fin4 (.slice A7 L2.length c7) (.int .i64 n2) HR2.out HB2.out HB3.out (by rw [HW0.out]; exact Nat.le_succ_of_le (Nat.le_succ b))
   have hR9 := RAt.but HQ.out hbt
   clear hbt
   generalize (w3.setCell ⟨b + 1 + 1, 0, none⟩ (.slice A7 L2.length c7)).setCell ⟨b + 1 + 1, 1, none⟩ (.int .i64 n2) = w9' at hT hB9 hR9 ⊢
   obtain ⟨t0, t1⟩ := hT
   refine bodyPost_ret (v := .tuple #[.agg #[.slice A7 L2.length c7, .int .i64 n2], .int .i64 g2]) (by simp [results, Tryz.results15, go_sem, t0, t1, hu30]) rfl ⟨.agg #[.slice A7 L2.length c7, .int .i64 n2], rfl, hR9, hB9⟩
  ·
   have b2 : (k == 2) = false := beq_eq_false_iff_ne.2 k2
   by_cases k3 : k = 3
   ·
    subst k3
    rw [if_neg (by decide), if_neg (by decide), if_pos rfl]
    clear HS1 HS2 HS4 HS5 HS6
    go_enter Tryz.func15, Tryz.ntmps15
    go_upto_region 1 with (fail)
    generalize ((w.alloc (.cells #[.slice A L.length c, .int .i64 last] 30)).alloc (.cells #[.int .i64 3, .string a, .string t] 36)).alloc (.cells #[.slice none 0 0, .int .i64 0] 30) = w2 at HK ⊢
    have HR1 := qh HK.out.1
    have HT := qh HK.out.2.1
    have HR2 := qh HK.out.2.2.1
    have HB2 := qh HK.out.2.2.2
    clear HK
    generalize hb0 : w.heap.size = b at HR1 HT HR2 ⊢
    have HW0 := qh hb0
    clear hb0
    have HX := qh (fun (W : World) (hb : Below w2.heap.size w2 W) => show (W.cell? ⟨b, 0, none⟩ = some (.slice A L.length c) ∧ W.cell? ⟨b, 1, none⟩ = some (.int .i64 last)) ∧ (W.cell? ⟨b + 1 + 1, 0, none⟩ = some (.slice none 0 0) ∧ W.cell? ⟨b + 1 + 1, 1, none⟩ = some (.int .i64 0)) ∧ (W.frozen? ⟨b + 1 + 1, 0, none⟩ = false ∧ W.frozen? ⟨b + 1 + 1, 1, none⟩ = false) by
     have e1 := (hb.block _ (blk_lt HR1.out)).trans HR1.out
     have e2 := (hb.block _ (blk_lt HR2.out)).trans HR2.out
     exact ⟨⟨by rw [blk_cell e1]; rfl, by rw [blk_cell e1]; rfl⟩, ⟨by rw [blk_cell e2]; rfl, by rw [blk_cell e2]; rfl⟩, blk_frozen e2 0, blk_frozen e2 1⟩)
    have HRA := qh (fun (W : World) (hb : Below w2.heap.size w2 W) => show RAt W (.agg #[.slice A L.length c, .int .i64 last]) L last from ⟨A, c, rfl, HLE.out, Kd.C_below HC.out (HB2.out.trans (hb.mono HB2.out.size))⟩)
    have HBi := qh (Below.refl w2.heap.size w2)
    obtain ⟨⟨x0, x1⟩, ⟨r0, r1⟩, f0, f1⟩ := HX.out _ HBi.out
    have y0 : w2.cell? ⟨b + 1, 0, none⟩ = some (.int .i64 3) := by rw [blk_cell HT.out]; rfl
    have y1 : w2.cell? ⟨b + 1, 1, none⟩ = some (.string a) := by rw [blk_cell HT.out]; rfl
    have y2 : w2.cell? ⟨b + 1, 2, none⟩ = some (.string t) := by rw [blk_cell HT.out]; rfl
    go_wp2_with (go_at_call 58; refine (HS3.out _ _ (HRA.out _ HBi.out)).mono ?_; rintro e w3 ⟨v7, rfl, hR7, hb⟩; have HQ := qh hR7; obtain ⟨A7, c7, rfl, h7, C7⟩ := hR7; have HB3 := qh (HBi.out.trans (hb.mono HBi.out.size)); clear hb h7 C7 y0 y1 y2; clear x0 x1 r0 r1 f0 f1; obtain ⟨⟨x0, x1⟩, ⟨r0, r1⟩, f0, f1⟩ := HX.out _ HB3.out)
    obtain ⟨hT, hB9, hbt⟩ := fin4 (.slice A7 L3.length c7) (.int .i64 n3) HR2.out HB2.out HB3.out (by rw [HW0.out]; exact Nat.le_succ_of_le (Nat.le_succ b))
    have hR9 := RAt.but HQ.out hbt
    clear hbt
    generalize (w3.setCell ⟨b + 1 + 1, 0, none⟩ (.slice A7 L3.length c7)).setCell ⟨b + 1 + 1, 1, none⟩ (.int .i64 n3) = w9' at hT hB9 hR9 ⊢
    obtain ⟨t0, t1⟩ := hT
    refine bodyPost_ret (v := .tuple #[.agg #[.slice A7 L3.length c7, .int .i64 n3], .int .i64 g3]) (by simp [results, Tryz.results15, go_sem, t0, t1, hu30]) rfl ⟨.agg #[.slice A7 L3.length c7, .int .i64 n3], rfl, hR9, hB9⟩
   ·
    have b3 : (k == 3) = false := beq_eq_false_iff_ne.2 k3
    by_cases k4 : k = 4
    ·
     subst k4
     rw [if_neg (by decide), if_neg (by decide), if_neg (by decide), if_pos rfl]
     clear HS1 HS2 HS3 HS5 HS6
     go_enter Tryz.func15, Tryz.ntmps15
     go_upto_region 1 with (fail)
     generalize ((w.alloc (.cells #[.slice A L.length c, .int .i64 last] 30)).alloc (.cells #[.int .i64 4, .string a, .string t] 36)).alloc (.cells #[.slice none 0 0, .int .i64 0] 30) = w2 at HK ⊢
     have HR1 := qh HK.out.1
     have HT := qh HK.out.2.1
     have HR2 := qh HK.out.2.2.1
     have HB2 := qh HK.out.2.2.2
     clear HK
     generalize hb0 : w.heap.size = b at HR1 HT HR2 ⊢
     have HW0 := qh hb0
     clear hb0
     have HX := qh (fun (W : World) (hb : Below w2.heap.size w2 W) => show (W.cell? ⟨b, 0, none⟩ = some (.slice A L.length c) ∧ W.cell? ⟨b, 1, none⟩ = some (.int .i64 last)) ∧ (W.cell? ⟨b + 1 + 1, 0, none⟩ = some (.slice none 0 0) ∧ W.cell? ⟨b + 1 + 1, 1, none⟩ = some (.int .i64 0)) ∧ (W.frozen? ⟨b + 1 + 1, 0, none⟩ = false ∧ W.frozen? ⟨b + 1 + 1, 1, none⟩ = false) by
      have e1 := (hb.block _ (blk_lt HR1.out)).trans HR1.out
      have e2 := (hb.block _ (blk_lt HR2.out)).trans HR2.out
      exact ⟨⟨by rw [blk_cell e1]; rfl, by rw [blk_cell e1]; rfl⟩, ⟨by rw [blk_cell e2]; rfl, by rw [blk_cell e2]; rfl⟩, blk_frozen e2 0, blk_frozen e2 1⟩)
     have HRA := qh (fun (W : World) (hb : Below w2.heap.size w2 W) => show RAt W (.agg #[.slice A L.length c, .int .i64 last]) L last from ⟨A, c, rfl, HLE.out, Kd.C_below HC.out (HB2.out.trans (hb.mono HB2.out.size))⟩)
     have HBi := qh (Below.refl w2.heap.size w2)
     obtain ⟨⟨x0, x1⟩, ⟨r0, r1⟩, f0, f1⟩ := HX.out _ HBi.out
     have y0 : w2.cell? ⟨b + 1, 0, none⟩ = some (.int .i64 4) := by rw [blk_cell HT.out]; rfl
     have y1 : w2.cell? ⟨b + 1, 1, none⟩ = some (.string a) := by rw [blk_cell HT.out]; rfl
     have y2 : w2.cell? ⟨b + 1, 2, none⟩ = some (.string t) := by rw [blk_cell HT.out]; rfl
     go_wp2_with (go_at_call 59; refine (HS4.out _ _ (HRA.out _ HBi.out)).mono ?_; rintro e w3 ⟨v7, rfl, hR7, hb⟩; have HQ := qh hR7; obtain ⟨A7, c7, rfl, h7, C7⟩ := hR7; have HB3 := qh (HBi.out.trans (hb.mono HBi.out.size)); clear hb h7 C7 y0 y1 y2; clear x0 x1 r0 r1 f0 f1; obtain ⟨⟨x0, x1⟩, ⟨r0, r1⟩, f0, f1⟩ := HX.out _ HB3.out)
     obtain ⟨hT, hB9, hbt⟩ := fin4 (.slice A7 L4.length c7) (.int .i64 n4) HR2.out HB2.out HB3.out (by rw [HW0.out]; exact Nat.le_succ_of_le (Nat.le_succ b))
     have hR9 := RAt.but HQ.out hbt
     clear hbt
     generalize (w3.setCell ⟨b + 1 + 1, 0, none⟩ (.slice A7 L4.length c7)).setCell ⟨b + 1 + 1, 1, none⟩ (.int .i64 n4) = w9' at hT hB9 hR9 ⊢
     obtain ⟨t0, t1⟩ := hT
     refine bodyPost_ret (v := .tuple #[.agg #[.slice A7 L4.length c7, .int .i64 n4], .int .i64 g4]) (by simp [results, Tryz.results15, go_sem, t0, t1, hu30]) rfl ⟨.agg #[.slice A7 L4.length c7, .int .i64 n4], rfl, hR9, hB9⟩
    ·
     have b4 : (k == 4) = false := beq_eq_false_iff_ne.2 k4
     by_cases k5 : k = 5
     ·
      subst k5
      rw [if_neg (by decide), if_neg (by decide), if_neg (by decide), if_neg (by decide), if_pos rfl]
      clear HS1 HS2 HS3 HS4 HS6
      go_enter Tryz.func15, Tryz.ntmps15
      go_upto_region 1 with (fail)
      generalize ((w.alloc (.cells #[.slice A L.length c, .int .i64 last] 30)).alloc (.cells #[.int .i64 5, .string a, .string t] 36)).alloc (.cells #[.slice none 0 0, .int .i64 0] 30) = w2 at HK ⊢
      have HR1 := qh HK.out.1
      have HT := qh HK.out.2.1
      have HR2 := qh HK.out.2.2.1
      have HB2 := qh HK.out.2.2.2
      clear HK
      generalize hb0 : w.heap.size = b at HR1 HT HR2 ⊢
      have HW0 := qh hb0
      clear hb0
      have HX := qh (fun (W : World) (hb : Below w2.heap.size w2 W) => show (W.cell? ⟨b, 0, none⟩ = some (.slice A L.length c) ∧ W.cell? ⟨b, 1, none⟩ = some (.int .i64 last)) ∧ (W.cell? ⟨b + 1 + 1, 0, none⟩ = some (.slice none 0 0) ∧ W.cell? ⟨b + 1 + 1, 1, none⟩ = some (.int .i64 0)) ∧ (W.frozen? ⟨b + 1 + 1, 0, none⟩ = false ∧ W.frozen? ⟨b + 1 + 1, 1, none⟩ = false) by
       have e1 := (hb.block _ (blk_lt HR1.out)).trans HR1.out
       have e2 := (hb.block _ (blk_lt HR2.out)).trans HR2.out
       exact ⟨⟨by rw [blk_cell e1]; rfl, by rw [blk_cell e1]; rfl⟩, ⟨by rw [blk_cell e2]; rfl, by rw [blk_cell e2]; rfl⟩, blk_frozen e2 0, blk_frozen e2 1⟩)
      have HRA := qh (fun (W : World) (hb : Below w2.heap.size w2 W) => show RAt W (.agg #[.slice A L.length c, .int .i64 last]) L last from ⟨A, c, rfl, HLE.out, Kd.C_below HC.out (HB2.out.trans (hb.mono HB2.out.size))⟩)
      have HBi := qh (Below.refl w2.heap.size w2)
      obtain ⟨⟨x0, x1⟩, ⟨r0, r1⟩, f0, f1⟩ := HX.out _ HBi.out
      have y0 : w2.cell? ⟨b + 1, 0, none⟩ = some (.int .i64 5) := by rw [blk_cell HT.out]; rfl
      have y1 : w2.cell? ⟨b + 1, 1, none⟩ = some (.string a) := by rw [blk_cell HT.out]; rfl
      have y2 : w2.cell? ⟨b + 1, 2, none⟩ = some (.string t) := by rw [blk_cell HT.out]; rfl
      go_wp2_with (go_at_call 60; refine (HS5.out _ _ (HRA.out _ HBi.out)).mono ?_; rintro e w3 ⟨v7, rfl, hR7, hb⟩; have HQ := qh hR7; obtain ⟨A7, c7, rfl, h7, C7⟩ := hR7; have HB3 := qh (HBi.out.trans (hb.mono HBi.out.size)); clear hb h7 C7 y0 y1 y2; clear x0 x1 r0 r1 f0 f1; obtain ⟨⟨x0, x1⟩, ⟨r0, r1⟩, f0, f1⟩ := HX.out _ HB3.out)
      obtain ⟨hT, hB9, hbt⟩ := fin4 (.slice A7 L5.length c7) (.int .i64 n5) HR2.out HB2.out HB3.out (by rw [HW0.out]; exact Nat.le_succ_of_le (Nat.le_succ b))
      have hR9 := RAt.but HQ.out hbt
      clear hbt
      generalize (w3.setCell ⟨b + 1 + 1, 0, none⟩ (.slice A7 L5.length c7)).setCell ⟨b + 1 + 1, 1, none⟩ (.int .i64 n5) = w9' at hT hB9 hR9 ⊢
      obtain ⟨t0, t1⟩ := hT
      refine bodyPost_ret (v := .tuple #[.agg #[.slice A7 L5.length c7, .int .i64 n5], .int .i64 g5]) (by simp [results, Tryz.results15, go_sem, t0, t1, hu30]) rfl ⟨.agg #[.slice A7 L5.length c7, .int .i64 n5], rfl, hR9, hB9⟩
     ·
      have b5 : (k == 5) = false := beq_eq_false_iff_ne.2 k5
      by_cases k6 : k = 6
      ·
       subst k6
       rw [if_neg (by decide), if_neg (by decide), if_neg (by decide), if_neg (by decide), if_neg (by decide), if_pos rfl]
       clear HS1 HS2 HS3 HS4 HS5
       go_enter Tryz.func15, Tryz.ntmps15
       go_upto_region 1 with (fail)
       generalize ((w.alloc (.cells #[.slice A L.length c, .int .i64 last] 30)).alloc (.cells #[.int .i64 6, .string a, .string t] 36)).alloc (.cells #[.slice none 0 0, .int .i64 0] 30) = w2 at HK ⊢
       have HR1 := qh HK.out.1
       have HT := qh HK.out.2.1
       have HR2 := qh HK.out.2.2.1
       have HB2 := qh HK.out.2.2.2
       clear HK
       generalize hb0 : w.heap.size = b at HR1 HT HR2 ⊢
       have HW0 := qh hb0
       clear hb0
       have HX := qh (fun (W : World) (hb : Below w2.heap.size w2 W) => show (W.cell? ⟨b, 0, none⟩ = some (.slice A L.length c) ∧ W.cell? ⟨b, 1, none⟩ = some (.int .i64 last)) ∧ (W.cell? ⟨b + 1 + 1, 0, none⟩ = some (.slice none 0 0) ∧ W.cell? ⟨b + 1 + 1, 1, none⟩ = some (.int .i64 0)) ∧ (W.frozen? ⟨b + 1 + 1, 0, none⟩ = false ∧ W.frozen? ⟨b + 1 + 1, 1, none⟩ = false) by
        have e1 := (hb.block _ (blk_lt HR1.out)).trans HR1.out
        have e2 := (hb.block _ (blk_lt HR2.out)).trans HR2.out
        exact ⟨⟨by rw [blk_cell e1]; rfl, by rw [blk_cell e1]; rfl⟩, ⟨by rw [blk_cell e2]; rfl, by rw [blk_cell e2]; rfl⟩, blk_frozen e2 0, blk_frozen e2 1⟩)
       have HRA := qh (fun (W : World) (hb : Below w2.heap.size w2 W) => show RAt W (.agg #[.slice A L.length c, .int .i64 last]) L last from ⟨A, c, rfl, HLE.out, Kd.C_below HC.out (HB2.out.trans (hb.mono HB2.out.size))⟩)
       have HBi := qh (Below.refl w2.heap.size w2)
       obtain ⟨⟨x0, x1⟩, ⟨r0, r1⟩, f0, f1⟩ := HX.out _ HBi.out
       have y0 : w2.cell? ⟨b + 1, 0, none⟩ = some (.int .i64 6) := by rw [blk_cell HT.out]; rfl
       have y1 : w2.cell? ⟨b + 1, 1, none⟩ = some (.string a) := by rw [blk_cell HT.out]; rfl
       have y2 : w2.cell? ⟨b + 1, 2, none⟩ = some (.string t) := by rw [blk_cell HT.out]; rfl
       go_wp2_with (go_at_call 61; refine (HS6.out _ _ (HRA.out _ HBi.out)).mono ?_; rintro e w3 ⟨v7, rfl, hR7, hb⟩; have HQ := qh hR7; obtain ⟨A7, c7, rfl, h7, C7⟩ := hR7; have HB3 := qh (HBi.out.trans (hb.mono HBi.out.size)); clear hb h7 C7 y0 y1 y2; clear x0 x1 r0 r1 f0 f1; obtain ⟨⟨x0, x1⟩, ⟨r0, r1⟩, f0, f1⟩ := HX.out _ HB3.out)
       obtain ⟨hT, hB9, hbt⟩ := fin4 (.slice A7 L6.length c7) (.int .i64 n6) HR2.out HB2.out HB3.out (by rw [HW0.out]; exact Nat.le_succ_of_le (Nat.le_succ b))
       have hR9 := RAt.but HQ.out hbt
       clear hbt
       generalize (w3.setCell ⟨b + 1 + 1, 0, none⟩ (.slice A7 L6.length c7)).setCell ⟨b + 1 + 1, 1, none⟩ (.int .i64 n6) = w9' at hT hB9 hR9 ⊢
       obtain ⟨t0, t1⟩ := hT
       refine bodyPost_ret (v := .tuple #[.agg #[.slice A7 L6.length c7, .int .i64 n6], .int .i64 g6]) (by simp [results, Tryz.results15, go_sem, t0, t1, hu30]) rfl ⟨.agg #[.slice A7 L6.length c7, .int .i64 n6], rfl, hR9, hB9⟩
      ·
       have b6 : (k == 6) = false := beq_eq_false_iff_ne.2 k6
       rw [if_neg k1, if_neg k2, if_neg k3, if_neg k4, if_neg k5, if_neg k6]
       clear HS1 HS2 HS3 HS4 HS5 HS6 k1 k2 k3 k4 k5 k6
       go_enter Tryz.func15, Tryz.ntmps15
       go_upto_region 1 with (fail)
       generalize ((w.alloc (.cells #[.slice A L.length c, .int .i64 last] 30)).alloc (.cells #[.int .i64 k, .string a, .string t] 36)).alloc (.cells #[.slice none 0 0, .int .i64 0] 30) = w2 at HK ⊢
       have HR1 := qh HK.out.1
       have HT := qh HK.out.2.1
       have HR2 := qh HK.out.2.2.1
       have HB2 := qh HK.out.2.2.2
       clear HK
       generalize hb0 : w.heap.size = b at HR1 HT HR2 ⊢
       have HW0 := qh hb0
       clear hb0
       have HX := qh (fun (W : World) (hb : Below w2.heap.size w2 W) => show (W.cell? ⟨b, 0, none⟩ = some (.slice A L.length c) ∧ W.cell? ⟨b, 1, none⟩ = some (.int .i64 last)) ∧ (W.cell? ⟨b + 1 + 1, 0, none⟩ = some (.slice none 0 0) ∧ W.cell? ⟨b + 1 + 1, 1, none⟩ = some (.int .i64 0)) ∧ (W.frozen? ⟨b + 1 + 1, 0, none⟩ = false ∧ W.frozen? ⟨b + 1 + 1, 1, none⟩ = false) by
        have e1 := (hb.block _ (blk_lt HR1.out)).trans HR1.out
        have e2 := (hb.block _ (blk_lt HR2.out)).trans HR2.out
        exact ⟨⟨by rw [blk_cell e1]; rfl, by rw [blk_cell e1]; rfl⟩, ⟨by rw [blk_cell e2]; rfl, by rw [blk_cell e2]; rfl⟩, blk_frozen e2 0, blk_frozen e2 1⟩)
       have HRA := qh (fun (W : World) (hb : Below w2.heap.size w2 W) => show RAt W (.agg #[.slice A L.length c, .int .i64 last]) L last from ⟨A, c, rfl, HLE.out, Kd.C_below HC.out (HB2.out.trans (hb.mono HB2.out.size))⟩)
       have HBi := qh (Below.refl w2.heap.size w2)
       obtain ⟨⟨x0, x1⟩, ⟨r0, r1⟩, f0, f1⟩ := HX.out _ HBi.out
       have y0 : w2.cell? ⟨b + 1, 0, none⟩ = some (.int .i64 k) := by rw [blk_cell HT.out]; rfl
       have y1 : w2.cell? ⟨b + 1, 1, none⟩ = some (.string a) := by rw [blk_cell HT.out]; rfl
       have y2 : w2.cell? ⟨b + 1, 2, none⟩ = some (.string t) := by rw [blk_cell HT.out]; rfl
       go_wp2
       obtain ⟨hT, hB9, hbt⟩ := fin4 (.slice A L.length c) (.int .i64 last) HR2.out HB2.out HBi.out (by rw [HW0.out]; exact Nat.le_succ_of_le (Nat.le_succ b))
       have hR9 := RAt.but (HRA.out _ HBi.out) hbt
       clear hbt
       generalize (w2.setCell ⟨b + 1 + 1, 0, none⟩ (.slice A L.length c)).setCell ⟨b + 1 + 1, 1, none⟩ (.int .i64 last) = w9' at hT hB9 hR9 ⊢
       obtain ⟨t0, t1⟩ := hT
       refine bodyPost_ret (v := .tuple #[.agg #[.slice A L.length c, .int .i64 last], .int .i64 2]) (by simp [results, Tryz.results15, go_sem, t0, t1, hu30]) rfl ⟨.agg #[.slice A L.length c, .int .i64 last], rfl, hR9, hB9⟩
theorem rapply_calls (L : List RN) (last : Int) (v : Value) (A' : Option Addr) (c' : Nat) (ts : List S36) (w : World) (h : RAt w v L last) (hG : GoodL L last) (hM : GoodM L) (hC' : Kd.C k36 w A' ts.length ts) (hc' : ts.length ≤ c') (hl : ts.length ≤ 100000) (hla : last ≤ 100000) :
  Calls Tryz.prog 29 #[v, .slice A' ts.length c'] w fun e w' => ∃ v', e = .returned (.tuple #[v', .int .i64 ((appP L last ts).2 : Int), .int .i64 (appP L last ts).1.2.2]) ∧ RAt w' v' (appP L last ts).1.1 (appP L last ts).1.2.1 ∧ Below w.heap.size w w' := by
 obtain ⟨A, c, rfl, hle, hC⟩ := h
 have hu30 := Tryz.underlying30
 have hu36 := Tryz.underlying36
 obtain ⟨q1, q2, q3⟩ := two_blocks w (.cells #[.slice A L.length c, .int .i64 last] 30) (.cells #[.slice none 0 0, .int .i64 0] 30)
 have HK := qh (And.intro q1 (And.intro q2 (And.intro q3 (show RAt ((w.alloc (.cells #[.slice A L.length c, .int .i64 last] 30)).alloc (.cells #[.slice none 0 0, .int .i64 0] 30)) (.agg #[.slice A L.length c, .int .i64 last]) L last from ⟨A, c, rfl, hle, Kd.C_below hC q3⟩))))
 have HC' := qh hC'
 have HL := qh hl
 have HG := qh (And.intro hG (And.intro hM hla))
 obtain ⟨RR, hRR⟩ : ∃ RR, appP L last ts = RR := ⟨_, rfl⟩
 have HRR := qh hRR
 rw [hRR]
 clear hC hC' hl hG hM hla hRR hle q1 q2 q3
 go_enter Tryz.func29, Tryz.ntmps29
 go_upto_region 1 with (fail)
 generalize (w.alloc (.cells #[.slice A L.length c, .int .i64 last] 30)).alloc (.cells #[.slice none 0 0, .int .i64 0] 30) = w2 at HK ⊢
 generalize hb0 : w.heap.size = b at HK ⊢
 have HW0 := qh hb0
 clear hb0
 go_wp2
 go_loopw [7] (fun v7 wr => ∃ i : Nat, v7 = .int .i64 (i : Int) ∧ i ≤ ts.length ∧ ∃ (Li : List RN) (li : Int) (Ai : Option Addr) (ci : Nat), wr.heap[b]? = some (.cells #[.slice Ai Li.length ci, .int .i64 li] 30 (0, 0)) ∧ wr.heap[b + 1]? = some (.cells #[.slice none 0 0, .int .i64 0] 30 (0, 0)) ∧ RAt wr (.agg #[.slice Ai Li.length ci, .int .i64 li]) Li li ∧ Below b w wr ∧ GoodL Li li ∧ GoodM Li ∧ li ≤ last + i ∧ RR = ((appP Li li (ts.drop i)).1, i + (appP Li li (ts.drop i)).2)) (fun v _ => ts.length - (intOf v).toNat)
 case atStart => exact ⟨0, rfl, Nat.zero_le _, L, last, A, c, HK.out.1, HK.out.2.1, HK.out.2.2.2, HK.out.2.2.1, HG.out.1, HG.out.2.1, by omega, by rw [List.drop_zero, HRR.out, Nat.zero_add]⟩
 case round =>
  obtain ⟨i, rfl, hi, Li, li, Ai, ci, hcl, hrs, hR, hB, hG, hM, hli, hA⟩ := hrel
  have HB := qh hB
  have HRS := qh hrs
  by_cases hlt : i < ts.length
  ·
   have hlt' : (i : Int) < (ts.length : Int) := by omega
   have hi0 : (0 : Int) ≤ (i : Int) := by omega
   have hrd : rd_T36 ts (i : Int) = ts[i] := by simp [rd_T36, hlt]
   have HRD := qh hrd
   obtain ⟨ad, eA, -⟩ := at_T36 (Kd.C_below HC'.out (by rw [HW0.out]; exact hB)) (i : Int) hi0 hlt'
   subst eA
   rw [List.drop_eq_getElem_cons hlt] at hA
   have hA2 : RR = if (doP Li li ts[i].f0 ts[i].f1 ts[i].f2).2.2 ≠ 0 then (doP Li li ts[i].f0 ts[i].f1 ts[i].f2, i) else ((appP (doP Li li ts[i].f0 ts[i].f1 ts[i].f2).1 (doP Li li ts[i].f0 ts[i].f1 ts[i].f2).2.1 (ts.drop (i + 1))).1, (i + 1) + (appP (doP Li li ts[i].f0 ts[i].f1 ts[i].f2).1 (doP Li li ts[i].f0 ts[i].f1 ts[i].f2).2.1 (ts.drop (i + 1))).2) := by
    rw [hA, appP_cons]
    split
    · rfl
    · exact Prod.ext rfl (by show i + (_ + 1) = i + 1 + _; omega)
   clear hA
   generalize ts[i] = x at HRD hA2
   obtain ⟨k, a, t⟩ := x
   have HARG := qh (fun (W : World) (hb : Below b w W) => show W.cell? (ad.add (i * 3)) = some (.int .i64 k) ∧ W.cell? ⟨(ad.add (i * 3)).block, (ad.add (i * 3)).off + 1, none⟩ = some (.string a) ∧ W.cell? ⟨(ad.add (i * 3)).block, (ad.add (i * 3)).off + 2, none⟩ = some (.string t) by
    obtain ⟨ad', e', b0, b1, b2⟩ := at_T36 (Kd.C_below HC'.out (by rw [HW0.out]; exact hb)) (i : Int) hi0 hlt'
    cases e'
    rw [Int.toNat_natCast, HRD.out] at b0 b1 b2
    exact ⟨b0, b1, b2⟩)
   simp only [] at hA2
   have HA := qh hA2
   have hfd := fine_do hG hM k a t
   have hli2 : li < 1000000 := by have := HG.out.2.2; have := HL.out; omega
   have HDO := qh (fun v W h => rdo9_calls Li li v k a t W h hG hM hli2)
   have HFD := qh (And.intro hfd.good (And.intro hfd.goodm (And.intro (show (doP Li li k a t).2.1 ≤ last + (i + 1) by have := hfd.lst; omega) hfd.same)))
   have HI := qh (And.intro hlt hi)
   have HCL2 := qh hcl
   have HR2 := qh hR
   generalize doP Li li k a t = o at *
   obtain ⟨L7, n7, oE⟩ := o
   simp only [] at HA HFD
   clear hA2 hrd HRD hi hfd hi0 hcl hR hB hG hM hli hli2 HRR hrs
   have HK2 := qh (fun (W : World) (h : Below wr.heap.size wr W) => show W.cell? ⟨b, 0, none⟩ = some (.slice Ai Li.length ci) ∧ W.cell? ⟨b, 1, none⟩ = some (.int .i64 li) ∧ W.cell? (ad.add (i * 3)) = some (.int .i64 k) ∧ W.cell? ⟨(ad.add (i * 3)).block, (ad.add (i * 3)).off + 1, none⟩ = some (.string a) ∧ W.cell? ⟨(ad.add (i * 3)).block, (ad.add (i * 3)).off + 2, none⟩ = some (.string t) by
    have e1 := (h.block _ (blk_lt HCL2.out)).trans HCL2.out
    exact ⟨by rw [blk_cell e1]; rfl, by rw [blk_cell e1]; rfl, HARG.out W (HB.out.trans (h.mono (Nat.le_of_lt (blk_lt HCL2.out))))⟩)
   obtain ⟨r0, r1, b0, b1, b2⟩ := HK2.out _ (Below.refl _ _)
   go_upto_region 4 with (fail)
   go_region_held3 (fun w' => w'.cell? ⟨b, 0, none⟩ = some (.slice Ai Li.length ci) ∧ w'.cell? ⟨b, 1, none⟩ = some (.int .i64 li) ∧ w'.cell? (ad.add (i * 3)) = some (.int .i64 k) ∧ w'.cell? ⟨(ad.add (i * 3)).block, (ad.add (i * 3)).off + 1, none⟩ = some (.string a) ∧ w'.cell? ⟨(ad.add (i * 3)).block, (ad.add (i * 3)).off + 2, none⟩ = some (.string t)) (first | (go_keep; done) | exact HK2.out _ hb23 | exact HK2.out _ (hb23.alloc hb23.size _) | exact HK2.out _ (hb23.setCell (p := ⟨wr.heap.size, 0, none⟩) (Nat.le_refl _) _) | exact HK2.out _ ((hb23.setCell (p := ⟨wr.heap.size, 0, none⟩) (Nat.le_refl _) _).setCell (p := ⟨wr.heap.size, 1, none⟩) (Nat.le_refl _) _))
    ((go_at_call 15; refine (HDO.out _ _ (by first | exact HR2.out | exact HR2.out.below (below_drew (Below.refl _ _)) | exact HR2.out.below (below_drew ((Below.refl _ wr).alloc (Nat.le_refl _) _)) | exact HR2.out.below ((Below.refl _ wr).alloc (Nat.le_refl _) _) | exact HR2.out.below (pw_below_drewN (Below.refl _ _) _) | exact HR2.out.below (pw_below_drewN ((Below.refl _ wr).alloc (Nat.le_refl _) _) _))).mono ?_; rintro e w3 ⟨v', rfl, ⟨A7, c7, rfl, hle7, hC7⟩, hb6⟩; have hb23 : Below wr.heap.size wr w3 := (by first | exact hb6 | exact (below_drew (Below.refl _ wr)).trans hb6 | exact (below_drew ((Below.refl _ wr).alloc (Nat.le_refl _) _)).trans (hb6.mono (by simp)) | exact (pw_below_drewN (Below.refl _ wr) _).trans hb6 | exact (pw_below_drewN ((Below.refl _ wr).alloc (Nat.le_refl _) _) _).trans (hb6.mono (by simp))); have HC7 := qa hC7; clear hC7; (first | (have h9 := (hb6.block wr.heap.size (by simp)).trans (heap_alloc_new wr _); have x90 : w3.cell? ⟨wr.heap.size, 0, none⟩ = some (.slice none 0 0) := (by rw [blk_cell h9]; rfl); have x91 : w3.cell? ⟨wr.heap.size, 1, none⟩ = some (.int .i64 0) := (by rw [blk_cell h9]; rfl); have f90 := blk_frozen h9 0; have f91 := blk_frozen h9 1; have H9 := qa h9; clear h9) | skip)))
   all_goals first
    | (have h9' := H9.out; have hR7 : RAt ((w3.setCell ⟨wr.heap.size, 0, none⟩ (.slice A7 L7.length c7)).setCell ⟨wr.heap.size, 1, none⟩ (.int .i64 n7)) (.agg #[.slice A7 L7.length c7, .int .i64 n7]) L7 n7 := RAt.but ⟨A7, c7, rfl, hle7, HC7.out⟩ (but_two h9' (by simp) (by simp)); have hb24 : Below wr.heap.size wr ((w3.setCell ⟨wr.heap.size, 0, none⟩ (.slice A7 L7.length c7)).setCell ⟨wr.heap.size, 1, none⟩ (.int .i64 n7)) := (hb23.setCell (p := ⟨wr.heap.size, 0, none⟩) (Nat.le_refl _) _).setCell (p := ⟨wr.heap.size, 1, none⟩) (Nat.le_refl _) _; have h7 := two_set (u0 := .slice A7 L7.length c7) (u1 := .int .i64 n7) h9'; clear x90 x91 f90 f91 H9 h9'; generalize (w3.setCell ⟨wr.heap.size, 0, none⟩ (.slice A7 L7.length c7)).setCell ⟨wr.heap.size, 1, none⟩ (.int .i64 n7) = w4 at hR7 hb24 h7 ⊢; generalize wr.heap.size = g9 at h7 ⊢)
    | (have hb24 : Below wr.heap.size wr (w3.alloc (.cells #[.slice A7 L7.length c7, .int .i64 n7] 30)) := hb23.alloc hb23.size _; have hR7 : RAt (w3.alloc (.cells #[.slice A7 L7.length c7, .int .i64 n7] 30)) (.agg #[.slice A7 L7.length c7, .int .i64 n7]) L7 n7 := RAt.below ⟨A7, c7, rfl, hle7, HC7.out⟩ ((Below.refl _ w3).alloc (Nat.le_refl _) _); have h7 := heap_alloc_new w3 (.cells #[.slice A7 L7.length c7, .int .i64 n7] 30); generalize w3.alloc (.cells #[.slice A7 L7.length c7, .int .i64 n7] 30) = w4 at hR7 hb24 h7 ⊢; generalize w3.heap.size = g9 at h7 ⊢)
   all_goals
    have HB4 := qh (HB.out.trans (hb24.mono (Nat.le_of_lt (blk_lt HCL2.out))))
    have hcl4 := (hb24.block _ (blk_lt HCL2.out)).trans HCL2.out
    have hrs4 := (hb24.block _ (blk_lt HRS.out)).trans HRS.out
    have HRo4 := qh (HR2.out.below hb24)
    have HR7 := qh hR7
    have HCL4 := qh hcl4
    have HRS4 := qh hrs4
    have y0 : w4.cell? ⟨g9, 0, none⟩ = some (.slice A7 L7.length c7) := by rw [blk_cell h7]; rfl
    have y1 : w4.cell? ⟨g9, 1, none⟩ = some (.int .i64 n7) := by rw [blk_cell h7]; rfl
    obtain ⟨⟨z0, z1⟩, f0, f1⟩ := box_cells hcl4
    obtain ⟨⟨s0, s1⟩, e0, e1⟩ := box_cells hrs4
    clear hcl4 hrs4 hR7 hb24 h7 HCL2 HR2 HK2 HDO hb6 HC7 r0 r1 b0 b1 b2 HRS HARG
    by_cases hoe : oE = 0
    ·
     subst hoe
     have hA := HA.out
     rw [if_neg (by simp)] at hA
     have HA2 := qh hA
     clear HA hA
     have HCL5 := qh (two_set (u0 := .slice A7 L7.length c7) (u1 := .int .i64 n7) HCL4.out)
     have HRS5 := qh (two_other (j := b + 1) (k := b) (u0 := .slice A7 L7.length c7) (u1 := .int .i64 n7) (i0 := 0) (i1 := 1) (by omega) HRS4.out)
     have HR5 := qh (RAt.but HR7.out (but_two (u0 := .slice A7 L7.length c7) (u1 := .int .i64 n7) HCL4.out (by simp) (by simp)))
     have HB5 := qh ((HB4.out.setCell (p := ⟨b, 0, none⟩) (Nat.le_refl b) (.slice A7 L7.length c7)).setCell (p := ⟨b, 1, none⟩) (Nat.le_refl b) (.int .i64 n7))
     go_wp2
     go_roundw
     case rel => exact ⟨i + 1, by have := HL.out; rw [w1 (by omega)], HI.out.1, L7, n7, A7, c7, HCL5.out, HRS5.out, HR5.out, HB5.out, HFD.out.1, HFD.out.2.1, HFD.out.2.2.1, HA2.out⟩
     case measure => exact meas_big HI.out.1 (by have := HL.out; omega)
    ·
     have hA := HA.out
     rw [if_pos hoe] at hA
     subst hA
     obtain ⟨rfl, rfl⟩ := HFD.out.2.2.2 hoe
     have b9 : (oE != 0) = true := bne_iff_ne.2 hoe
     have HR5 := qh (RAt.but HRo4.out (but_two (u0 := .slice Ai L7.length ci) (u1 := .int .i64 n7) HRS4.out (by simp) (by simp)))
     have HB5 := qh ((HB4.out.setCell (p := ⟨b + 1, 0, none⟩) (Nat.le_succ b) (.slice Ai L7.length ci)).setCell (p := ⟨b + 1, 1, none⟩) (Nat.le_succ b) (.int .i64 n7))
     have hT := res_cells (.slice Ai L7.length ci) (.int .i64 n7) HRS4.out
     clear HA hoe
     go_wp2
     obtain ⟨t0, t1⟩ := hT
     refine bodyPost_ret (v := .tuple #[.agg #[.slice Ai L7.length ci, .int .i64 n7], .int .i64 (i : Int), .int .i64 oE]) (by simp [results, Tryz.results29, go_sem, t0, t1, hu30]) rfl ⟨_, rfl, HR5.out, by rw [HW0.out]; exact HB5.out⟩
  ·
   obtain rfl : i = ts.length := by omega
   rw [List.drop_length] at hA
   have hlt' : ¬ (ts.length : Int) < (ts.length : Int) := by omega
   have hA2 : RR = ((Li, li, 0), ts.length) := by rw [hA]; rfl
   subst hA2
   have HR5 := qh (RAt.but hR (but_two (u0 := .slice Ai Li.length ci) (u1 := .int .i64 li) hrs (by simp) (by simp)))
   have HB5 := qh ((hB.setCell (p := ⟨b + 1, 0, none⟩) (Nat.le_succ b) (.slice Ai Li.length ci)).setCell (p := ⟨b + 1, 1, none⟩) (Nat.le_succ b) (.int .i64 li))
   have hT := res_cells (.slice Ai Li.length ci) (.int .i64 li) hrs
   obtain ⟨⟨z0, z1⟩, f0, f1⟩ := box_cells hcl
   obtain ⟨⟨s0, s1⟩, e0, e1⟩ := box_cells hrs
   clear hA hR hB hG hM hli HRR hcl hrs
   go_wp2
   obtain ⟨t0, t1⟩ := hT
   refine bodyPost_ret (v := .tuple #[.agg #[.slice Ai Li.length ci, .int .i64 li], .int .i64 (ts.length : Int), .int .i64 0]) (by simp [results, Tryz.results29, go_sem, t0, t1, hu30]) rfl ⟨_, rfl, HR5.out, by rw [HW0.out]; exact HB5.out⟩
abbrev FT := S115
def fP (n : Int) (x : FT) : Bool := x.f0 == n && x.f1 != 0
def idxF (l : List FT) (n : Int) : Int := match l.findIdx? (fP n) with | some i => (i : Int) | none => -1
def faultV (l : List FT) (n : Int) : Int := match l.find? (fP n) with | some x => x.f1 | none => 0
theorem idx_found {l : List FT} {n : Int} {i : Nat} (h : i < l.length) (hi : fP n l[i] = true) (hb : ∀ j (hj : j < i), fP n (l[j]'(Nat.lt_trans hj h)) = false) : idxF l n = (i : Int) ∧ faultV l n = l[i].f1 := by
 have h1 : l.findIdx? (fP n) = some i := by
  rw [List.findIdx?_eq_some_iff_getElem]
  exact ⟨h, hi, fun j hj => by rw [hb j hj]; simp⟩
 have h2 : l.find? (fP n) = some l[i] := by
  rw [List.find?_eq_some_iff_getElem]
  exact ⟨hi, i, h, rfl, fun j hj => by rw [hb j hj]; rfl⟩
 unfold idxF faultV
 rw [h1, h2]
 exact ⟨rfl, rfl⟩
theorem idx_none {l : List FT} {n : Int} (hb : ∀ j (hj : j < l.length), fP n l[j] = false) : idxF l n = -1 ∧ faultV l n = 0 := by
 have h1 : l.findIdx? (fP n) = none := by
  rw [List.findIdx?_eq_none_iff]
  intro x hx
  obtain ⟨j, hj, rfl⟩ := List.mem_iff_getElem.1 hx
  exact hb j hj
 have h2 : l.find? (fP n) = none := by
  rw [List.find?_eq_none]
  intro x hx
  obtain ⟨j, hj, rfl⟩ := List.mem_iff_getElem.1 hx
  rw [hb j hj]; simp
 unfold idxF faultV
 rw [h1, h2]
 exact ⟨rfl, rfl⟩
theorem fault1_calls (x : FT) (n : Int) (g : Nat) (w : World) (h : w.heap[g]? = some (.cells #[.int .i64 n] 3 (0, 0))) :
  Calls Tryz.prog 120 #[.agg #[.int .i64 x.f0, .int .i64 x.f1], .pointer (some ⟨g, 0, none⟩)] w fun e w' => e = .returned (.bool (fP n x)) ∧ Below w.heap.size w w' := by
 obtain ⟨a, b⟩ := x
 have hb := (Below.refl w.heap.size w).alloc (Nat.le_refl _) (.cells #[.int .i64 a, .int .i64 b] 115)
 have h1 := (hb.block _ (blk_lt h)).trans h
 have h2 := heap_alloc_new w (.cells #[.int .i64 a, .int .i64 b] 115)
 have x0 : (w.alloc (.cells #[.int .i64 a, .int .i64 b] 115)).cell? ⟨g, 0, none⟩ = some (.int .i64 n) := by rw [blk_cell h1]; rfl
 have HB := qh hb
 unfold fP
 simp only []
 clear h h1 hb h2
 by_cases e : a = n
 ·
  have e1 : (a == n) = true := beq_iff_eq.2 e
  rw [e1]
  clear e
  go_enter Tryz.func120, Tryz.ntmps120
  go_wp2
  go_ret
  exact ⟨rfl, HB.out⟩
 ·
  have e1 : (a == n) = false := beq_eq_false_iff_ne.2 e
  rw [e1]
  clear e
  go_enter Tryz.func120, Tryz.ntmps120
  go_wp2
  go_ret
  exact ⟨rfl, HB.out⟩
theorem indexF_calls (A : Option Addr) (c : Nat) (l : List FT) (n : Int) (g : Nat) (w : World) (hC : Kd.C k115 w A l.length l) (hc : l.length ≤ c) (hl : l.length ≤ 1000000) (h : w.heap[g]? = some (.cells #[.int .i64 n] 3 (0, 0))) :
  Calls Tryz.prog 119 #[.slice A l.length c, .func (.func 120) #[] #[.pointer (some ⟨g, 0, none⟩)]] w fun e w' => e = .returned (.int .i64 (idxF l n)) ∧ Below w.heap.size w w' := by
 have HC := qh hC
 have HL := qh hl
 have HG := qh h
 have H1 := qh (fun x W h => fault1_calls x n g W h)
 clear hC hl h
 go_enter Tryz.func119, Tryz.ntmps119
 go_wp2
 go_loopw [8] (fun v8 wr => ∃ i : Nat, v8 = .int .i64 (i : Int) ∧ i ≤ l.length ∧ (∀ j (hj : j < l.length), j < i → fP n l[j] = false) ∧ Below w.heap.size w wr) (fun v _ => l.length - (intOf v).toNat)
 case atStart => exact ⟨0, rfl, Nat.zero_le _, fun j _ hj => absurd hj (Nat.not_lt_zero _), Below.refl _ _⟩
 case round =>
  obtain ⟨i, rfl, hi, hbef, hB⟩ := hrel
  have HBF := qh hbef
  have HB := qh hB
  clear hbef
  by_cases hlt : i < l.length
  ·
   have hlt' : (i : Int) < (l.length : Int) := by omega
   obtain ⟨ad, eA, a0, a1⟩ := at_T115 (Kd.C_below HC.out hB) (i : Int) (by omega) hlt'
   have hrd : rd_T115 l (i : Int) = l[i] := by simp [rd_T115, hlt]
   rw [hrd] at a0 a1
   rw [Int.toNat_natCast] at a0 a1
   subst eA
   have HV := qh (show ∀ b, fP n l[i] = b → True from fun _ _ => trivial)
   obtain ⟨b, hb⟩ : ∃ b, fP n l[i] = b := ⟨_, rfl⟩
   have HPB := qh hb
   have H1' := qh (fun W h => H1.out l[i] W h)
   rw [hb] at H1'
   generalize l[i].f0 = y0 at *
   generalize l[i].f1 = y1 at *
   clear hB hrd hb HV
   cases b with
   | true =>
    go_wp2_with (go_at_call 120; refine (H1'.out _ ((HB.out.block _ (blk_lt HG.out)).trans HG.out)).mono ?_; rintro e w3 ⟨rfl, hb3⟩; have HB3 := qh (HB.out.trans (hb3.mono HB.out.size)); clear hb3 a0 a1)
    go_ret
    exact ⟨by rw [(idx_found hlt HPB.out (fun j hj => HBF.out j _ hj)).1]; rfl, HB3.out⟩
   | false =>
    go_wp2_with (go_at_call 120; refine (H1'.out _ ((HB.out.block _ (blk_lt HG.out)).trans HG.out)).mono ?_; rintro e w3 ⟨rfl, hb3⟩; have HB3 := qh (HB.out.trans (hb3.mono HB.out.size)); clear hb3 a0 a1)
    go_roundw
    case rel => exact ⟨i + 1, by have := HL.out; rw [w1 (by omega)], hlt, fun j hj hji => by
     by_cases e : j = i
     · subst e; exact HPB.out
     · exact HBF.out j hj (by omega), HB3.out⟩
    case measure => exact meas_big hlt HL.out
  ·
   obtain rfl : i = l.length := by omega
   have hlt' : ¬ (l.length : Int) < (l.length : Int) := by omega
   clear hB
   go_wp2
   go_ret
   exact ⟨by rw [(idx_none (fun j hj => HBF.out j hj hj)).1]; rfl, HB.out⟩
structure FsAt (W : World) (f p : Nat) (l : List FT) (cnt : Int) (dn : Bool) : Prop where
 ex : ∃ A c, W.heap[f]? = some (.cells #[pT p, .slice A l.length c, .int .i64 cnt, .bool dn] 117 (0, 0)) ∧ l.length ≤ c ∧ ∃ base, Kd.R k115 115 W base (fun _ => True) (.slice A l.length c) l
theorem FsAt.below {w W : World} {f p : Nat} {l : List FT} {cnt : Int} {dn : Bool} (h : FsAt w f p l cnt dn) (hb : Below w.heap.size w W) : FsAt W f p l cnt dn := by
 obtain ⟨A, c, h1, h2, base, h3⟩ := h.ex
 exact ⟨A, c, (hb.block _ (blk_lt h1)).trans h1, h2, base, Kd.R_below h3 hb⟩
theorem FsAt.frm {w W : World} {f p q B : Nat} {T : Tr} {l : List FT} {cnt : Int} {dn : Bool} (h : FsAt w f p l cnt dn) (hT : TreeB w q B T) (hf : Frm w W q B) : FsAt W f p l cnt dn := by
 obtain ⟨A, c, h1, h2, base, h3⟩ := h.ex
 refine ⟨A, c, cells_frm h1 (by decide) hT hf, h2, base, ?_⟩
 obtain ⟨hp, es, clock, hB⟩ := hT.two
 have h4 := Kd.R_mono (Kd.R_bound h3) (ok' := fun k => k ≠ q ∧ k ≠ B) (fun k hk => by
  obtain ⟨_, _, _, t, ht, cells, hc⟩ := hk
  have ht : t = 115 := by simpa [k115, Kd.iso, Kd.pair, Kd.int, Kd.scalar] using ht
  subst ht
  refine ⟨?_, ?_⟩
  ·
   rintro rfl
   rw [hp] at hc
   injection hc with hc
   injection hc with _ hc
   exact absurd hc (by decide)
  ·
   rintro rfl
   rw [hB] at hc
   cases hc)
 exact Kd.R_mono (Kd.R_step h4 (fun k hk hlt => hf.block k hlt hk.1 hk.2)) (fun _ _ => trivial)
theorem fault_calls (f p : Nat) (l : List FT) (cnt : Int) (dn : Bool) (n : Int) (w : World) (h : FsAt w f p l cnt dn) (hl : l.length ≤ 1000000) :
  Calls Tryz.prog 77 #[.pointer (some ⟨f, 0, none⟩), .int .i64 n] w fun e w' => e = .returned (.int .i64 (faultV l n)) ∧ Below w.heap.size w w' := by
 obtain ⟨A, c, h1, hc, base, hR⟩ := h.ex
 obtain ⟨A', c', e', -, hC⟩ := Kd.R_reads hR
 cases e'
 have hb := (Below.refl w.heap.size w).alloc (Nat.le_refl _) (.cells #[.int .i64 n] 3)
 have h2 := heap_alloc_new w (.cells #[.int .i64 n] 3)
 have HB := qh hb
 have HG := qh h2
 have HC := qh (Kd.C_below hC hb)
 have HX := qh (fun (W : World) (q : Below (w.alloc (.cells #[.int .i64 n] 3)).heap.size (w.alloc (.cells #[.int .i64 n] 3)) W) => show W.cell? ⟨f, 1, none⟩ = some (.slice A l.length c) by
  have e1 := (hb.block _ (blk_lt h1)).trans h1
  have e2 := (q.block _ (blk_lt e1)).trans e1
  rw [blk_cell e2]; rfl)
 have HI := qh (fun W h1 h2 => indexF_calls A c l n w.heap.size W h1 hc hl h2)
 have HV : Hid ((l.findIdx? (fP n) = none → idxF l n = -1 ∧ faultV l n = 0) ∧ ∀ i (hi : i < l.length), l.findIdx? (fP n) = some i → idxF l n = (i : Int) ∧ faultV l n = l[i].f1) := qh ⟨fun hf => by
   rw [List.findIdx?_eq_none_iff] at hf
   exact idx_none (fun j hj => hf _ (List.getElem_mem hj)), fun i hi hf => by
   rw [List.findIdx?_eq_some_iff_getElem] at hf
   obtain ⟨_, h1, h2⟩ := hf
   exact idx_found hi h1 (fun j hj => by simpa using h2 j hj)⟩
 generalize idxF l n = ix at *
 generalize faultV l n = fv at *
 clear h hR hC hb h2 h1
 go_enter Tryz.func77, Tryz.ntmps77
 go_upto_region 1 with (fail)
 generalize w.alloc (.cells #[.int .i64 n] 3) = w2 at HB HG HC HX ⊢
 have x1 := HX.out _ (Below.refl _ _)
 go_upto_region 2 with (go_at_call 119; refine (HI.out _ HC.out HG.out).mono ?_; rintro e w3 ⟨rfl, hb3⟩; have HB3 := qh hb3; clear hb3 x1)
 have x1 := HX.out _ HB3.out
 cases hf : l.findIdx? (fP n) with
 | none =>
  obtain ⟨rfl, rfl⟩ := HV.out.1 hf
  clear hf HV
  go_wp2
  go_ret
  exact ⟨rfl, HB.out.trans (HB3.out.mono HB.out.size)⟩
 | some i =>
  have hi : i < l.length := by rw [List.findIdx?_eq_some_iff_getElem] at hf; exact hf.1
  obtain ⟨rfl, hfv⟩ := HV.out.2 i hi hf
  obtain ⟨ad, eA, a0, a1⟩ := at_T115 (Kd.C_below HC.out HB3.out) (i : Int) (by omega) (by omega)
  have hrd : rd_T115 l (i : Int) = l[i] := by simp [rd_T115, hi]
  rw [hrd] at a0 a1
  rw [Int.toNat_natCast] at a0 a1
  subst eA
  have hlt : (i : Int) < (l.length : Int) := by omega
  have hge : ¬ (i : Int) < 0 := by omega
  clear hrd HV hf
  generalize l[i].f0 = y0 at *
  generalize l[i].f1 = y1 at *
  have HFV := qh hfv
  clear hfv
  go_wp2
  go_ret
  exact ⟨by rw [HFV.out]; rfl, HB.out.trans (HB3.out.mono HB.out.size)⟩
structure Fr3 (w w' : World) (p B f : Nat) : Prop where
 os : w'.os = w.os
 tape : w'.tape = w.tape
 output : w'.output = w.output
 size : w.heap.size ≤ w'.heap.size
 block : ∀ k, k < w.heap.size → k ≠ p → k ≠ B → k ≠ f → w'.heap[k]? = w.heap[k]?
theorem Fr3.refl (w : World) (p B f : Nat) : Fr3 w w p B f := ⟨rfl, rfl, rfl, Nat.le_refl _, fun _ _ _ _ _ => rfl⟩
theorem Fr3.trans {w w1 w2 : World} {p B f : Nat} (h : Fr3 w w1 p B f) (k : Fr3 w1 w2 p B f) : Fr3 w w2 p B f :=
 ⟨k.os.trans h.os, k.tape.trans h.tape, k.output.trans h.output, Nat.le_trans h.size k.size, fun j hj h1 h2 h3 => (k.block j (Nat.lt_of_lt_of_le hj h.size) h1 h2 h3).trans (h.block j hj h1 h2 h3)⟩
theorem Fr3.ofBelow {w w' : World} {p B f : Nat} (h : Below w.heap.size w w') : Fr3 w w' p B f := ⟨h.os, h.tape, h.output, h.size, fun k hk _ _ _ => h.block k hk⟩
theorem Fr3.ofFrm {w w' : World} {p B f : Nat} (h : Frm w w' p B) : Fr3 w w' p B f := ⟨h.os, h.tape, h.output, h.size, fun k hk h1 h2 _ => h.block k hk h1 h2⟩
theorem Fr3.ofSet {w : World} {p B f : Nat} (i : Nat) (v : Value) : Fr3 w (w.setCell ⟨f, i, none⟩ v) p B f := ⟨rfl, rfl, rfl, by simp, fun k _ _ _ h => Below.heap_setCell w ⟨f, i, none⟩ v k h⟩
theorem Fr3.below {w w' : World} {p B f base : Nat} (h : Fr3 w w' p B f) (hb : base ≤ w.heap.size) (hp : base ≤ p) (hB : base ≤ B) (hf : base ≤ f) : Below base w w' :=
 ⟨h.os, h.tape, h.output, h.size, fun k hk => h.block k (by omega) (by omega) (by omega) (by omega)⟩
theorem R115_set {w : World} {f base : Nat} {v : Value} {l : List FT} {cs : Array Value} (h : Kd.R k115 115 w base (fun _ => True) v l) (hf : w.heap[f]? = some (.cells cs 117 (0, 0))) (i : Nat) (u : Value) : Kd.R k115 115 (w.setCell ⟨f, i, none⟩ u) base (fun _ => True) v l := by
 have h4 := Kd.R_mono (Kd.R_bound h) (ok' := fun k => k ≠ f) (fun k hk => by
  obtain ⟨_, _, _, t, ht, cells, hc⟩ := hk
  have ht : t = 115 := by simpa [k115, Kd.iso, Kd.pair, Kd.int, Kd.scalar] using ht
  subst ht
  rintro rfl
  rw [hf] at hc
  injection hc with hc
  injection hc with _ hc
  exact absurd hc (by decide))
 exact Kd.R_mono (Kd.R_far (p := ⟨f, i, none⟩) h4 (fun k hk => hk) u) (fun _ _ => trivial)
theorem fs_set {w : World} {f : Nat} {v0 v1 v2 v3 : Value} {t : TypeId} (h : w.heap[f]? = some (.cells #[v0, v1, v2, v3] t (0, 0))) (u : Value) :
  (w.setCell ⟨f, 1, none⟩ u).heap[f]? = some (.cells #[v0, u, v2, v3] t (0, 0)) ∧ (w.setCell ⟨f, 2, none⟩ u).heap[f]? = some (.cells #[v0, v1, u, v3] t (0, 0)) ∧ (w.setCell ⟨f, 3, none⟩ u).heap[f]? = some (.cells #[v0, v1, v2, u] t (0, 0)) :=
 ⟨by rw [setCell_eq_setRow w _ 1 _ _ _ _ h, setRow_heap w _ _ _ _ _ h]; rfl, by rw [setCell_eq_setRow w _ 2 _ _ _ _ h, setRow_heap w _ _ _ _ _ h]; rfl, by rw [setCell_eq_setRow w _ 3 _ _ _ _ h, setRow_heap w _ _ _ _ _ h]; rfl⟩
theorem fs_cells {W : World} {f : Nat} {v0 v1 v2 v3 : Value} {t : TypeId} (h : W.heap[f]? = some (.cells #[v0, v1, v2, v3] t (0, 0))) :
  (W.cell? ⟨f, 0, none⟩ = some v0 ∧ W.cell? ⟨f, 1, none⟩ = some v1 ∧ W.cell? ⟨f, 2, none⟩ = some v2 ∧ W.cell? ⟨f, 3, none⟩ = some v3) ∧ (W.frozen? ⟨f, 1, none⟩ = false ∧ W.frozen? ⟨f, 2, none⟩ = false ∧ W.frozen? ⟨f, 3, none⟩ = false) :=
 ⟨⟨by rw [blk_cell h]; rfl, by rw [blk_cell h]; rfl, by rw [blk_cell h]; rfl, by rw [blk_cell h]; rfl⟩, blk_frozen h 1, blk_frozen h 2, blk_frozen h 3⟩
theorem but_fs {w : World} {f p : Nat} {l : List FT} {cnt : Int} {dn : Bool} (h : FsAt w f p l cnt dn) (i : Nat) (u : Value) : But w (w.setCell ⟨f, i, none⟩ u) f := by
 obtain ⟨A, c, h1, -⟩ := h.ex
 refine ⟨⟨rfl, rfl, rfl, by simp, fun j _ hj => Below.heap_setCell w ⟨f, i, none⟩ u j (fun e => hj (by rw [e]))⟩, ?_⟩
 rintro ⟨b, o, sp⟩ s rfl
 simp only [World.cell?, h1]
 split
 · simp
 ·
  match o with
  | 0 => simp [pT]
  | 1 => simp
  | 2 => simp
  | 3 => simp
  | n + 4 => simp
theorem FsAt.ne {w : World} {f p q B : Nat} {l : List FT} {cnt : Int} {dn : Bool} {T : Tr} (h : FsAt w f p l cnt dn) (hT : TreeB w q B T) : q ≠ f ∧ B ≠ f := by
 obtain ⟨A, c, h1, -⟩ := h.ex
 obtain ⟨h2, es, ck, h3⟩ := hT.two
 constructor
 ·
  rintro rfl
  rw [h2] at h1
  injection h1 with h1
  injection h1 with _ h1
  exact absurd h1 (by decide)
 ·
  rintro rfl
  rw [h3] at h1
  cases h1
theorem FsAt.tree {w : World} {f p q B : Nat} {l : List FT} {cnt : Int} {dn : Bool} {T : Tr} (h : FsAt w f p l cnt dn) (hT : TreeB w q B T) (i : Nat) (u : Value) : TreeB (w.setCell ⟨f, i, none⟩ u) q B T := hT.but (but_fs h i u) (h.ne hT).1 (h.ne hT).2
theorem FsAt.set2 {w : World} {f p : Nat} {l : List FT} {cnt : Int} {dn : Bool} (h : FsAt w f p l cnt dn) (n : Int) : FsAt (w.setCell ⟨f, 2, none⟩ (.int .i64 n)) f p l n dn := by
 obtain ⟨A, c, h1, h2, base, h3⟩ := h.ex
 exact ⟨A, c, (fs_set h1 (.int .i64 n)).2.1, h2, base, R115_set h3 h1 _ _⟩
theorem FsAt.set3 {w : World} {f p : Nat} {l : List FT} {cnt : Int} {dn : Bool} (h : FsAt w f p l cnt dn) (b : Bool) : FsAt (w.setCell ⟨f, 3, none⟩ (.bool b)) f p l cnt b := by
 obtain ⟨A, c, h1, h2, base, h3⟩ := h.ex
 exact ⟨A, c, (fs_set h1 (.bool b)).2.2, h2, base, R115_set h3 h1 _ _⟩
theorem FsAt.cells {w : World} {f p : Nat} {l : List FT} {cnt : Int} {dn : Bool} (h : FsAt w f p l cnt dn) : w.cell? ⟨f, 0, none⟩ = some (pT p) ∧ w.cell? ⟨f, 2, none⟩ = some (.int .i64 cnt) ∧ w.cell? ⟨f, 3, none⟩ = some (.bool dn) ∧ w.frozen? ⟨f, 2, none⟩ = false ∧ w.frozen? ⟨f, 3, none⟩ = false := by
 obtain ⟨A, c, h1, -⟩ := h.ex
 obtain ⟨⟨a, -, b, c⟩, -, d, e⟩ := fs_cells h1
 exact ⟨a, b, c, d, e⟩
theorem countfs_calls (f p : Nat) (l : List FT) (cnt : Int) (dn : Bool) (w : World) (h : FsAt w f p l cnt dn) : Calls Tryz.prog 25 #[.pointer (some ⟨f, 0, none⟩)] w fun e w' => e = .returned (.int .i64 cnt) ∧ w' = w := by
 obtain ⟨c0, c2, c3, -⟩ := h.cells
 clear h
 go_enter Tryz.func25, Tryz.ntmps25
 go_wp2
 go_ret
 exact ⟨rfl, rfl⟩
theorem treefs_calls (f p : Nat) (l : List FT) (cnt : Int) (dn : Bool) (w : World) (h : FsAt w f p l cnt dn) : Calls Tryz.prog 27 #[.pointer (some ⟨f, 0, none⟩)] w fun e w' => e = .returned (pT p) ∧ w' = w := by
 obtain ⟨c0, c2, c3, -⟩ := h.cells
 clear h
 go_enter Tryz.func27, Tryz.ntmps27
 go_wp2
 go_ret
 exact ⟨rfl, rfl⟩
theorem newfs_nil (w : World) : Calls Tryz.prog 20 #[.pointer none] w fun e w' => ∃ f p B, e = .returned (.pointer (some ⟨f, 0, none⟩)) ∧ FsAt w' f p [] 0 false ∧ TreeB w' p B T0 ∧ Below w.heap.size w w' ∧ w.heap.size ≤ f ∧ w.heap.size ≤ p ∧ w.heap.size ≤ B := by
 have HN := qh (fun W => new_calls W)
 go_enter Tryz.func20, Tryz.ntmps20
 go_wp2_with (go_at_call 54; refine (HN.out _).mono ?_; rintro e w2 ⟨p, B, rfl, hT2, hb2, hp2, hB2⟩)
 go_ret
 exact ⟨_, p, B, rfl, ⟨none, 0, heap_alloc_new w2 _, Nat.le_refl _, 0, Kd.R_nil _ _ _ _ _⟩, hT2.below (below_alloc (Below.refl _ _) _), hb2.alloc hb2.size _, hb2.size, hp2, hB2⟩
theorem info115' : (Tryz.prog.info? 115).map (fun i => (i.zero, i.size, i.bytes)) = some (some (.agg #[.int .i64 0, .int .i64 0]), 2, 16) := by kernel_rfl
theorem cloneF_calls (A : Option Addr) (c : Nat) (l : List FT) (w : World) (hr : Kd.C k115 w A l.length l) (hc : l.length ≤ c) (hl : l.length < 4294967296) :
  Calls Tryz.prog 75 #[.slice A l.length c] w fun e w' => ∃ v, e = .returned v ∧ Kd.R k115 115 w' w.heap.size (fun _ => True) v l ∧ Below w.heap.size w w' := by
 have hq := fun W => Lib.run_eql_slice_nil (P := Tryz.prog) W 45 115 A l.length c 0 0 Tryz.underlying45
 have HR := qh hr
 have HRE := qh (R_empty k115 115 w w.heap.size (Nat.le_refl _))
 have HB := qh ((Below.refl w.heap.size w).alloc (Nat.le_refl _) (.cells #[] 115))
 cases A with
 | none =>
  have h0 : l = [] := by
   cases l with
   | nil => rfl
   | cons a b => obtain ⟨ad, e, _⟩ := hr.2.2 (by simp); cases e
  subst h0
  clear hr HR hq
  have hq := fun W => Lib.run_eql_slice_nil (P := Tryz.prog) W 45 115 none 0 c 0 0 Tryz.underlying45
  simp only [Option.isNone_none] at hq
  go_enter Tryz.func75, Tryz.ntmps75
  go_wp2
  go_ret
  exact ⟨_, rfl, Kd.R_nil _ _ _ _ _, Below.refl _ _⟩
 | some ad =>
  clear hr
  simp only [Option.isNone_some] at hq
  go_enter Tryz.func75, Tryz.ntmps75
  go_wp2_with ((with_reducible refine gate_builtin (b := .append) (xs := #[.tmp 5, .tmp 6]) rfl ?_); at_builtin; refine Kd.R_append_rows k115 (w0 := w) w.heap.size rfl (.tmp 5) (.tmp 6) 45 115 (.agg #[.int .i64 0, .int .i64 0]) 16 rfl Tryz.underlying45 info115' rfl (by decide) (by omega) _ [] l _ _ _ (fun _ => True) (fun _ => False) rfl rfl HRE.out (Kd.C_below HR.out HB.out) (fun _ _ h => by obtain rfl := k115_open h; exact k115_mkM _ _ _ _) (fun _ h => h.elim) (fun _ _ => trivial) HB.out (by simp) (by simp; omega) ?_; intro v1 w1 ho hb hg hat)
  go_ret
  exact ⟨_, rfl, ho, hb⟩
theorem planfs_calls (f p B : Nat) (T : Tr) (l l' : List FT) (cnt : Int) (dn : Bool) (A : Option Addr) (c : Nat) (w : World) (h : FsAt w f p l cnt dn) (hT : TreeB w p B T) (hC : Kd.C k115 w A l'.length l') (hc : l'.length ≤ c) (hl : l'.length < 4294967296) :
  Calls Tryz.prog 22 #[.pointer (some ⟨f, 0, none⟩), .slice A l'.length c] w fun e w' => e = .returned (.tuple #[]) ∧ FsAt w' f p l' 0 dn ∧ TreeB w' p B T ∧ Fr3 w w' p B f := by
 have HFS := qh h
 have HT := qh hT
 have HCL := qh (fun W h => cloneF_calls A c l' W h hc hl)
 have HC := qh hC
 clear h hT hC
 go_enter Tryz.func22, Tryz.ntmps22
 go_wp2_with (go_at_call 75; refine (HCL.out _ HC.out).mono ?_; rintro e w2 ⟨v2, rfl, hR2, hb2⟩; obtain ⟨A2, c2, rfl, hl2, -⟩ := Kd.R_reads hR2; have HB2 := qh hb2; have HR2 := qh hR2; have HL2 := qh hl2; have HF2 := qh (HFS.out.below hb2); obtain ⟨A0, c0, hf2, -⟩ := HF2.out.ex; obtain ⟨⟨x0, x1, x2, x3⟩, f1, f2, f3⟩ := fs_cells hf2; have hf3 := (fs_set hf2 (.slice A2 l'.length c2)).1; have y2 : (w2.setCell ⟨f, 1, none⟩ (.slice A2 l'.length c2)).cell? ⟨f, 2, none⟩ = some (.int .i64 cnt) := (by rw [blk_cell hf3]; rfl); have g2 := blk_frozen hf3 2; clear hb2 hR2 hl2)
 have hn := (HF2.out.ne (HT.out.below HB2.out))
 have hT3 := HF2.out.tree (HT.out.below HB2.out) 1 (.slice A2 l'.length c2)
 have hR3 := R115_set HR2.out hf2 1 (.slice A2 l'.length c2)
 have hFA : FsAt (w2.setCell ⟨f, 1, none⟩ (.slice A2 l'.length c2)) f p l' cnt dn := ⟨A2, c2, hf3, HL2.out, _, hR3⟩
 refine bodyPost_end (v := .tuple #[]) (by simp [results, Tryz.results22, go_sem]) rfl ⟨rfl, hFA.set2 0, hFA.tree hT3 2 (.int .i64 0), ((Fr3.ofBelow HB2.out).trans (Fr3.ofSet 1 _)).trans (Fr3.ofSet 2 _)⟩
noncomputable def fsP (L : List RN) (la : Int) (fl : List FT) (cnt : Int) (dn : Bool) (k : Int) (a t : ByteArray) : Op3 × Int × Bool :=
 if dn = true then ((L, la, 17), cnt, dn) else if ¬ (1 ≤ k ∧ k ≤ 6) then ((L, la, 2), cnt, dn) else
  if faultV fl (cnt + 1) ≠ 0 then ((L, la, faultV fl (cnt + 1)), cnt + 1, faultV fl (cnt + 1) == 17) else (doP L la k a t, cnt + 1, false)
theorem fine_fs {L : List RN} {la : Int} (hG : GoodL L la) (hM : GoodM L) (fl : List FT) (cnt : Int) (dn : Bool) (k : Int) (a t : ByteArray) : Fine L la (fsP L la fl cnt dn k a t).1 ∧ (fsP L la fl cnt dn k a t).2.1 ≤ cnt + 1 ∧ cnt ≤ (fsP L la fl cnt dn k a t).2.1 := by
 unfold fsP
 split
 · exact ⟨fine_err hG hM, by show cnt ≤ cnt + 1; omega, Int.le_refl _⟩
 ·
  split
  · exact ⟨fine_err hG hM, by show cnt ≤ cnt + 1; omega, Int.le_refl _⟩
  ·
   split
   · exact ⟨fine_err hG hM, Int.le_refl _, by show cnt ≤ cnt + 1; omega⟩
   · exact ⟨fine_do hG hM k a t, Int.le_refl _, by show cnt ≤ cnt + 1; omega⟩
def FsLeft (f p B : Nat) (fl : List FT) (w : World) (r : Op3 × Int × Bool) (e : Ending) (w' : World) : Prop :=
 e = .returned (.int .i64 r.1.2.2) ∧ FsAt w' f p fl r.2.1 r.2.2 ∧ TreeB w' p B (trOf r.1.1 r.1.2.1) ∧ Fr3 w w' p B f
theorem do10_calls (f p B : Nat) (L : List RN) (la : Int) (fl : List FT) (cnt : Int) (dn : Bool) (k : Int) (a t : ByteArray) (w : World) (h : FsAt w f p fl cnt dn) (hT : TreeB w p B (trOf L la)) (hG : GoodL L la) (hM : GoodM L) (hla : la < 1000000) (hl : fl.length ≤ 1000000) (hcnt : 0 ≤ cnt ∧ cnt ≤ 1000000) :
  Calls Tryz.prog 23 #[.pointer (some ⟨f, 0, none⟩), .agg #[.int .i64 k, .string a, .string t]] w (FsLeft f p B fl w (fsP L la fl cnt dn k a t)) := by
 have hu36 := Tryz.underlying36
 have hw : wrap64 (cnt + 1) = cnt + 1 := by unfold wrap64; omega
 have hb := below_alloc (Below.refl w.heap.size w) (.cells #[.int .i64 k, .string a, .string t] 36)
 have HB1 := qh hb
 have H1 := qh (heap_alloc_new w (.cells #[.int .i64 k, .string a, .string t] 36))
 have HF1 := qh (h.below hb)
 have HT1 := qh (hT.below hb)
 have HD := qh (fun W => deeds_calls W)
 have HFA := qh (fun W h => fault_calls f p fl (cnt + 1) dn (cnt + 1) W h hl)
 have HR : Hid (fsP L la fl cnt dn k a t = if dn = true then ((L, la, 17), cnt, dn) else if ¬ (1 ≤ k ∧ k ≤ 6) then ((L, la, 2), cnt, dn) else if faultV fl (cnt + 1) ≠ 0 then ((L, la, faultV fl (cnt + 1)), cnt + 1, faultV fl (cnt + 1) == 17) else (doP L la k a t, cnt + 1, false)) := qh rfl
 generalize fsP L la fl cnt dn k a t = r at *
 generalize faultV fl (cnt + 1) = fv at *
 generalize hn1 : cnt + 1 = n1 at *
 clear h hT hl hb hcnt
 cases dn with
 | true =>
  obtain rfl : r = ((L, la, 17), cnt, true) := by rw [HR.out, if_pos rfl]
  obtain ⟨c0, c2, c3, g2, g3⟩ := HF1.out.cells
  clear HR HD HFA hn1
  go_enter Tryz.func23, Tryz.ntmps23
  go_wp2
  go_ret
  exact ⟨rfl, HF1.out, HT1.out, Fr3.ofBelow HB1.out⟩
 | false =>
  by_cases hk : 1 ≤ k ∧ k ≤ 6
  ·
   have HR1 : Hid (r = if fv ≠ 0 then ((L, la, fv), n1, fv == 17) else (doP L la k a t, n1, false)) := qh (by rw [HR.out, if_neg (by decide), if_neg (fun q => q hk)])
   clear HR
   have HKN := qh (fun W => known_yes k W hk)
   obtain ⟨c0, c2, c3, g2, g3⟩ := HF1.out.cells
   have HF2 := qh (HF1.out.set2 n1)
   have HT2 := qh (HF1.out.tree HT1.out 2 (.int .i64 n1))
   have HB2 := qh ((Fr3.ofBelow (p := p) (B := B) (f := f) HB1.out).trans (Fr3.ofSet 2 (.int .i64 n1)))
   have hne : w.heap.size ≠ f := by
    rintro rfl
    obtain ⟨A, c, h1, -⟩ := HF1.out.ex
    rw [H1.out] at h1
    injection h1 with h1
    injection h1 with _ h1
    exact absurd h1 (by decide)
   have H2 := qh ((Below.heap_setCell (w.alloc (.cells #[.int .i64 k, .string a, .string t] 36)) ⟨f, 2, none⟩ (.int .i64 n1) w.heap.size hne).trans H1.out)
   generalize hgb : w.heap.size = gb at *
   go_enter Tryz.func23, Tryz.ntmps23
   go_upto_region 8 with (go_at_call 76; refine (HKN.out _).mono ?_; rintro e w' ⟨rfl, rfl⟩)
   generalize (w.alloc (.cells #[.int .i64 k, .string a, .string t] 36)).setCell ⟨f, 2, none⟩ (.int .i64 n1) = w2 at HF2 HT2 HB2 H2 ⊢
   clear c0 c2 c3 g2 g3 HF1 HT1 HB1 H1 HKN hne hn1 hw hgb
   obtain ⟨c0, c2, c3, g2, g3⟩ := HF2.out.cells
   go_upto_region 9 with (go_at_call 77; refine (HFA.out _ HF2.out).mono ?_; rintro e w3 ⟨rfl, hb3⟩; have HF3 := qh (HF2.out.below hb3); have HT3 := qh (HT2.out.below hb3); have HB3 := qh (HB2.out.trans (Fr3.ofBelow hb3)); have H3 := qh ((hb3.block _ (blk_lt H2.out)).trans H2.out); clear hb3 c0 c2 c3 g2 g3)
   obtain ⟨c0, c2, c3, g2, g3⟩ := HF3.out.cells
   clear HF2 HT2 HB2 H2 HFA
   by_cases hfv : fv = 0
   ·
    subst hfv
    obtain ⟨y0, y1, y2⟩ := box3 H3.out
    have HY := qh (fun (W : World) (q : Below w3.heap.size w3 W) => show W.cell? ⟨gb, 0, none⟩ = some (.int .i64 k) ∧ W.cell? ⟨gb, 1, none⟩ = some (.string a) ∧ W.cell? ⟨gb, 2, none⟩ = some (.string t) ∧ W.cell? ⟨f, 0, none⟩ = some (pT p) from (fun ⟨u0, u1, u2⟩ => ⟨u0, u1, u2, (HF3.out.below q).cells.1⟩) (box3 ((q.block _ (blk_lt H3.out)).trans H3.out)))
    clear c2 c3 g2 g3
    go_upto_region 12 with (fail)
    by_cases k1 : k = 1
    ·
     subst k1
     have e0 : doP L la 1 a t = mkP L la a 1 ⟨#[]⟩ := by unfold doP; simp
     have hr := HR1.out
     rw [if_neg (by simp), e0] at hr
     have HCK := qh (fun g W h hg => by1_Mkdir p B L la 1 a t g W h hG hM hla hg)
     generalize mkP L la a 1 ⟨#[]⟩ = o at *
     obtain ⟨Lo, no, eo⟩ := o
     subst hr
     clear e0 HR1
     go_region_held3 (fun w' => w'.cell? ⟨gb, 0, none⟩ = some (.int .i64 1) ∧ w'.cell? ⟨gb, 1, none⟩ = some (.string a) ∧ w'.cell? ⟨gb, 2, none⟩ = some (.string t) ∧ w'.cell? ⟨f, 0, none⟩ = some (pT p)) (first | (go_keep; done) | exact HY5.out | exact HY.out _ HE4.out) (first | (go_at_call 78; refine (HD.out _).mono ?_; rintro e w4 ⟨v1, v2, v4, rfl, hv, hb4⟩; have HE4 : Hid (Below w3.heap.size w3 w4) := qh (by first | exact hb4 | exact (below_drew (Below.refl _ _)).trans hb4); clear hb4; obtain ⟨g, rfl, hg⟩ := hv.1; clear hv) | (go_at_call 151; refine (HCK.out _ _ (HT3.out.below HE4.out) hg).mono ?_; rintro e w5 ⟨rfl, hT5, hF5⟩; have HT5 := qh hT5; have HF5 := qh ((HF3.out.below HE4.out).frm (HT3.out.below HE4.out) hF5); have HB5 := qh (HB3.out.trans ((Fr3.ofBelow HE4.out).trans (Fr3.ofFrm hF5))); have hbx := box3 (cells_frm ((HE4.out.block _ (blk_lt H3.out)).trans H3.out) (by decide) (HT3.out.below HE4.out) hF5); have HY5 := qh (show w5.cell? ⟨gb, 0, none⟩ = some (.int .i64 1) ∧ w5.cell? ⟨gb, 1, none⟩ = some (.string a) ∧ w5.cell? ⟨gb, 2, none⟩ = some (.string t) ∧ w5.cell? ⟨f, 0, none⟩ = some (pT p) from ⟨hbx.1, hbx.2.1, hbx.2.2, HF5.out.cells.1⟩); clear hT5 hF5 hbx))
     all_goals
      go_wp2
      go_ret
      exact ⟨rfl, HF5.out, HT5.out, HB5.out⟩
    ·
     by_cases k2 : k = 2
     ·
      subst k2
      have e0 : doP L la 2 a t = cutP L la a true := by unfold doP; simp
      have hr := HR1.out
      rw [if_neg (by simp), e0] at hr
      have HCK := qh (fun g W h hg => by1_Rmdir p B L la 2 a t g W h hG hM hla hg)
      generalize cutP L la a true = o at *
      obtain ⟨Lo, no, eo⟩ := o
      subst hr
      clear e0 HR1
      go_region_held3 (fun w' => w'.cell? ⟨gb, 0, none⟩ = some (.int .i64 2) ∧ w'.cell? ⟨gb, 1, none⟩ = some (.string a) ∧ w'.cell? ⟨gb, 2, none⟩ = some (.string t) ∧ w'.cell? ⟨f, 0, none⟩ = some (pT p)) (first | (go_keep; done) | exact HY5.out | exact HY.out _ HE4.out) (first | (go_at_call 78; refine (HD.out _).mono ?_; rintro e w4 ⟨v1, v2, v4, rfl, hv, hb4⟩; have HE4 : Hid (Below w3.heap.size w3 w4) := qh (by first | exact hb4 | exact (below_drew (Below.refl _ _)).trans hb4); clear hb4; obtain ⟨g, rfl, hg⟩ := hv.2.1; clear hv) | (go_at_call 151; refine (HCK.out _ _ (HT3.out.below HE4.out) hg).mono ?_; rintro e w5 ⟨rfl, hT5, hF5⟩; have HT5 := qh hT5; have HF5 := qh ((HF3.out.below HE4.out).frm (HT3.out.below HE4.out) hF5); have HB5 := qh (HB3.out.trans ((Fr3.ofBelow HE4.out).trans (Fr3.ofFrm hF5))); have hbx := box3 (cells_frm ((HE4.out.block _ (blk_lt H3.out)).trans H3.out) (by decide) (HT3.out.below HE4.out) hF5); have HY5 := qh (show w5.cell? ⟨gb, 0, none⟩ = some (.int .i64 2) ∧ w5.cell? ⟨gb, 1, none⟩ = some (.string a) ∧ w5.cell? ⟨gb, 2, none⟩ = some (.string t) ∧ w5.cell? ⟨f, 0, none⟩ = some (pT p) from ⟨hbx.1, hbx.2.1, hbx.2.2, HF5.out.cells.1⟩); clear hT5 hF5 hbx))
      all_goals
       go_wp2
       go_ret
       exact ⟨rfl, HF5.out, HT5.out, HB5.out⟩
     ·
      by_cases k3 : k = 3
      ·
       subst k3
       have e0 : doP L la 3 a t = mkP L la a 3 t := by unfold doP; simp
       have hr := HR1.out
       rw [if_neg (by simp), e0] at hr
       have HCK := qh (fun W h => deeds1_calls p B L la 3 a t W h hG hM hla)
       generalize mkP L la a 3 t = o at *
       obtain ⟨Lo, no, eo⟩ := o
       subst hr
       clear e0 HR1
       go_region_held3 (fun w' => w'.cell? ⟨gb, 0, none⟩ = some (.int .i64 3) ∧ w'.cell? ⟨gb, 1, none⟩ = some (.string a) ∧ w'.cell? ⟨gb, 2, none⟩ = some (.string t) ∧ w'.cell? ⟨f, 0, none⟩ = some (pT p)) (first | (go_keep; done) | exact HY5.out | exact HY.out _ HE4.out) (first | (go_at_call 78; refine (HD.out _).mono ?_; rintro e w4 ⟨v1, v2, v4, rfl, hv, hb4⟩; have HE4 : Hid (Below w3.heap.size w3 w4) := qh (by first | exact hb4 | exact (below_drew (Below.refl _ _)).trans hb4); clear hb4; clear hv) | (go_at_call 122; refine (HCK.out _ (HT3.out.below HE4.out)).mono ?_; rintro e w5 ⟨rfl, hT5, hF5⟩; have HT5 := qh hT5; have HF5 := qh ((HF3.out.below HE4.out).frm (HT3.out.below HE4.out) hF5); have HB5 := qh (HB3.out.trans ((Fr3.ofBelow HE4.out).trans (Fr3.ofFrm hF5))); have hbx := box3 (cells_frm ((HE4.out.block _ (blk_lt H3.out)).trans H3.out) (by decide) (HT3.out.below HE4.out) hF5); have HY5 := qh (show w5.cell? ⟨gb, 0, none⟩ = some (.int .i64 3) ∧ w5.cell? ⟨gb, 1, none⟩ = some (.string a) ∧ w5.cell? ⟨gb, 2, none⟩ = some (.string t) ∧ w5.cell? ⟨f, 0, none⟩ = some (pT p) from ⟨hbx.1, hbx.2.1, hbx.2.2, HF5.out.cells.1⟩); clear hT5 hF5 hbx))
       all_goals
        go_wp2
        go_ret
        exact ⟨rfl, HF5.out, HT5.out, HB5.out⟩
      ·
       by_cases k4 : k = 4
       ·
        subst k4
        have e0 : doP L la 4 a t = cutP L la a false := by unfold doP; simp
        have hr := HR1.out
        rw [if_neg (by simp), e0] at hr
        have HCK := qh (fun g W h hg => by1_Unlink p B L la 4 a t g W h hG hM hla hg)
        generalize cutP L la a false = o at *
        obtain ⟨Lo, no, eo⟩ := o
        subst hr
        clear e0 HR1
        go_region_held3 (fun w' => w'.cell? ⟨gb, 0, none⟩ = some (.int .i64 4) ∧ w'.cell? ⟨gb, 1, none⟩ = some (.string a) ∧ w'.cell? ⟨gb, 2, none⟩ = some (.string t) ∧ w'.cell? ⟨f, 0, none⟩ = some (pT p)) (first | (go_keep; done) | exact HY5.out | exact HY.out _ HE4.out) (first | (go_at_call 78; refine (HD.out _).mono ?_; rintro e w4 ⟨v1, v2, v4, rfl, hv, hb4⟩; have HE4 : Hid (Below w3.heap.size w3 w4) := qh (by first | exact hb4 | exact (below_drew (Below.refl _ _)).trans hb4); clear hb4; obtain ⟨g, rfl, hg⟩ := hv.2.2; clear hv) | (go_at_call 151; refine (HCK.out _ _ (HT3.out.below HE4.out) hg).mono ?_; rintro e w5 ⟨rfl, hT5, hF5⟩; have HT5 := qh hT5; have HF5 := qh ((HF3.out.below HE4.out).frm (HT3.out.below HE4.out) hF5); have HB5 := qh (HB3.out.trans ((Fr3.ofBelow HE4.out).trans (Fr3.ofFrm hF5))); have hbx := box3 (cells_frm ((HE4.out.block _ (blk_lt H3.out)).trans H3.out) (by decide) (HT3.out.below HE4.out) hF5); have HY5 := qh (show w5.cell? ⟨gb, 0, none⟩ = some (.int .i64 4) ∧ w5.cell? ⟨gb, 1, none⟩ = some (.string a) ∧ w5.cell? ⟨gb, 2, none⟩ = some (.string t) ∧ w5.cell? ⟨f, 0, none⟩ = some (pT p) from ⟨hbx.1, hbx.2.1, hbx.2.2, HF5.out.cells.1⟩); clear hT5 hF5 hbx))
        all_goals
         go_wp2
         go_ret
         exact ⟨rfl, HF5.out, HT5.out, HB5.out⟩
       ·
        by_cases k5 : k = 5
        ·
         subst k5
         have e0 : doP L la 5 a t = renP L la a t := by unfold doP; simp
         have hr := HR1.out
         rw [if_neg (by simp), e0] at hr
         have HCK := qh (fun W h => deeds2_calls p B L la 5 a t W h hG hM hla)
         generalize renP L la a t = o at *
         obtain ⟨Lo, no, eo⟩ := o
         subst hr
         clear e0 HR1
         go_region_held3 (fun w' => w'.cell? ⟨gb, 0, none⟩ = some (.int .i64 5) ∧ w'.cell? ⟨gb, 1, none⟩ = some (.string a) ∧ w'.cell? ⟨gb, 2, none⟩ = some (.string t) ∧ w'.cell? ⟨f, 0, none⟩ = some (pT p)) (first | (go_keep; done) | exact HY5.out | exact HY.out _ HE4.out) (first | (go_at_call 78; refine (HD.out _).mono ?_; rintro e w4 ⟨v1, v2, v4, rfl, hv, hb4⟩; have HE4 : Hid (Below w3.heap.size w3 w4) := qh (by first | exact hb4 | exact (below_drew (Below.refl _ _)).trans hb4); clear hb4; clear hv) | (go_at_call 123; refine (HCK.out _ (HT3.out.below HE4.out)).mono ?_; rintro e w5 ⟨rfl, hT5, hF5⟩; have HT5 := qh hT5; have HF5 := qh ((HF3.out.below HE4.out).frm (HT3.out.below HE4.out) hF5); have HB5 := qh (HB3.out.trans ((Fr3.ofBelow HE4.out).trans (Fr3.ofFrm hF5))); have hbx := box3 (cells_frm ((HE4.out.block _ (blk_lt H3.out)).trans H3.out) (by decide) (HT3.out.below HE4.out) hF5); have HY5 := qh (show w5.cell? ⟨gb, 0, none⟩ = some (.int .i64 5) ∧ w5.cell? ⟨gb, 1, none⟩ = some (.string a) ∧ w5.cell? ⟨gb, 2, none⟩ = some (.string t) ∧ w5.cell? ⟨f, 0, none⟩ = some (pT p) from ⟨hbx.1, hbx.2.1, hbx.2.2, HF5.out.cells.1⟩); clear hT5 hF5 hbx))
         all_goals
          go_wp2
          go_ret
          exact ⟨rfl, HF5.out, HT5.out, HB5.out⟩
        ·
         by_cases k6 : k = 6
         ·
          subst k6
          have e0 : doP L la 6 a t = wrP L la a t := by unfold doP; simp
          have hr := HR1.out
          rw [if_neg (by simp), e0] at hr
          have HCK := qh (fun W h => deeds3_calls p B L la 6 a t W h hG hM hla)
          generalize wrP L la a t = o at *
          obtain ⟨Lo, no, eo⟩ := o
          subst hr
          clear e0 HR1
          go_region_held3 (fun w' => w'.cell? ⟨gb, 0, none⟩ = some (.int .i64 6) ∧ w'.cell? ⟨gb, 1, none⟩ = some (.string a) ∧ w'.cell? ⟨gb, 2, none⟩ = some (.string t) ∧ w'.cell? ⟨f, 0, none⟩ = some (pT p)) (first | (go_keep; done) | exact HY5.out | exact HY.out _ HE4.out) (first | (go_at_call 78; refine (HD.out _).mono ?_; rintro e w4 ⟨v1, v2, v4, rfl, hv, hb4⟩; have HE4 : Hid (Below w3.heap.size w3 w4) := qh (by first | exact hb4 | exact (below_drew (Below.refl _ _)).trans hb4); clear hb4; clear hv) | (go_at_call 124; refine (HCK.out _ (HT3.out.below HE4.out)).mono ?_; rintro e w5 ⟨rfl, hT5, hF5⟩; have HT5 := qh hT5; have HF5 := qh ((HF3.out.below HE4.out).frm (HT3.out.below HE4.out) hF5); have HB5 := qh (HB3.out.trans ((Fr3.ofBelow HE4.out).trans (Fr3.ofFrm hF5))); have hbx := box3 (cells_frm ((HE4.out.block _ (blk_lt H3.out)).trans H3.out) (by decide) (HT3.out.below HE4.out) hF5); have HY5 := qh (show w5.cell? ⟨gb, 0, none⟩ = some (.int .i64 6) ∧ w5.cell? ⟨gb, 1, none⟩ = some (.string a) ∧ w5.cell? ⟨gb, 2, none⟩ = some (.string t) ∧ w5.cell? ⟨f, 0, none⟩ = some (pT p) from ⟨hbx.1, hbx.2.1, hbx.2.2, HF5.out.cells.1⟩); clear hT5 hF5 hbx))
          all_goals
           go_wp2
           go_ret
           exact ⟨rfl, HF5.out, HT5.out, HB5.out⟩
         ·
          exact absurd hk (by omega)
   ·
    obtain rfl : r = ((L, la, fv), n1, fv == 17) := by rw [HR1.out, if_pos hfv]
    have b1 : (fv != 0) = true := bne_iff_ne.2 hfv
    have HF4 := qh (HF3.out.set3 (fv == 17))
    have HT4 := qh (HF3.out.tree HT3.out 3 (.bool (fv == 17)))
    clear hfv HR1 HD
    go_wp2
    go_ret
    exact ⟨rfl, HF4.out, HT4.out, HB3.out.trans (Fr3.ofSet 3 _)⟩
  ·
   obtain rfl : r = ((L, la, 2), cnt, false) := by rw [HR.out, if_neg (by decide), if_pos hk]
   have HKN := qh (fun W => known_no k W hk)
   obtain ⟨c0, c2, c3, g2, g3⟩ := HF1.out.cells
   clear HR HD HFA hk hn1
   go_enter Tryz.func23, Tryz.ntmps23
   go_wp2_with (go_at_call 76; refine (HKN.out _).mono ?_; rintro e w' ⟨rfl, rfl⟩)
   go_ret
   exact ⟨rfl, HF1.out, HT1.out, Fr3.ofBelow HB1.out⟩
end Go.Proofs.YtnpeeiikdcankaaGreat.Tw

namespace Go.Proofs.YtnpeeiikdcankaaGreat.X
open Go.RowKit Go.Proofs.YtnpeeiikdcankaaGreatW.PrintWords Go.Proofs.YtnpeeiikdcankaaGreatW.PrintLast Go.Proofs.YtnpeeiikdcankaaGreatW.PrintMore Go.Proofs.YtnpeeiikdcankaaGreat.Ext
attribute [local go_sem] max2_int min2_int max_two min_two max_three min_three max_four min_four
theorem eqA162 (d : Nat) (w : World) (x0 y0 : ByteArray) (x1 y1 : Int) :
  (Op.equalIn (d + 2) 162 (.agg #[.string x0, .int .i64 x1]) (.agg #[.string y0, .int .i64 y1])).run Tryz.prog w = .ok (x0.toList == y0.toList && (x1 == y1)) w := by
 refine eqA_of Tryz.underlying162 (by kernel_rfl) ?_
 refine eqf_cons (by rfl) (by go_simp; rfl) (by go_simp; rfl) (by go_simp) ?_
 exact eqf_last (by rfl) (by go_simp; rfl) (by go_simp; rfl) (by go_simp)
end Go.Proofs.YtnpeeiikdcankaaGreat.X

namespace Go.Proofs.YtnpeeiikdcankaaGreat.X
open Go.RowKit Go.Proofs.YtnpeeiikdcankaaGreatW.PrintWords Go.Proofs.YtnpeeiikdcankaaGreatW.PrintLast Go.Proofs.YtnpeeiikdcankaaGreatW.PrintMore Go.Proofs.YtnpeeiikdcankaaGreat.Ext
attribute [local go_sem] max2_int min2_int max_two min_two max_three min_three max_four min_four
attribute [local go_sem high] eqA162
def linhayref06_Same.l0 : Nat → List (S162) → List (S162) → Int → Option (Bool)
 | 0, _, _, _ => none
 | k + 1, x0, x1, x5 => if x5 < (x0.length : Int) then (if 0 ≤ x5 then (if x5 < (x1.length : Int) then (if (!((((rd_T162 x0 x5).f0).toList) == (((rd_T162 x1 x5).f0).toList)) || (!(((rd_T162 x0 x5).f1) == ((rd_T162 x1 x5).f1)))) = true then (some false) else (linhayref06_Same.l0 k x0 x1 (wrap64 (x5 + 1)))) else (none)) else (none)) else (some true)
def linhayref06_Same.f (k : Nat) (l0 : List (S162)) (l1 : List (S162)) : Option (Bool) := if (l0.length : Int) = (l1.length : Int) then (linhayref06_Same.l0 k l0 l1 0) else (some false)
theorem linhayref06_Same.calls (k : Nat) (A0 : Option Addr) (c0 : Nat) (l0 : List (S162)) (A1 : Option Addr) (c1 : Nat) (l1 : List (S162)) (r : Bool) (w : World) (hr0 : Kd.C k162 w A0 l0.length l0) (hc0 : l0.length ≤ c0) (hr1 : Kd.C k162 w A1 l1.length l1) (hc1 : l1.length ≤ c1) (h : linhayref06_Same.f k l0 l1 = some r) :
  Calls Tryz.prog 73 #[.slice A0 l0.length c0, .slice A1 l1.length c1] w fun e w' => e = .returned (.bool r) ∧ Drawn0 w w' := by
 have hu36 := Tryz.underlying36
 have hu49 := Tryz.underlying49
 have hu66 := Tryz.underlying66
 have hu93 := Tryz.underlying93
 have hu106 := Tryz.underlying106
 have hu115 := Tryz.underlying115
 have hu130 := Tryz.underlying130
 have hu162 := Tryz.underlying162
 have HR0 := qa hr0
 have HC0 := qa hc0
 clear hr0 hc0
 have HR1 := qa hr1
 have HC1 := qa hc1
 clear hr1 hc1
 have H : (if (l0.length : Int) = (l1.length : Int) then (linhayref06_Same.l0 k l0 l1 0) else (some false)) = some r := h
 clear h
 by_cases c3 : (l0.length : Int) = (l1.length : Int)
 ·
  rw [if_pos c3] at H
  have c3b0 : ((l0.length : Int) == (l1.length : Int)) = true := beq_iff_eq.mpr c3
  have c3b1 : ((l0.length : Int) != (l1.length : Int)) = false := bne_eq_false_iff_eq.mpr c3
  have c3b2 : (l0.length == l1.length) = true := by first | simpa using c3 | (simp at c3 ⊢; omega)
  clear c3
  have H' := qa H
  clear H
  go_enter Tryz.func73, Tryz.ntmps73
  go_wp2
  repeat (go_quiet (fail); try go_wp2)
  go_loopg [5] k (fun kq v5 w' => ∃ (x5_1 : Int), v5 = .int .i64 x5_1 ∧ Aside0 (linhayref06_Same.l0 kq l0 l1 x5_1 = some r) ∧ Aside0 (kq ≤ k) ∧ Drawn0 w w')
  case atStart => exact ⟨(0), (by first | rfl | (simp; done) | (simp [*]; done) | (simp [bne_nil]; done)), H', ⟨Nat.le_refl _⟩, by repeat (first | exact Drawn0.refl _ | apply Drawn0.step)⟩
  case round =>
   clear H'
   try clear c1
   try clear p2
   try clear c3
   try clear c3b0
   try clear c3b1
   try clear c3b2
   obtain ⟨x5_1, rfl, HA, HK1, ⟨m1, rfl⟩⟩ := hrel
   cases gk with
   | zero => exact absurd HA.out (by simp [linhayref06_Same.l0])
   | succ k1 =>
    have H := HA.out
    clear HA
    simp only [linhayref06_Same.l0] at H
    by_cases c4 : x5_1 < (l0.length : Int)
    ·
     rw [if_pos c4] at H
     have c4b0 : decide (x5_1 < (l0.length : Int)) = true := decide_eq_true c4
     clear c4
     by_cases c5 : 0 ≤ x5_1
     ·
      rw [if_pos c5] at H
      have c5b0 : decide (0 ≤ x5_1) = true := decide_eq_true c5
      clear c5
      by_cases c6 : x5_1 < (l1.length : Int)
      ·
       rw [if_pos c6] at H
       have c6b0 : decide (x5_1 < (l1.length : Int)) = true := decide_eq_true c6
       clear c6
       by_cases c7 : (!((((rd_T162 l0 x5_1).f0).toList) == (((rd_T162 l1 x5_1).f0).toList)) || (!(((rd_T162 l0 x5_1).f1) == ((rd_T162 l1 x5_1).f1)))) = true
       ·
        rw [if_pos c7] at H
        have c7b0 : (!((((rd_T162 l0 x5_1).f0).toList) == (((rd_T162 l1 x5_1).f0).toList)) || (!(((rd_T162 l0 x5_1).f1) == ((rd_T162 l1 x5_1).f1)))) = true := c7
        clear c7
        obtain rfl := Option.some.inj H
        have p265 : 0 ≤ (x5_1 : Int) := of_decide_eq_true (by first | (with_reducible assumption) | assumption)
        have q265 : x5_1 < (l0.length : Int) := of_decide_eq_true (by first | (with_reducible assumption) | assumption)
        obtain ⟨ad265, e265, hx265_0, hx265_1⟩ := at_T162 HR0.out x5_1 p265 q265
        cases e265
        replace p265 := eq_true p265
        replace q265 := eq_true q265
        have p266 : 0 ≤ (x5_1 : Int) := of_decide_eq_true (by first | (with_reducible assumption) | assumption)
        have q266 : x5_1 < (l1.length : Int) := of_decide_eq_true (by first | (with_reducible assumption) | assumption)
        obtain ⟨ad266, e266, hx266_0, hx266_1⟩ := at_T162 HR1.out x5_1 p266 q266
        cases e266
        replace p266 := eq_true p266
        replace q266 := eq_true q266
        go_wp2
        repeat (go_quiet (fail); try go_wp2)
        go_ret
        exact ⟨by first | rfl | (simp; done) | (simp [*]; done), by repeat (first | exact Drawn0.refl _ | apply Drawn0.step)⟩
       ·
        rw [if_neg c7] at H
        have c7b0 : (!((((rd_T162 l0 x5_1).f0).toList) == (((rd_T162 l1 x5_1).f0).toList)) || (!(((rd_T162 l0 x5_1).f1) == ((rd_T162 l1 x5_1).f1)))) = false := by simpa using c7
        clear c7
        have H' := qa H
        clear H
        have p265 : 0 ≤ (x5_1 : Int) := of_decide_eq_true (by first | (with_reducible assumption) | assumption)
        have q265 : x5_1 < (l0.length : Int) := of_decide_eq_true (by first | (with_reducible assumption) | assumption)
        obtain ⟨ad265, e265, hx265_0, hx265_1⟩ := at_T162 HR0.out x5_1 p265 q265
        cases e265
        replace p265 := eq_true p265
        replace q265 := eq_true q265
        have p266 : 0 ≤ (x5_1 : Int) := of_decide_eq_true (by first | (with_reducible assumption) | assumption)
        have q266 : x5_1 < (l1.length : Int) := of_decide_eq_true (by first | (with_reducible assumption) | assumption)
        obtain ⟨ad266, e266, hx266_0, hx266_1⟩ := at_T162 HR1.out x5_1 p266 q266
        cases e266
        replace p266 := eq_true p266
        replace q266 := eq_true q266
        go_wp2
        repeat (go_quiet (fail); try go_wp2)
        go_roundg k1
        case measure => have := HK1.out; omega
        case rel => exact ⟨(wrap64 (x5_1 + 1)), (by first | rfl | (simp; done) | (simp [*]; done) | (simp [bne_nil]; done)), H', ⟨by have := HK1.out; omega⟩, by repeat (first | exact Drawn0.refl _ | apply Drawn0.step)⟩
      ·
       rw [if_neg c6] at H
       exact absurd H (by simp)
     ·
      rw [if_neg c5] at H
      exact absurd H (by simp)
    ·
     rw [if_neg c4] at H
     have c4b0 : decide (x5_1 < (l0.length : Int)) = false := decide_eq_false c4
     clear c4
     obtain rfl := Option.some.inj H
     go_wp2
     repeat (go_quiet (fail); try go_wp2)
     go_ret
     exact ⟨by first | rfl | (simp; done) | (simp [*]; done), by repeat (first | exact Drawn0.refl _ | apply Drawn0.step)⟩
 ·
  rw [if_neg c3] at H
  have c3b0 : ((l0.length : Int) == (l1.length : Int)) = false := beq_eq_false_iff_ne.mpr c3
  have c3b1 : ((l0.length : Int) != (l1.length : Int)) = true := bne_iff_ne.mpr c3
  have c3b2 : (l0.length == l1.length) = false := by first | simpa using c3 | (simp at c3 ⊢; omega)
  obtain rfl := Option.some.inj H
  go_enter Tryz.func73, Tryz.ntmps73
  go_wp2
  repeat (go_quiet (fail); try go_wp2)
  go_ret
  exact ⟨by first | rfl | (simp; done) | (simp [*]; done), by repeat (first | exact Drawn0.refl _ | apply Drawn0.step)⟩
end Go.Proofs.YtnpeeiikdcankaaGreat.X

namespace Go.Proofs.YtnpeeiikdcankaaGreat.Tw
open Go Go.RowKit Go.Shelf Go.Proofs Go.Proofs.YtnpeeiikdcankaaGreat Go.Proofs.YtnpeeiikdcankaaGreatW.PrintWords Go.Proofs.YtnpeeiikdcankaaGreat.Ext Go.Proofs.YtnpeeiikdcankaaGreat.X Go.Proofs.YtnpeeiikdcankaaGreat.Pu
theorem same6_ev (l : List En) (hl : l.length < 4294967296) : Ev (fun k => linhayref06_Same.f k l l) true := by
 have key : ∀ (d i : Nat), i + d = l.length → Ev (fun k => linhayref06_Same.l0 k l l (i : Int)) true := by
  intro d
  induction d with
  | zero =>
   intro i hi
   refine Ev.step (fun k => by rw [linhayref06_Same.l0]) ?_
   exact ev_neg (by omega) (Ev.now _)
  | succ d ih =>
   intro i hi
   refine Ev.step (fun k => by rw [linhayref06_Same.l0]) (ev_pos (by omega) (ev_pos (by omega) (ev_pos (by omega) (ev_neg (by simp) ?_))))
   rw [w1 (by omega)]
   exact ih (i + 1) (by omega)
 unfold linhayref06_Same.f
 exact ev_pos rfl (key l.length 0 (by omega))
theorem len_calls (p B : Nat) (T : Tr) (w : World) (h : TreeB w p B T) :
  Calls Tryz.prog 67 #[pT p] w fun e w' => e = .returned (.int .i64 (T.cnt : Int)) ∧ w' = w := by
 have c0 := h.cell0
 have hrun := fun ty => h.len_run ty
 go_enter Tryz.func67, Tryz.ntmps67
 go_wp2
 go_ret
 exact ⟨rfl, rfl⟩
theorem wf_mid {n : Int} (h : -1000000 ≤ n ∧ n ≤ 2000000) : wf n := by unfold wf; simp only [Lit.wf, Bool.and_eq_true, decide_eq_true_eq]; obtain ⟨a, b⟩ := h; exact ⟨Int.le_trans (by decide) a, Int.le_trans b (by decide)⟩
theorem C_none {w : World} : Kd.C k162 w none 0 [] := Kd.C_nil _ _
theorem wmid {n : Int} (h : -2 ≤ n ∧ n ≤ 2000000) : wrap64 (n + 1) = n + 1 := by unfold wrap64; omega
theorem ents_dirS {L : List RN} {last : Int} (h : GoodL L last) {n : Int} (hk : (atR L n).f3 ≠ 1) : entsOf L n = [] := by
 refine List.eq_nil_iff_forall_not_mem.2 fun e he => ?_
 obtain ⟨r, hr, hi, _⟩ := mem_ents.1 he
 have hu := h.up r hr
 rw [(isIn_iff.1 hi).1] at hu
 exact hk hu
theorem same7_calls (p B : Nat) (L : List RN) (last : Int) (v : Value) (w : World) (hT : TreeB w p B (trOf L last)) (hV : RAt w v L last) (hG : GoodL L last) (hla : last ≤ 1000000) :
  Calls Tryz.prog 17 #[pT p, v] w fun e w' => e = .returned (.bool true) ∧ Below w.heap.size w w' := by
 have hl := hG.len
 have hl1 := hG.last1
 have hO := trOK hG hla
 obtain ⟨A, c, rfl, hle, hC⟩ := hV
 have hu30 := Tryz.underlying30
 have hu106 := Tryz.underlying106
 have HB1 := qh ((Below.refl w.heap.size w).alloc (Nat.le_refl _) (.cells #[.slice A L.length c, .int .i64 last] 30))
 have H1 := qh (heap_alloc_new w (.cells #[.slice A L.length c, .int .i64 last] 30))
 have HLEN := qh (fun W h => len_calls p B (trOf L last) W h)
 have hcnt : ((trOf L last).cnt : Int) = (L.length : Int) := rfl
 rw [hcnt] at HLEN
 have HAT := qh (fun m => (r07_at L m last (by omega)).rounds)
 have HKI := qh (fun m W h hm => kind_calls p (trOf L last) m W h hm)
 have HDA := qh (fun m W h hm => data_calls p (trOf L last) m W h hm)
 have HUP := qh (fun m W h hm => up_calls p (trOf L last) m W h hm)
 have HLI := qh (fun m W h hm => list_calls p (trOf L last) m W h hm (hO.small.node _))
 have HL7 := qh (fun m => (list7_ev hG m).rounds)
 have HND := qh (fun m => node_of hG m)
 have HED := qh (fun m h => ents_dirS hG (n := m) h)
 have HEL := qh (fun m => ents_len L m)
 have HSZ := qh hl
 have HLA := qh (And.intro hl1 hla)
 have HC := qh hC
 have HLE := qh hle
 have HT := qh hT
 clear hT hC hle hG hO hl hl1 hla hcnt
 go_enter Tryz.func17, Tryz.ntmps17
 go_upto_region 1 with (fail)
 generalize w.alloc (.cells #[.slice A L.length c, .int .i64 last] 30) = w1 at HB1 H1 ⊢
 generalize hb0 : w.heap.size = b at HB1 H1 ⊢
 have HW0 := qh hb0
 clear hb0
 have HX := qh (fun (W : World) (hb : Below w1.heap.size w1 W) => show W.cell? ⟨b, 0, none⟩ = some (.slice A L.length c) ∧ W.cell? ⟨b, 1, none⟩ = some (.int .i64 last) by
  have e1 := (hb.block _ (blk_lt H1.out)).trans H1.out
  exact ⟨by rw [blk_cell e1]; rfl, by rw [blk_cell e1]; rfl⟩)
 have HZ := qh (show Below w.heap.size w w1 by rw [HW0.out]; exact HB1.out)
 have HCT := qh (fun (W : World) (hb : Below w1.heap.size w1 W) => Kd.C_below HC.out (HZ.out.trans (hb.mono HZ.out.size)))
 have HTT := qh (fun (W : World) (hb : Below w1.heap.size w1 W) => HT.out.below (HZ.out.trans (hb.mono HZ.out.size)))
 obtain ⟨x0, x1⟩ := HX.out _ (Below.refl _ _)
 have e0 : ((L.length : Int) != (L.length : Int)) = false := by simp
 have HT1 := qh (HTT.out _ (Below.refl _ _))
 go_quiet ((go_at_call 67; exact Calls.quiet_of_same (HLEN.out _ (HT1.out.below (pw_below_drewN (Below.refl _ _) _)))))
 go_wp2
 have HBQ := qh (pw_below_drewN (Below.refl w1.heap.size w1) nq)
 obtain ⟨W2, hW2⟩ : ∃ W2, w1.drewN nq = W2 := ⟨_, rfl⟩
 rw [hW2] at HBQ ⊢
 clear hW2 x0 x1 HT1 e0 HLEN
 go_loopw [5] (fun v5 wr => ∃ m : Int, v5 = .int .i64 m ∧ -1 ≤ m ∧ m ≤ last + 2 ∧ Below w1.heap.size w1 wr) (fun v _ => (last + 2 - intOf v).toNat)
 case atStart => exact ⟨-1, rfl, by omega, by have := HLA.out.1; omega, HBQ.out⟩
 case round =>
  obtain ⟨m, rfl, hm1, hm2, hB⟩ := hrel
  have HBr := qh hB
  clear hB HBQ
  obtain ⟨x0, x1⟩ := HX.out _ HBr.out
  have hla := HLA.out
  by_cases h : m ≤ last + 1
  ·
   have hlt : m ≤ wrap64 (last + 1) := by rw [wmid (by omega)]; exact h
   have hwm : wf m := wf_mid (by omega)
   have HWM := qh hwm
   have HM := qh (And.intro hm1 h)
   obtain ⟨km, hkm⟩ := HAT.out m
   obtain ⟨kl, hkl⟩ := HL7.out m
   have HA := qh (fun W h => linhayref07_At.calls km A c L last m _ _ _ _ _ W h HLE.out hkm)
   have HLL := qh (fun W h => linhayref07_List.calls kl A c L last m _ W h HLE.out hkl)
   have HK := qh (fun W h => HKI.out m W h HWM.out)
   have HD := qh (fun W h => HDA.out m W h HWM.out)
   have HU := qh (fun W h => HUP.out m W h HWM.out)
   have HL := qh (fun W h => HLI.out m W h HWM.out)
   obtain ⟨k6, hk6⟩ := (same6_ev (entsOf L m) (by have := HEL.out m; have := HSZ.out; omega)).rounds
   have HS6 := qh (fun A c A' c' W h1 h2 h3 h4 => linhayref06_Same.calls k6 A c (entsOf L m) A' c' (entsOf L m) true W h1 h2 h3 h4 hk6)
   rw [HND.out m] at HK HD HU HL
   have HED2 := qh (HED.out m)
   generalize entsOf L m = es at *
   generalize atR L m = q at *
   obtain ⟨p0, p1, p2, p3, p4⟩ := q
   simp only [] at HK HD HU HL HA HED2
   clear hm1 hm2 hwm hkm hkl hk6 HAT HL7 HKI HDA HUP HLI HND HED HEL
   go_upto_region 7 with (go_at_call 68; refine (HA.out _ (HCT.out _ HBr.out)).mono ?_; rintro e w3 ⟨rfl, hb⟩; have HB3 := qh (HBr.out.trans (hb.mono HBr.out.size)); clear hb x0 x1)
   have HB4 := qh (HB3.out.alloc HB3.out.size (.cells #[.int .i64 p0, .int .i64 p1, .string p2, .int .i64 p3, .string p4] 106))
   have H4 := qh (heap_alloc_new w3 (.cells #[.int .i64 p0, .int .i64 p1, .string p2, .int .i64 p3, .string p4] 106))
   generalize w3.alloc (.cells #[.int .i64 p0, .int .i64 p1, .string p2, .int .i64 p3, .string p4] 106) = w4 at HB4 H4 ⊢
   generalize w3.heap.size = g at H4 ⊢
   have HY := qh (fun (W : World) (hb : Below w4.heap.size w4 W) => show W.cell? ⟨g, 1, none⟩ = some (.int .i64 p1) ∧ W.cell? ⟨g, 3, none⟩ = some (.int .i64 p3) ∧ W.cell? ⟨g, 4, none⟩ = some (.string p4) by
    obtain ⟨-, t1, -, t3, t4⟩ := node_cells ((hb.block _ (blk_lt H4.out)).trans H4.out)
    exact ⟨t1, t3, t4⟩)
   have HTB := qh (fun (W : World) (hb : Below w4.heap.size w4 W) => HTT.out W (HB4.out.trans (hb.mono HB4.out.size)))
   have HE4 := qh (Below.refl w4.heap.size w4)
   obtain ⟨y1, y3, y4⟩ := HY.out _ HE4.out
   have e1 : (p3 != p3) = false := by simp
   have e2 : (p4.toList != p4.toList) = false := by simp
   have e3 : (p1 != p1) = false := by simp
   go_region_held3 (fun w' => w'.cell? ⟨g, 1, none⟩ = some (.int .i64 p1) ∧ w'.cell? ⟨g, 3, none⟩ = some (.int .i64 p3) ∧ w'.cell? ⟨g, 4, none⟩ = some (.string p4)) (first | (go_keep; done) | exact HY.out _ HE7.out | exact HY.out _ HE6.out | exact HY.out _ HE5.out)
    (first
     | (go_at_call 69; refine (HK.out _ (HTB.out _ (by first | exact HE4.out | exact below_drew HE4.out)).at_).mono ?_; rintro e w5 ⟨rfl, hb⟩; have HE5 : Hid (Below w4.heap.size w4 w5) := qh (by first | exact HE4.out.trans (hb.mono HE4.out.size) | exact (below_drew HE4.out).trans (hb.mono HE4.out.size)); clear hb)
     | (go_at_call 70; refine (HD.out _ (HTB.out _ HE5.out).at_).mono ?_; rintro e w6 ⟨rfl, hb⟩; have HE6 : Hid (Below w4.heap.size w4 w6) := qh (HE5.out.trans (hb.mono HE5.out.size)); clear hb)
     | (go_at_call 71; refine (HU.out _ (HTB.out _ HE6.out).at_).mono ?_; rintro e w7 ⟨rfl, hb⟩; have HE7 : Hid (Below w4.heap.size w4 w7) := qh (HE6.out.trans (hb.mono HE6.out.size)); clear hb))
   clear y1 y3 y4 e1 e2 e3 HE5 HE6 HK HD HU HA
   have HB7 := qh (HB4.out.trans (HE7.out.mono HB4.out.size))
   obtain ⟨x0, x1⟩ := HX.out _ HB7.out
   go_upto_region 10 with (go_at_call 72; refine (HLL.out _ (HCT.out _ HB7.out)).mono ?_; rintro e w8 ⟨v8, rfl, ho8, hb⟩; obtain ⟨A8, c8, rfl, hl8, hC8⟩ := Kd.R_reads ho8; have HE8 := qh (HE7.out.trans (hb.mono HE7.out.size)); have HC8 := qh hC8; have HL8 := qh hl8; clear hb hC8 hl8 ho8 x0 x1)
   obtain ⟨y1, y3, y4⟩ := HY.out _ HE8.out
   by_cases k1 : p3 = 1
   ·
    have b1 : (p3 != 1) = false := bne_eq_false_iff_eq.2 k1
    clear k1 HED2
    go_wp2_with (first
     | (go_at_call 74; refine (HL.out _ (HTB.out _ HE8.out).at_).mono ?_; rintro e w9 ⟨v9, rfl, ho9, hb⟩; obtain ⟨A9, c9, rfl, hl9, hC9⟩ := Kd.R_reads ho9; have HE9 := qh (HE8.out.trans (hb.mono HE8.out.size)); have HC9 := qh hC9; have HL9 := qh hl9; have HC8 := qh (Kd.C_below HC8.out hb); clear hb hC9 hl9 ho9 y1 y3 y4)
     | (go_at_call 73; refine (HS6.out _ _ _ _ _ HC9.out HL9.out HC8.out HL8.out).mono ?_; rintro e w10 ⟨rfl, hd⟩; have HE10 := qh (HE9.out.trans (hd.below.mono HE9.out.size)); clear hd))
    go_roundw
    case rel => have := HM.out; have := HLA.out; exact ⟨m + 1, by rw [wmid (by omega)], by omega, by omega, HB4.out.trans (HE10.out.mono HB4.out.size)⟩
    case measure => have := HM.out; have := HLA.out; rw [wmid (by omega)]; simp only [intOf]; omega
   ·
    have b1 : (p3 != 1) = true := bne_iff_ne.2 k1
    have hes := HED2.out k1
    subst hes
    simp only [List.length_nil] at HL HLL HS6 HC8 HL8
    clear k1 HED2
    go_wp2_with (first
     | (go_at_call 74; refine (HL.out _ (HTB.out _ HE8.out).at_).mono ?_; rintro e w9 ⟨v9, rfl, ho9, hb⟩; obtain ⟨A9, c9, rfl, hl9, hC9⟩ := Kd.R_reads ho9; have HE9 := qh (HE8.out.trans (hb.mono HE8.out.size)); have HC9 := qh hC9; have HL9 := qh hl9; have HC8 := qh (Kd.C_below HC8.out hb); clear hb hC9 hl9 ho9 y1 y3 y4)
     | (go_at_call 73; refine (HS6.out _ _ none 0 _ HC9.out HL9.out C_none (Nat.le_refl 0)).mono ?_; rintro e w10 ⟨rfl, hd⟩; have HE10 := qh (HE9.out.trans (hd.below.mono HE9.out.size)); clear hd))
    go_roundw
    case rel => have := HM.out; have := HLA.out; exact ⟨m + 1, by rw [wmid (by omega)], by omega, by omega, HB4.out.trans (HE10.out.mono HB4.out.size)⟩
    case measure => have := HM.out; have := HLA.out; rw [wmid (by omega)]; simp only [intOf]; omega
  ·
   have hlt : ¬ m ≤ wrap64 (last + 1) := by rw [wmid (by omega)]; exact h
   clear HAT HL7 HKI HDA HUP HLI HND HED HEL
   go_wp2
   go_ret
   exact ⟨rfl, HZ.out.trans (HBr.out.mono HZ.out.size)⟩
def rowsL0 : List RN := [⟨1, 1, ⟨#[]⟩, 1, ⟨#[]⟩⟩]
def rowsL1 : List RN := [⟨1, 1, ⟨#[]⟩, 1, ⟨#[]⟩⟩, ⟨2, 1, ⟨#[97]⟩, 1, ⟨#[]⟩⟩]
def rowsL2 : List RN := [⟨1, 1, ⟨#[]⟩, 1, ⟨#[]⟩⟩, ⟨2, 1, ⟨#[97]⟩, 1, ⟨#[]⟩⟩, ⟨3, 1, ⟨#[99]⟩, 1, ⟨#[]⟩⟩]
def flL : List FT := [⟨2, 16⟩]
theorem spotL0 : spotV rowsL0 1 ⟨#[97]⟩ = (1, ⟨#[97]⟩, 0) := by
 have hG : GoodL rowsL0 1 := good0
 obtain ⟨k, hk⟩ := spotV_spec hG goodM0 ⟨#[97]⟩
 have : spotF (trOf rowsL0 1) 10 ⟨#[97]⟩ = some (1, ⟨#[97]⟩, 0) := by
  simp [rowsL0, spotF, beginE, toL, ByteArray.size, partsB, bs, Sp.parts, Sp.go, Sp.keep, walk_cons, walk_nil, node_of hG, downT_of hG, atR, inR, inQ, Sp.check, slashB, Lib.hasPrefix, Sp.mk, show trOf [⟨1, 1, ⟨#[]⟩, 1, ⟨#[]⟩⟩] 1 = trOf rowsL0 1 from rfl]
 exact spotF_det hk this
theorem fsA : fsP rowsL0 1 flL 0 false 1 ⟨#[97]⟩ ⟨#[]⟩ = ((rowsL1, 2, 0), 1, false) := by
 have h1 : doP rowsL0 1 1 ⟨#[97]⟩ ⟨#[]⟩ = (rowsL1, 2, 0) := by
  unfold doP mkP
  rw [if_pos rfl, spotL0]
  simp [rowsL0, rowsL1, putL, putN, putRE, dirE, atR, inR, inQ, toL, mayE, Sp.check, ByteArray.size]
 unfold fsP
 rw [if_neg (by decide), if_neg (by decide), if_neg (by simp [faultV, flL, fP]), h1]
 rfl
theorem goodL1 : GoodL rowsL1 2 ∧ GoodM rowsL1 := by
 have := (fine_fs (L := rowsL0) (la := 1) good0 goodM0 flL 0 false 1 ⟨#[97]⟩ ⟨#[]⟩).1
 rw [fsA] at this
 exact ⟨this.good, this.goodm⟩
theorem fsB : fsP rowsL1 2 flL 1 false 1 ⟨#[98]⟩ ⟨#[]⟩ = ((rowsL1, 2, 16), 2, false) := by
 unfold fsP
 rw [if_neg (by decide), if_neg (by decide), if_pos (by simp [faultV, flL, fP])]
 simp [faultV, flL, fP]
theorem spotL1 : spotV rowsL1 2 ⟨#[99]⟩ = (1, ⟨#[99]⟩, 0) := by
 have hG : GoodL rowsL1 2 := goodL1.1
 obtain ⟨k, hk⟩ := spotV_spec hG goodL1.2 ⟨#[99]⟩
 have : spotF (trOf rowsL1 2) 10 ⟨#[99]⟩ = some (1, ⟨#[99]⟩, 0) := by
  simp [rowsL1, spotF, beginE, toL, ByteArray.size, partsB, bs, Sp.parts, Sp.go, Sp.keep, walk_cons, walk_nil, node_of hG, downT_of hG, atR, inR, inQ, Sp.check, slashB, Lib.hasPrefix, Sp.mk, show trOf [⟨1, 1, ⟨#[]⟩, 1, ⟨#[]⟩⟩, ⟨2, 1, ⟨#[97]⟩, 1, ⟨#[]⟩⟩] 2 = trOf rowsL1 2 from rfl]
 exact spotF_det hk this
theorem fsC : fsP rowsL1 2 flL 2 false 1 ⟨#[99]⟩ ⟨#[]⟩ = ((rowsL2, 3, 0), 3, false) := by
 have h1 : doP rowsL1 2 1 ⟨#[99]⟩ ⟨#[]⟩ = (rowsL2, 3, 0) := by
  unfold doP mkP
  rw [if_pos rfl, spotL1]
  simp [rowsL1, rowsL2, putL, putN, putRE, dirE, atR, inR, inQ, toL, mayE, Sp.check, ByteArray.size]
 unfold fsP
 rw [if_neg (by decide), if_neg (by decide), if_neg (by simp [faultV, flL, fP]), h1]
 rfl
theorem oneF {w : World} {b : Nat} {x : FT} (h : w.heap[b]? = some (.cells #[.int .i64 x.f0, .int .i64 x.f1] 115 (0, 0))) : Kd.C k115 w (some ⟨b, 0, none⟩) 1 [x] := by
 refine ⟨rfl, by simp, fun _ => ⟨⟨b, 0, none⟩, rfl, fun j q hj => ?_⟩⟩
 have hj0 : j = 0 ∧ q = x := by
  cases j with
  | zero => simpa using hj.symm
  | succ j => simp at hj
 obtain ⟨rfl, rfl⟩ := hj0
 refine ⟨_, rfl, k115_mk _ _, fun i u hu => ?_⟩
 match i, hu with
 | 0, hu => cases hu; show w.cell? ⟨b, 0, none⟩ = _; rw [blk_cell h]; rfl
 | 1, hu => cases hu; show w.cell? ⟨b, 1, none⟩ = _; rw [blk_cell h]; rfl
theorem lives10_calls (w : World) : Calls Tryz.prog 19 #[] w fun e w' => e = .returned (.bool true) ∧ Below w.heap.size w w' := by
 have HN := qh (fun W => newfs_nil W)
 have HP := qh (fun f p B A c W h hT hC hc => planfs_calls f p B T0 [] flL 0 false A c W h hT hC hc (by decide))
 have HA := qh (fun f p B W h hT => do10_calls f p B rowsL0 1 flL 0 false 1 ⟨#[97]⟩ ⟨#[]⟩ W h hT good0 goodM0 (by decide) (by decide) (by decide))
 have HB := qh (fun f p B W h hT => do10_calls f p B rowsL1 2 flL 1 false 1 ⟨#[98]⟩ ⟨#[]⟩ W h hT goodL1.1 goodL1.2 (by decide) (by decide) (by decide))
 have HC := qh (fun f p B W h hT => do10_calls f p B rowsL1 2 flL 2 false 1 ⟨#[99]⟩ ⟨#[]⟩ W h hT goodL1.1 goodL1.2 (by decide) (by decide) (by decide))
 rw [fsA] at HA
 rw [fsB] at HB
 rw [fsC] at HC
 rw [show T0 = trOf rowsL0 1 from T0_eq] at HN HP
 have HCO := qh (fun f p W h => countfs_calls f p flL 3 false W h)
 have HTR := qh (fun f p W h => treefs_calls f p flL 3 false W h)
 have HLN := qh (fun p B W h => len_calls p B (trOf rowsL2 3) W h)
 have hc2 : ((trOf rowsL2 3).cnt : Int) = 3 := rfl
 rw [hc2] at HLN
 clear hc2
 go_enter Tryz.func19, Tryz.ntmps19
 go_upto_region 3 with (first
  | (go_at_call 20; refine (HN.out _).mono ?_; rintro e w2 ⟨f, p, B, rfl, hF, hT, hb, hf, hp, hB⟩; have hba := below_alloc (Below.refl w2.heap.size w2) (.cells #[.int .i64 2, .int .i64 16] 115); have HF2 := qh (hF.below hba); have HT2 := qh (hT.below hba); have HB2 := qh (hb.trans (hba.mono hb.size)); have HZ := qh (And.intro hf (And.intro hp hB)); have HQ2 := qh (oneF (x := ⟨2, 16⟩) (heap_alloc_new w2 (.cells #[.int .i64 2, .int .i64 16] 115))); clear hF hT hb hf hp hB hba)
  | (go_at_call 22; refine (HP.out _ _ _ _ _ _ HF2.out HT2.out HQ2.out (by decide)).mono ?_; rintro e w3 ⟨rfl, hF, hT, hr⟩; have HF3 := qh hF; have HT3 := qh hT; have HB3 := qh (HB2.out.trans (hr.below HB2.out.size HZ.out.2.1 HZ.out.2.2 HZ.out.1)); clear hF hT hr))
 go_upto_region 4 with (go_at_call 23; refine (HA.out _ _ _ _ HF3.out HT3.out).mono ?_; rintro e w4 ⟨rfl, hF, hT, hr⟩; have HF4 : Hid (FsAt w4 f p flL 1 false) := qh hF; have HT4 : Hid (TreeB w4 p B (trOf rowsL1 2)) := qh hT; have HB4 := qh (HB3.out.trans (hr.below HB3.out.size HZ.out.2.1 HZ.out.2.2 HZ.out.1)); clear hF hT hr)
 go_upto_region 5 with (go_at_call 23; refine (HB.out _ _ _ _ HF4.out HT4.out).mono ?_; rintro e w5 ⟨rfl, hF, hT, hr⟩; have HF5 : Hid (FsAt w5 f p flL 2 false) := qh hF; have HT5 : Hid (TreeB w5 p B (trOf rowsL1 2)) := qh hT; have HB5 := qh (HB4.out.trans (hr.below HB4.out.size HZ.out.2.1 HZ.out.2.2 HZ.out.1)); clear hF hT hr)
 go_upto_region 6 with (go_at_call 23; refine (HC.out _ _ _ _ HF5.out HT5.out).mono ?_; rintro e w6 ⟨rfl, hF, hT, hr⟩; have HF6 : Hid (FsAt w6 f p flL 3 false) := qh hF; have HT6 : Hid (TreeB w6 p B (trOf rowsL2 3)) := qh hT; have HB6 := qh (HB5.out.trans (hr.below HB5.out.size HZ.out.2.1 HZ.out.2.2 HZ.out.1)); clear hF hT hr)
 go_wp2_with (first
  | (go_at_call 25; refine (HCO.out _ _ _ HF6.out).mono ?_; rintro e w' ⟨rfl, rfl⟩)
  | (go_at_call 27; refine (HTR.out _ _ _ HF6.out).mono ?_; rintro e w' ⟨rfl, rfl⟩)
  | (go_at_call 67; refine (HLN.out _ _ _ HT6.out).mono ?_; rintro e w' ⟨rfl, rfl⟩))
 go_ret
 exact ⟨rfl, HB6.out⟩
end Go.Proofs.YtnpeeiikdcankaaGreat.Tw

namespace Go.Proofs.YtnpeeiikdcankaaGreat.X
open Go.RowKit Go.Proofs.YtnpeeiikdcankaaGreatW.PrintWords Go.Proofs.YtnpeeiikdcankaaGreatW.PrintLast Go.Proofs.YtnpeeiikdcankaaGreatW.PrintMore Go.Proofs.YtnpeeiikdcankaaGreat.Ext
attribute [local go_sem] max2_int min2_int max_two min_two max_three min_three max_four min_four
def linhaylaw09_Short.l0 : Nat → List (S36) → Int → Int → Option (Bool)
 | 0, _, _, _ => none
 | k + 1, x0, x1, x5 => if x5 < (x0.length : Int) then (if 0 ≤ x5 then (if (((rd_T36 x0 x5).f1).size : Int) > 2000 then (some false) else (if (((rd_T36 x0 x5).f2).size : Int) > 2000 then (some false) else (linhaylaw09_Short.l0 k x0 x1 (wrap64 (x5 + 1))))) else (none)) else (some (decide ((x0.length : Int) ≤ x1)))
def linhaylaw09_Short.f (k : Nat) (l0 : List (S36)) (a1 : Int) : Option (Bool) := linhaylaw09_Short.l0 k l0 a1 0
theorem linhaylaw09_Short.calls (k : Nat) (A0 : Option Addr) (c0 : Nat) (l0 : List (S36)) (a1 : Int) (r : Bool) (w : World) (hr0 : Kd.C k36 w A0 l0.length l0) (hc0 : l0.length ≤ c0) (h : linhaylaw09_Short.f k l0 a1 = some r) :
  Calls Tryz.prog 12 #[.slice A0 l0.length c0, .int .i64 a1] w fun e w' => e = .returned (.bool r) ∧ Drawn0 w w' := by
 have hu36 := Tryz.underlying36
 have hu49 := Tryz.underlying49
 have hu66 := Tryz.underlying66
 have hu93 := Tryz.underlying93
 have hu106 := Tryz.underlying106
 have hu115 := Tryz.underlying115
 have hu130 := Tryz.underlying130
 have hu162 := Tryz.underlying162
 have HR0 := qa hr0
 have HC0 := qa hc0
 clear hr0 hc0
 have H : (linhaylaw09_Short.l0 k l0 a1 0) = some r := h
 clear h
 have H' := qa H
 clear H
 go_enter Tryz.func12, Tryz.ntmps12
 go_wp2
 go_loopg [5] k (fun kq v5 w' => ∃ (x5_1 : Int), v5 = .int .i64 x5_1 ∧ Aside0 (linhaylaw09_Short.l0 kq l0 a1 x5_1 = some r) ∧ Aside0 (kq ≤ k) ∧ Drawn0 w w')
 case atStart => exact ⟨(0), (by first | rfl | (simp; done) | (simp [*]; done) | (simp [bne_nil]; done)), H', ⟨Nat.le_refl _⟩, by repeat (first | exact Drawn0.refl _ | apply Drawn0.step)⟩
 case round =>
  clear H'
  try clear c1
  try clear p2
  obtain ⟨x5_1, rfl, HA, HK1, ⟨m1, rfl⟩⟩ := hrel
  cases gk with
  | zero => exact absurd HA.out (by simp [linhaylaw09_Short.l0])
  | succ k1 =>
   have H := HA.out
   clear HA
   simp only [linhaylaw09_Short.l0] at H
   by_cases c3 : x5_1 < (l0.length : Int)
   ·
    rw [if_pos c3] at H
    have c3b0 : decide (x5_1 < (l0.length : Int)) = true := decide_eq_true c3
    clear c3
    by_cases c4 : 0 ≤ x5_1
    ·
     rw [if_pos c4] at H
     have c4b0 : decide (0 ≤ x5_1) = true := decide_eq_true c4
     clear c4
     by_cases c5 : (((rd_T36 l0 x5_1).f1).size : Int) > 2000
     ·
      rw [if_pos c5] at H
      have c5b0 : decide (2000 < (((rd_T36 l0 x5_1).f1).size : Int)) = true := decide_eq_true c5
      have c5b1 : decide (2000 < ((rd_T36 l0 x5_1).f1).size) = true := decide_eq_true (by omega)
      clear c5
      obtain rfl := Option.some.inj H
      have p251 : 0 ≤ (x5_1 : Int) := of_decide_eq_true (by first | (with_reducible assumption) | assumption)
      have q251 : x5_1 < (l0.length : Int) := of_decide_eq_true (by first | (with_reducible assumption) | assumption)
      obtain ⟨ad251, e251, hx251_0, hx251_1, hx251_2⟩ := at_T36 HR0.out x5_1 p251 q251
      cases e251
      replace p251 := eq_true p251
      replace q251 := eq_true q251
      go_wp2
      go_ret
      exact ⟨by first | rfl | (simp; done) | (simp [*]; done), by repeat (first | exact Drawn0.refl _ | apply Drawn0.step)⟩
     ·
      rw [if_neg c5] at H
      have c5b0 : decide (2000 < (((rd_T36 l0 x5_1).f1).size : Int)) = false := decide_eq_false c5
      have c5b1 : decide (2000 < ((rd_T36 l0 x5_1).f1).size) = false := decide_eq_false (by omega)
      clear c5
      by_cases c6 : (((rd_T36 l0 x5_1).f2).size : Int) > 2000
      ·
       rw [if_pos c6] at H
       have c6b0 : decide (2000 < (((rd_T36 l0 x5_1).f2).size : Int)) = true := decide_eq_true c6
       have c6b1 : decide (2000 < ((rd_T36 l0 x5_1).f2).size) = true := decide_eq_true (by omega)
       clear c6
       obtain rfl := Option.some.inj H
       have p251 : 0 ≤ (x5_1 : Int) := of_decide_eq_true (by first | (with_reducible assumption) | assumption)
       have q251 : x5_1 < (l0.length : Int) := of_decide_eq_true (by first | (with_reducible assumption) | assumption)
       obtain ⟨ad251, e251, hx251_0, hx251_1, hx251_2⟩ := at_T36 HR0.out x5_1 p251 q251
       cases e251
       replace p251 := eq_true p251
       replace q251 := eq_true q251
       have p252 : 0 ≤ (x5_1 : Int) := of_decide_eq_true (by first | (with_reducible assumption) | assumption)
       have q252 : x5_1 < (l0.length : Int) := of_decide_eq_true (by first | (with_reducible assumption) | assumption)
       obtain ⟨ad252, e252, hx252_0, hx252_1, hx252_2⟩ := at_T36 HR0.out x5_1 p252 q252
       obtain rfl : ad251 = ad252 := (by injection e252)
       replace p252 := eq_true p252
       replace q252 := eq_true q252
       go_wp2
       go_ret
       exact ⟨by first | rfl | (simp; done) | (simp [*]; done), by repeat (first | exact Drawn0.refl _ | apply Drawn0.step)⟩
      ·
       rw [if_neg c6] at H
       have c6b0 : decide (2000 < (((rd_T36 l0 x5_1).f2).size : Int)) = false := decide_eq_false c6
       have c6b1 : decide (2000 < ((rd_T36 l0 x5_1).f2).size) = false := decide_eq_false (by omega)
       clear c6
       have H' := qa H
       clear H
       have p251 : 0 ≤ (x5_1 : Int) := of_decide_eq_true (by first | (with_reducible assumption) | assumption)
       have q251 : x5_1 < (l0.length : Int) := of_decide_eq_true (by first | (with_reducible assumption) | assumption)
       obtain ⟨ad251, e251, hx251_0, hx251_1, hx251_2⟩ := at_T36 HR0.out x5_1 p251 q251
       cases e251
       replace p251 := eq_true p251
       replace q251 := eq_true q251
       have p252 : 0 ≤ (x5_1 : Int) := of_decide_eq_true (by first | (with_reducible assumption) | assumption)
       have q252 : x5_1 < (l0.length : Int) := of_decide_eq_true (by first | (with_reducible assumption) | assumption)
       obtain ⟨ad252, e252, hx252_0, hx252_1, hx252_2⟩ := at_T36 HR0.out x5_1 p252 q252
       obtain rfl : ad251 = ad252 := (by injection e252)
       replace p252 := eq_true p252
       replace q252 := eq_true q252
       go_wp2
       go_roundg k1
       case measure => have := HK1.out; omega
       case rel => exact ⟨(wrap64 (x5_1 + 1)), (by first | rfl | (simp; done) | (simp [*]; done) | (simp [bne_nil]; done)), H', ⟨by have := HK1.out; omega⟩, by repeat (first | exact Drawn0.refl _ | apply Drawn0.step)⟩
    ·
     rw [if_neg c4] at H
     exact absurd H (by simp)
   ·
    rw [if_neg c3] at H
    have c3b0 : decide (x5_1 < (l0.length : Int)) = false := decide_eq_false c3
    clear c3
    obtain rfl := Option.some.inj H
    go_wp2
    go_ret
    exact ⟨by first | rfl | (simp; done) | (simp [*]; done), by repeat (first | exact Drawn0.refl _ | apply Drawn0.step)⟩
end Go.Proofs.YtnpeeiikdcankaaGreat.X

namespace Go.Proofs.YtnpeeiikdcankaaGreat.Tw
open Go Go.RowKit Go.Shelf Go.Proofs Go.Proofs.YtnpeeiikdcankaaGreat Go.Proofs.YtnpeeiikdcankaaGreatW.PrintWords Go.Proofs.YtnpeeiikdcankaaGreat.Ext Go.Proofs.YtnpeeiikdcankaaGreat.X Go.Proofs.YtnpeeiikdcankaaGreat.Pu
abbrev TK := S36
def bulkT (x : TK) : Nat := 1 + (x.f1.size + 1 + (x.f2.size + 1)) + 1
theorem len_bulkA {α : Type} (β : α → Nat) (h1 : ∀ x, 1 ≤ β x) : ∀ l : List α, l.length ≤ (l.map β).sum := by
 intro l
 induction l with
 | nil => simp
 | cons x l ih =>
  rw [List.map_cons, List.sum_cons, List.length_cons]
  have := h1 x
  omega
theorem short_ev (l : List TK) (m : Int) (hl : l.length < 4294967296) : ∃ b, Ev (fun k => linhaylaw09_Short.f k l m) b ∧ (b = true → (l.length : Int) ≤ m) := by
 have key : ∀ (d i : Nat), i + d = l.length → ∃ b, Ev (fun k => linhaylaw09_Short.l0 k l m (i : Int)) b ∧ (b = true → (l.length : Int) ≤ m) := by
  intro d
  induction d with
  | zero =>
   intro i hi
   refine ⟨decide ((l.length : Int) ≤ m), ?_, fun h => of_decide_eq_true h⟩
   refine Ev.step (fun k => by rw [linhaylaw09_Short.l0]) ?_
   exact ev_neg (by omega) (Ev.now _)
  | succ d ih =>
   intro i hi
   obtain ⟨b, hb, hb2⟩ := ih (i + 1) (by omega)
   by_cases c1 : (((rd_T36 l (i : Int)).f1).size : Int) > 2000
   · refine ⟨false, Ev.step (fun k => by rw [linhaylaw09_Short.l0]) (ev_pos (by omega) (ev_pos (by omega) (ev_pos c1 (Ev.now _)))), fun h => by cases h⟩
   ·
    by_cases c2 : (((rd_T36 l (i : Int)).f2).size : Int) > 2000
    · refine ⟨false, Ev.step (fun k => by rw [linhaylaw09_Short.l0]) (ev_pos (by omega) (ev_pos (by omega) (ev_neg c1 (ev_pos c2 (Ev.now _))))), fun h => by cases h⟩
    ·
     refine ⟨b, Ev.step (fun k => by rw [linhaylaw09_Short.l0]) (ev_pos (by omega) (ev_pos (by omega) (ev_neg c1 (ev_neg c2 ?_)))), hb2⟩
     rw [w1 (by omega)]
     exact hb
 unfold linhaylaw09_Short.f
 exact key l.length 0 (by omega)
structure DW (w wr : World) (p B g : Nat) (L : List RN) (last : Int) : Prop where
 hb : Below w.heap.size w wr
 tree : TreeB wr p B (trOf L last)
 cell : ∃ A c, wr.heap[g]? = some (.cells #[.slice A L.length c, .int .i64 last] 30 (0, 0)) ∧ RAt wr (.agg #[.slice A L.length c, .int .i64 last]) L last
 hp : w.heap.size ≤ p
 hB : w.heap.size ≤ B
 hr : w.heap.size ≤ g
theorem DW.below {w wr w' : World} {p B g : Nat} {L : List RN} {last : Int} (h : DW w wr p B g L last) (hb : Below wr.heap.size wr w') : DW w w' p B g L last := by
 obtain ⟨A, c, h1, h2⟩ := h.cell
 exact ⟨h.hb.trans (hb.mono h.hb.size), h.tree.below hb, ⟨A, c, (hb.block _ (blk_lt h1)).trans h1, h2.below hb⟩, h.hp, h.hB, h.hr⟩
theorem apply_nil (v : Value) (w : World) : Calls Tryz.prog 28 #[.pointer none, v] w fun e w' => e = .returned (.tuple #[.int .i64 0, .int .i64 1]) ∧ w' = w := by
 go_enter Tryz.func28, Tryz.ntmps28
 go_wp2
 refine bodyPost_ret (v := .tuple #[.int .i64 0, .int .i64 1]) (by simp [results, Tryz.results28, go_sem]) rfl ⟨rfl, rfl⟩
theorem fsApplies_calls (A : Option Addr) (c : Nat) (l : List MN) (A' : Option Addr) (c' : Nat) (ts : List TK) (w : World) (hC : Kd.C k93 w A l.length l) (hc : l.length ≤ c) (hC' : Kd.C k36 w A' ts.length ts) (hc' : ts.length ≤ c') (hb : (l.map bulkN).sum + 1 ≤ 1048576) (ho : ∀ x ∈ l, (Lit.int .i64 x.f0).wf = true ∧ True ∧ (Lit.int .i64 x.f2).wf = true ∧ True) (hb' : (ts.map bulkT).sum + 1 ≤ 1048576) (ho' : ∀ x ∈ ts, (Lit.int .i64 x.f0).wf = true ∧ True ∧ True) :
  Calls Tryz.prog 5 #[.slice A l.length c, .slice A' ts.length c'] w fun e w' => e = .returned (.bool true) ∧ Below w.heap.size w w' := by
 have hsz : ∀ x ∈ l, x.f1.size < 4294967281 := fun x hx => by
  have h1 := sum_in8 bulkN hx
  have h2 : x.f1.size ≤ bulkN x := by unfold bulkN; omega
  omega
 have hlt : ts.length < 1048576 := by have := len_bulkA bulkT (fun x => by unfold bulkT; omega) ts; omega
 obtain ⟨b, hfew, hb60⟩ := few_ev l (by have := len_bulkA bulkN (fun x => by unfold bulkN; omega) l; omega)
 obtain ⟨kf, hkf⟩ := Ev.rounds hfew
 have HF := qh (fun W h => linhaylaw08_Few.calls kf A c l b W h hc hkf)
 obtain ⟨b2, hsh, hb40⟩ := short_ev ts 60 (by omega)
 obtain ⟨ks, hks⟩ := Ev.rounds hsh
 have HSH := qh (fun W h => linhaylaw09_Short.calls ks A' c' ts 60 b2 W h hc' hks)
 have HC := qh hC
 have HC' := qh hC'
 have HLE' := qh hc'
 have HLV := qh lives10_calls
 clear hC hC' hfew hkf hb ho hb' ho' hsh hks hlt
 cases b with
 | false =>
  clear hb60 hb40
  go_enter Tryz.func5, Tryz.ntmps5
  go_wp2_with (first | (go_at_call 11; refine (HF.out _ HC.out).mono ?_; rintro e w2 ⟨rfl, hd2⟩) | (go_at_call 19; refine (HLV.out _).mono ?_; rintro e w7 ⟨rfl, hb7⟩))
  go_ret
  exact ⟨rfl, hd2.below.trans (hb7.mono hd2.below.size)⟩
 | true =>
  have h60 := hb60 rfl
  clear hb60
  cases b2 with
  | false =>
   clear hb40
   go_enter Tryz.func5, Tryz.ntmps5
   go_wp2_with (first | (go_at_call 11; refine (HF.out _ HC.out).mono ?_; rintro e w2 ⟨rfl, hd2⟩; have HB2 := qh hd2.below; clear hd2) | (go_at_call 12; refine (HSH.out _ (Kd.C_below HC'.out HB2.out)).mono ?_; rintro e w3 ⟨rfl, hd3⟩; have HB3 := qh (HB2.out.trans (hd3.below.mono HB2.out.size)); clear hd3) | (go_at_call 19; refine (HLV.out _).mono ?_; rintro e w7 ⟨rfl, hb7⟩))
   go_ret
   exact ⟨rfl, HB3.out.trans (hb7.mono HB3.out.size)⟩
  | true =>
   have h40 := hb40 rfl
   clear hb40
   obtain ⟨hG, hM, hla, hln⟩ := made_good l
   have HM := qh (fun W h => made_calls A c l W h hc h60 hsz)
   have hap := fine_app ts (madeF l).L (madeF l).last hG hM
   have HAP := qh (fun p B W h hC => apply_calls p B (madeF l).L (madeF l).last A' c' ts W h hG hM hC HLE'.out (by omega) (by omega))
   have HRA := qh (fun v W h hC => rapply_calls (madeF l).L (madeF l).last v A' c' ts W h hG hM hC HLE'.out (by omega) (by omega))
   have HSM := qh (fun p B v W h1 h2 => same7_calls p B (appP (madeF l).L (madeF l).last ts).1.1 (appP (madeF l).L (madeF l).last ts).1.2.1 v W h1 h2 hap.1 (by have := hap.2.2; omega))
   have HNI := qh (fun v W => apply_nil v W)
   clear hG hM hla hln hsz hap
   generalize appP (madeF l).L (madeF l).last ts = o at *
   generalize (madeF l).L = L0 at *
   generalize (madeF l).last = la0 at *
   obtain ⟨⟨L7, n7, oE⟩, oN⟩ := o
   simp only [] at HAP HRA HSM
   go_enter Tryz.func5, Tryz.ntmps5
   go_upto_region 4 with (first | (go_at_call 11; refine (HF.out _ HC.out).mono ?_; rintro e w2 ⟨rfl, hd2⟩; have HB2 := qh hd2.below; clear hd2) | (go_at_call 12; refine (HSH.out _ (Kd.C_below HC'.out HB2.out)).mono ?_; rintro e w3 ⟨rfl, hd3⟩; have HB3 := qh (HB2.out.trans (hd3.below.mono HB2.out.size)); clear hd3) | (go_at_call 14; refine (HM.out _ (Kd.C_below HC.out HB3.out)).mono ?_; rintro e w4 ⟨p, B, v, rfl, hT4, hR4, hb4, hp, hB⟩; obtain ⟨A4, c4, rfl, hc4, hC4⟩ := hR4; have HT4 := qh hT4; have HR4 := qh (And.intro hc4 hC4); have HB4 := qh (HB3.out.trans (hb4.mono HB3.out.size)); have HPB := qh (And.intro (Nat.le_trans HB3.out.size hp) (Nat.le_trans HB3.out.size hB)); clear hT4 hc4 hC4 hb4 hp hB))
   have hba := (Below.refl _ w4).alloc (Nat.le_refl _) (.cells #[.slice A4 L0.length c4, .int .i64 la0] 30)
   have HB5 := qh (HB4.out.trans (hba.mono HB4.out.size))
   have HT5 := qh (HT4.out.below hba)
   have HR5 : Hid (RAt (w4.alloc (.cells #[.slice A4 L0.length c4, .int .i64 la0] 30)) (.agg #[.slice A4 L0.length c4, .int .i64 la0]) L0 la0) := qh ⟨A4, c4, rfl, HR4.out.1, Kd.C_below HR4.out.2 hba⟩
   have H5 := qh (heap_alloc_new w4 (.cells #[.slice A4 L0.length c4, .int .i64 la0] 30))
   generalize w4.alloc (.cells #[.slice A4 L0.length c4, .int .i64 la0] 30) = w5 at HB5 HT5 HR5 H5 ⊢
   generalize w4.heap.size = g at H5 ⊢
   clear hba HT4 HR4 HB4 HB3 HB2 HM HF HSH h40 h60
   go_upto_region 5 with (go_at_call 28; refine (HAP.out _ _ _ HT5.out (Kd.C_below HC'.out HB5.out)).mono ?_; rintro e w6 ⟨rfl, hT6, hF6⟩; have HT6 := qh hT6; have HB6 := qh (HB5.out.trans (hF6.below HB5.out.size HPB.out.1 HPB.out.2)); have HR6 := qh (RAt.frm HR5.out HT5.out hF6); have H6 := qh (cells_frm H5.out (by decide) HT5.out hF6); clear hT6 hF6)
   obtain ⟨⟨x0, x1⟩, -, -⟩ := box_cells H6.out
   go_upto_region 6 with (go_at_call 29; refine (HRA.out _ _ HR6.out (Kd.C_below HC'.out HB6.out)).mono ?_; rintro e w7 ⟨v7, rfl, hR7, hb7⟩; obtain ⟨A7, c7, rfl, h7, C7⟩ := hR7; have HB7 := qh (HB6.out.trans (hb7.mono HB6.out.size)); have HT7 := qh (HT6.out.below hb7); have HR7 := qh (And.intro h7 C7); clear hb7 h7 C7 x0 x1)
   have hba := below_alloc (Below.refl w7.heap.size w7) (.cells #[.slice A7 L7.length c7, .int .i64 n7] 30)
   have HB8 := qh (HB7.out.trans (hba.mono HB7.out.size))
   have HT8 := qh (HT7.out.below hba)
   have HR8 : Hid (RAt (w7.alloc (.cells #[.slice A7 L7.length c7, .int .i64 n7] 30)) (.agg #[.slice A7 L7.length c7, .int .i64 n7]) L7 n7) := qh ⟨A7, c7, rfl, HR7.out.1, Kd.C_below HR7.out.2 hba⟩
   have H8 := qh (heap_alloc_new w7 (.cells #[.slice A7 L7.length c7, .int .i64 n7] 30))
   generalize w7.alloc (.cells #[.slice A7 L7.length c7, .int .i64 n7] 30) = w8 at HB8 HT8 HR8 H8 ⊢
   generalize w7.heap.size = g8 at H8 ⊢
   obtain ⟨⟨x0, x1⟩, -, -⟩ := box_cells H8.out
   clear hba HT7 HR7 HB7 HAP HRA HT6 HR6 H6 HB6 HT5 HR5 H5 HB5
   have e1 : ((oN : Int) == (oN : Int)) = true := by simp
   have e2 : (oE == oE) = true := by simp
   go_upto_region 7 with (go_at_call 28; refine (HNI.out _ _).mono ?_; rintro e w' ⟨rfl, rfl⟩)
   go_wp2_with (first
    | (go_at_call 17; refine (HSM.out _ _ _ _ HT8.out HR8.out).mono ?_; rintro e w9 ⟨rfl, hb9⟩; have HB9 := qh (HB8.out.trans (hb9.mono HB8.out.size)); clear hb9 x0 x1)
    | (go_at_call 19; refine (HLV.out _).mono ?_; rintro e w10 ⟨rfl, hb10⟩))
   go_ret
   exact ⟨rfl, HB9.out.trans (hb10.mono HB9.out.size)⟩
end Go.Proofs.YtnpeeiikdcankaaGreat.Tw
