/- linhaylaw08.SeekReal, walked: it returns true. -/
import Derived.Test.YtjfigngmpagloaaQS0
import Derived.Test.YtjfigngmpagloaaQS1
import Derived.Test.YtjfigngmpagloaaQS2
import Derived.Test.YtjfigngmpagloaaQS3
import Derived.Maps.AppendAt

namespace Go.Proofs.Ytjfigngmpagloaa.Ext
end Go.Proofs.Ytjfigngmpagloaa.Ext
namespace Go.Proofs.Ytjfigngmpagloaa.X
open Go.RowKit Go.Proofs.YtjfigngmpagloaaW.PrintWords Go.Proofs.YtjfigngmpagloaaW.PrintLast Go.Proofs.YtjfigngmpagloaaW.PrintMore Go.Proofs.Ytjfigngmpagloaa.Ext
attribute [local go_sem] max2_int min2_int max_two min_two max_three min_three max_four min_four   -- for this text's walks alone
set_option linter.unusedVariables false
set_option linter.unusedSimpArgs false

/-! ### linhayref08_Real: function 29 -/
def linhayref08_Real.l0 : Nat → ByteArray → List (S97) → Int → Int → Int → ByteArray → Int → ByteArray → Option (ByteArray × Bool)
  | 0, _, _, _, _, _, _, _, _ => none
  | k + 1, x7, x261000, x261001, x267000, x267001, x267002, x267003, x267004 => if x267000 = 1 then (if x7.toList = ([] : List UInt8) then (some ((⟨#[47]⟩ : ByteArray), true)) else (some (x7, true))) else (if 1 + x267002.size ≤ 9223372036854775807 then (if ((⟨#[47]⟩ : ByteArray) ++ x267002).size + x7.size ≤ 9223372036854775807 then ((linhayref07_At.f k x261000 x261001 x267001).bind fun bt267 => (linhayref08_Real.l0 k (((⟨#[47]⟩ : ByteArray) ++ x267002) ++ x7) x261000 x261001 bt267.1 bt267.2.1 bt267.2.2.1 bt267.2.2.2.1 bt267.2.2.2.2)) else (none)) else (none))
def linhayref08_Real.f (k : Nat) (l0_0 : List (S97)) (a0_1 : Int) (a1 : Int) : Option (ByteArray × Bool) := (linhayref07_At.f k l0_0 a0_1 a1).bind fun bt261 => (if bt261.2.2.2.1 = 0 then (some ((⟨#[]⟩ : ByteArray), false)) else (linhayref08_Real.l0 k (⟨#[]⟩ : ByteArray) l0_0 a0_1 bt261.1 bt261.2.1 bt261.2.2.1 bt261.2.2.2.1 bt261.2.2.2.2))
theorem linhayref08_Real.mono_l : ∀ k, (∀ y0 y1 y2 y3 y4 y5 y6 y7, LeO (linhayref08_Real.l0 k y0 y1 y2 y3 y4 y5 y6 y7) (linhayref08_Real.l0 (k + 1) y0 y1 y2 y3 y4 y5 y6 y7))
 | 0 => fun _ _ _ _ _ _ _ _ r h => by simp [linhayref08_Real.l0] at h
 | k + 1 => by
  have ih0 := linhayref08_Real.mono_l k
  ·
   intro y0 y1 y2 y3 y4 y5 y6 y7
   unfold linhayref08_Real.l0
   repeat' first
   | (with_reducible exact ih0 _ _ _ _ _ _ _ _)
   | (with_reducible exact linhayref07_At.mono _ _ _ _)
   | (with_reducible exact LeO.refl _)
   | (with_reducible exact LeO.none _)
   | (with_reducible refine LeO.ite ?_ ?_)
   | (with_reducible refine LeO.bind ?_ (fun _ => ?_))
   | exact ih0 _ _ _ _ _ _ _ _
   | exact linhayref07_At.mono _ _ _ _
   | exact LeO.none _
   | refine LeO.ite ?_ ?_
   | refine LeO.bind ?_ (fun _ => ?_)
theorem linhayref08_Real.mono : ∀ a0 a1 a2 k, LeO (linhayref08_Real.f k a0 a1 a2) (linhayref08_Real.f (k + 1) a0 a1 a2) := by
 intro a0 a1 a2 k
 have ih0 := linhayref08_Real.mono_l k
 unfold linhayref08_Real.f
 repeat' first
   | (with_reducible exact ih0 _ _ _ _ _ _ _ _)
   | (with_reducible exact linhayref07_At.mono _ _ _ _)
   | (with_reducible exact LeO.refl _)
   | (with_reducible exact LeO.none _)
   | (with_reducible refine LeO.ite ?_ ?_)
   | (with_reducible refine LeO.bind ?_ (fun _ => ?_))
   | exact ih0 _ _ _ _ _ _ _ _
   | exact linhayref07_At.mono _ _ _ _
   | exact LeO.none _
   | refine LeO.ite ?_ ?_
   | refine LeO.bind ?_ (fun _ => ?_)
set_option maxHeartbeats 8000000 in
set_option maxRecDepth 100000 in
theorem linhayref08_Real.calls (k : Nat) (A0_0 : Option Addr) (c0_0 : Nat) (l0_0 : List (S97)) (a0_1 : Int) (a1 : Int) (r1 : ByteArray) (r2 : Bool) (w : World) (hr0_0 : Kd.C k97 w A0_0 l0_0.length l0_0) (hc0_0 : l0_0.length ≤ c0_0) (h : linhayref08_Real.f k l0_0 a0_1 a1 = some (r1, r2)) :
  Calls Try.prog 29 #[.agg #[.slice A0_0 l0_0.length c0_0, .int .i64 a0_1], .int .i64 a1] w fun e w' => e = .returned (.tuple #[.string r1, .bool r2]) ∧ Below w.heap.size w w' := by
 have hu75 := Try.underlying75
 have hu76 := Try.underlying76
 have hu89 := Try.underlying89
 have hu108 := Try.underlying108
 have hu28 := Try.underlying28
 have hu97 := Try.underlying97
 have HR0_0 := Aside0.mk hr0_0
 have HC0_0 := Aside0.mk hc0_0
 clear hr0_0 hc0_0
 have HB := Aside0.mk (Below.refl w.heap.size w)
 have H : ((linhayref07_At.f k l0_0 a0_1 a1).bind fun bt261 => (if bt261.2.2.2.1 = 0 then (some ((⟨#[]⟩ : ByteArray), false)) else (linhayref08_Real.l0 k (⟨#[]⟩ : ByteArray) l0_0 a0_1 bt261.1 bt261.2.1 bt261.2.2.1 bt261.2.2.2.1 bt261.2.2.2.2))) = some (r1, r2) := h
 clear h
 replace H := Option.bind_eq_some_iff.mp H
 obtain ⟨⟨t261, t262, t263, t264, t265⟩, A30, H⟩ := H
 replace H : (if t264 = 0 then (some ((⟨#[]⟩ : ByteArray), false)) else (linhayref08_Real.l0 k (⟨#[]⟩ : ByteArray) l0_0 a0_1 t261 t262 t263 t264 t265)) = some (r1, r2) := H
 have A3 := Aside0.mk A30
 clear A30
 by_cases c4 : t264 = 0
 ·
  rw [if_pos c4] at H
  have c4b0 : (t264 == 0) = true := beq_iff_eq.mpr c4
  have c4b1 : (t264 != 0) = false := bne_eq_false_iff_eq.mpr c4
  clear c4
  simp only [Option.some.injEq, Prod.mk.injEq] at H
  obtain ⟨rfl, rfl⟩ := H
  go_enter Try.func29, Try.ntmps29
  go_wp2_with (first | ((with_reducible refine gate_dst (N := 2) rfl ?_); refine box_event ?hg (N := 2) ?hd (cs := #[.slice A0_0 l0_0.length c0_0, .int .i64 a0_1]) (t := 28) ?hr ?_; (case hd => rfl); (case hg => rfl); (case hr => first | (go_simp; done) | (go_simp; rfl)); intro gb260 hg w5 hbox hb; have n0_ := Aside0.mk (below_step (by repeat (first | (with_reducible first | exact HB.out | apply below_alloc | apply pw_below_drewN | apply below_drew1) | exact HB.out)) hb); have n1_ := Aside0.mk (hbox); have n2_ := Aside0.mk ((by rw [hg]; exact (below_size (by repeat (first | (with_reducible first | exact HB.out | apply below_alloc | apply pw_below_drewN | apply below_drew1) | exact HB.out))) : w.heap.size ≤ gb260)); have n3_ := Aside0.mk ((by rw [hg]; exact (below_size (by repeat (first | (with_reducible first | exact HB.out | apply below_alloc | apply pw_below_drewN | apply below_drew1) | exact HB.out))) : w.heap.size ≤ gb260)); clear HB; have HB := n0_; have BK260 := n1_; have GW260 := n2_; have GE260 := n3_; clear n0_ n1_ n2_ n3_; clear hb hbox hg; have hcz6_0 : w5.cell? ⟨gb260, 0, none⟩ = some (.slice A0_0 l0_0.length c0_0) := (blk_cell BK260.out 0).trans rfl; have hcz6_1 : w5.cell? ⟨gb260, 1, none⟩ = some (.int .i64 a0_1) := (blk_cell BK260.out 1).trans rfl; have hfz6_0 := blk_frozen BK260.out 0; have hfz6_1 := blk_frozen BK260.out 1) | ((with_reducible refine gate_callee (f := 49) rfl ?_); refine goesL_ (some 10) rfl rfl Try.func49 (by kernel_rfl) rfl #[.agg #[.slice A0_0 l0_0.length c0_0, .int .i64 a0_1], .int .i64 a1] rfl (by (try simp only [List.map_toArray, List.map_cons, List.map_nil]); first | done | rfl | (simp only [List.length_drop, List.length_take]; rfl)) ?_; (with_reducible refine (linhayref07_At.calls k _ _ l0_0 a0_1 a1 t261 t262 t263 t264 t265 _ ?side1 ?side2 A3.out).mono ?_); (case side1 => repeat (first | exact (Kd.C_below HR0_0.out HB.out) | (with_reducible refine Kd.C_alloc ?_ _) | (with_reducible refine Kd.C_drewN ?_ _) | (with_reducible refine Kd.C_drew ?_))); (case side2 => exact HC0_0.out); rintro e w7 ⟨rfl, hb⟩; refine ⟨_, rfl, ?_⟩; have n0_ := Aside0.mk (blk_below (g := gb260) (o := .cells #[.slice A0_0 l0_0.length c0_0, .int .i64 a0_1] 28 (0, 0)) (by (with_reducible repeat (first | refine blk_drewN ?_ _ | refine blk_drew ?_ | refine blk_alloc ?_ _)); exact BK260.out) hb); have n1_ := Aside0.mk (below_step (by repeat (first | (with_reducible first | exact HB.out | apply below_alloc | apply pw_below_drewN | apply below_drew1 | refine below_set ?_ GE260.out) | exact HB.out)) hb); clear BK260; clear HB; have BK260 := n0_; have HB := n1_; clear n0_ n1_; (try clear hb); (try clear hb2); (try clear hk); (try clear hi)) | ((with_reducible refine gate_dst (N := 6) rfl ?_); refine box_event ?hg (N := 6) ?hd (cs := #[.int .i64 0, .int .i64 0, .string (⟨#[]⟩ : ByteArray), .int .i64 0, .string (⟨#[]⟩ : ByteArray)]) (t := 97) ?hr ?_; (case hd => rfl); (case hg => rfl); (case hr => first | (go_simp; done) | (go_simp; rfl)); intro gb266 hg w8 hbox hb; have n0_ := Aside0.mk (blk_below (g := gb260) (o := .cells #[.slice A0_0 l0_0.length c0_0, .int .i64 a0_1] 28 (0, 0)) (by (with_reducible repeat (first | refine blk_drewN ?_ _ | refine blk_drew ?_ | refine blk_alloc ?_ _)); exact BK260.out) hb); have n1_ := Aside0.mk (below_step (by repeat (first | (with_reducible first | exact HB.out | apply below_alloc | apply pw_below_drewN | apply below_drew1 | refine below_set ?_ GE260.out) | exact HB.out)) hb); have n2_ := Aside0.mk (hbox); have n3_ := Aside0.mk ((by rw [hg]; exact (below_size (by repeat (first | (with_reducible first | exact HB.out | apply below_alloc | apply pw_below_drewN | apply below_drew1 | refine below_set ?_ GE260.out) | exact HB.out))) : w.heap.size ≤ gb266)); have n4_ := Aside0.mk ((by rw [hg]; exact (below_size (by repeat (first | (with_reducible first | exact HB.out | apply below_alloc | apply pw_below_drewN | apply below_drew1 | refine below_set ?_ GE260.out) | exact HB.out))) : w.heap.size ≤ gb266)); have n5_ := Aside0.mk ((by rw [hg]; exact Nat.ne_of_lt (blk_lt (g := gb260) (o := .cells #[.slice A0_0 l0_0.length c0_0, .int .i64 a0_1] 28 (0, 0)) (by (with_reducible repeat (first | refine blk_drewN ?_ _ | refine blk_drew ?_ | refine blk_alloc ?_ _)); exact BK260.out)) : gb260 ≠ gb266)); have n6_ := Aside0.mk ((by rw [hg]; exact Nat.ne_of_gt (blk_lt (g := gb260) (o := .cells #[.slice A0_0 l0_0.length c0_0, .int .i64 a0_1] 28 (0, 0)) (by (with_reducible repeat (first | refine blk_drewN ?_ _ | refine blk_drew ?_ | refine blk_alloc ?_ _)); exact BK260.out)) : gb266 ≠ gb260)); clear BK260; clear HB; have BK260 := n0_; have HB := n1_; have BK266 := n2_; have GW266 := n3_; have GE266 := n4_; have NB260_266 := n5_; have NB266_260 := n6_; clear n0_ n1_ n2_ n3_ n4_ n5_ n6_; clear hb hbox hg; have hnb9 := NB266_260.out; have hnc9 := NB260_266.out; have hcz10_0 : w8.cell? ⟨gb266, 0, none⟩ = some (.int .i64 0) := (blk_cell BK266.out 0).trans rfl; have hcz10_1 : w8.cell? ⟨gb266, 1, none⟩ = some (.int .i64 0) := (blk_cell BK266.out 1).trans rfl; have hcz10_2 : w8.cell? ⟨gb266, 2, none⟩ = some (.string (⟨#[]⟩ : ByteArray)) := (blk_cell BK266.out 2).trans rfl; have hcz10_3 : w8.cell? ⟨gb266, 3, none⟩ = some (.int .i64 0) := (blk_cell BK266.out 3).trans rfl; have hcz10_4 : w8.cell? ⟨gb266, 4, none⟩ = some (.string (⟨#[]⟩ : ByteArray)) := (blk_cell BK266.out 4).trans rfl; have hfz10_0 := blk_frozen BK266.out 0; have hfz10_1 := blk_frozen BK266.out 1; have hfz10_2 := blk_frozen BK266.out 2; have hfz10_3 := blk_frozen BK266.out 3; have hfz10_4 := blk_frozen BK266.out 4))
  go_ret2
  exact ⟨by first | rfl | (simp [errW_none, errW_some] <;> rfl) | (simp [*, errW_none, errW_some] <;> rfl) | (simp [errW_none, errW_some, bne_nil]; done) | (simp [*, bne_nil]; done) | (simp [bne]; done), by repeat (first | (with_reducible first | exact HB.out | apply below_alloc | apply pw_below_drewN | apply below_drew1 | refine below_set ?_ GE260.out | refine below_set ?_ GE266.out) | exact HB.out)⟩
 ·
  rw [if_neg c4] at H
  have c4b0 : (t264 == 0) = false := beq_eq_false_iff_ne.mpr c4
  have c4b1 : (t264 != 0) = true := bne_iff_ne.mpr c4
  have H' := Aside0.mk H
  clear H
  go_enter Try.func29, Try.ntmps29
  go_wp2_with (first | ((with_reducible refine gate_dst (N := 2) rfl ?_); refine box_event ?hg (N := 2) ?hd (cs := #[.slice A0_0 l0_0.length c0_0, .int .i64 a0_1]) (t := 28) ?hr ?_; (case hd => rfl); (case hg => rfl); (case hr => first | (go_simp; done) | (go_simp; rfl)); intro gb260 hg w11 hbox hb; have n0_ := Aside0.mk (below_step (by repeat (first | (with_reducible first | exact HB.out | apply below_alloc | apply pw_below_drewN | apply below_drew1) | exact HB.out)) hb); have n1_ := Aside0.mk (hbox); have n2_ := Aside0.mk ((by rw [hg]; exact (below_size (by repeat (first | (with_reducible first | exact HB.out | apply below_alloc | apply pw_below_drewN | apply below_drew1) | exact HB.out))) : w.heap.size ≤ gb260)); have n3_ := Aside0.mk ((by rw [hg]; exact (below_size (by repeat (first | (with_reducible first | exact HB.out | apply below_alloc | apply pw_below_drewN | apply below_drew1) | exact HB.out))) : w.heap.size ≤ gb260)); clear HB; have HB := n0_; have BK260 := n1_; have GW260 := n2_; have GE260 := n3_; clear n0_ n1_ n2_ n3_; clear hb hbox hg; have hcz12_0 : w11.cell? ⟨gb260, 0, none⟩ = some (.slice A0_0 l0_0.length c0_0) := (blk_cell BK260.out 0).trans rfl; have hcz12_1 : w11.cell? ⟨gb260, 1, none⟩ = some (.int .i64 a0_1) := (blk_cell BK260.out 1).trans rfl; have hfz12_0 := blk_frozen BK260.out 0; have hfz12_1 := blk_frozen BK260.out 1) | ((with_reducible refine gate_callee (f := 49) rfl ?_); refine goesL_ (some 10) rfl rfl Try.func49 (by kernel_rfl) rfl #[.agg #[.slice A0_0 l0_0.length c0_0, .int .i64 a0_1], .int .i64 a1] rfl (by (try simp only [List.map_toArray, List.map_cons, List.map_nil]); first | done | rfl | (simp only [List.length_drop, List.length_take]; rfl)) ?_; (with_reducible refine (linhayref07_At.calls k _ _ l0_0 a0_1 a1 t261 t262 t263 t264 t265 _ ?side1 ?side2 A3.out).mono ?_); (case side1 => repeat (first | exact (Kd.C_below HR0_0.out HB.out) | (with_reducible refine Kd.C_alloc ?_ _) | (with_reducible refine Kd.C_drewN ?_ _) | (with_reducible refine Kd.C_drew ?_))); (case side2 => exact HC0_0.out); rintro e w13 ⟨rfl, hb⟩; refine ⟨_, rfl, ?_⟩; have n0_ := Aside0.mk (blk_below (g := gb260) (o := .cells #[.slice A0_0 l0_0.length c0_0, .int .i64 a0_1] 28 (0, 0)) (by (with_reducible repeat (first | refine blk_drewN ?_ _ | refine blk_drew ?_ | refine blk_alloc ?_ _)); exact BK260.out) hb); have n1_ := Aside0.mk (below_step (by repeat (first | (with_reducible first | exact HB.out | apply below_alloc | apply pw_below_drewN | apply below_drew1 | refine below_set ?_ GE260.out) | exact HB.out)) hb); clear BK260; clear HB; have BK260 := n0_; have HB := n1_; clear n0_ n1_; (try clear hb); (try clear hb2); (try clear hk); (try clear hi)) | ((with_reducible refine gate_dst (N := 6) rfl ?_); refine box_event ?hg (N := 6) ?hd (cs := #[.int .i64 0, .int .i64 0, .string (⟨#[]⟩ : ByteArray), .int .i64 0, .string (⟨#[]⟩ : ByteArray)]) (t := 97) ?hr ?_; (case hd => rfl); (case hg => rfl); (case hr => first | (go_simp; done) | (go_simp; rfl)); intro gb266 hg w14 hbox hb; have n0_ := Aside0.mk (blk_below (g := gb260) (o := .cells #[.slice A0_0 l0_0.length c0_0, .int .i64 a0_1] 28 (0, 0)) (by (with_reducible repeat (first | refine blk_drewN ?_ _ | refine blk_drew ?_ | refine blk_alloc ?_ _)); exact BK260.out) hb); have n1_ := Aside0.mk (below_step (by repeat (first | (with_reducible first | exact HB.out | apply below_alloc | apply pw_below_drewN | apply below_drew1 | refine below_set ?_ GE260.out) | exact HB.out)) hb); have n2_ := Aside0.mk (hbox); have n3_ := Aside0.mk ((by rw [hg]; exact (below_size (by repeat (first | (with_reducible first | exact HB.out | apply below_alloc | apply pw_below_drewN | apply below_drew1 | refine below_set ?_ GE260.out) | exact HB.out))) : w.heap.size ≤ gb266)); have n4_ := Aside0.mk ((by rw [hg]; exact (below_size (by repeat (first | (with_reducible first | exact HB.out | apply below_alloc | apply pw_below_drewN | apply below_drew1 | refine below_set ?_ GE260.out) | exact HB.out))) : w.heap.size ≤ gb266)); have n5_ := Aside0.mk ((by rw [hg]; exact Nat.ne_of_lt (blk_lt (g := gb260) (o := .cells #[.slice A0_0 l0_0.length c0_0, .int .i64 a0_1] 28 (0, 0)) (by (with_reducible repeat (first | refine blk_drewN ?_ _ | refine blk_drew ?_ | refine blk_alloc ?_ _)); exact BK260.out)) : gb260 ≠ gb266)); have n6_ := Aside0.mk ((by rw [hg]; exact Nat.ne_of_gt (blk_lt (g := gb260) (o := .cells #[.slice A0_0 l0_0.length c0_0, .int .i64 a0_1] 28 (0, 0)) (by (with_reducible repeat (first | refine blk_drewN ?_ _ | refine blk_drew ?_ | refine blk_alloc ?_ _)); exact BK260.out)) : gb266 ≠ gb260)); clear BK260; clear HB; have BK260 := n0_; have HB := n1_; have BK266 := n2_; have GW266 := n3_; have GE266 := n4_; have NB260_266 := n5_; have NB266_260 := n6_; clear n0_ n1_ n2_ n3_ n4_ n5_ n6_; clear hb hbox hg; have hnb15 := NB266_260.out; have hnc15 := NB260_266.out; have hcz16_0 : w14.cell? ⟨gb266, 0, none⟩ = some (.int .i64 0) := (blk_cell BK266.out 0).trans rfl; have hcz16_1 : w14.cell? ⟨gb266, 1, none⟩ = some (.int .i64 0) := (blk_cell BK266.out 1).trans rfl; have hcz16_2 : w14.cell? ⟨gb266, 2, none⟩ = some (.string (⟨#[]⟩ : ByteArray)) := (blk_cell BK266.out 2).trans rfl; have hcz16_3 : w14.cell? ⟨gb266, 3, none⟩ = some (.int .i64 0) := (blk_cell BK266.out 3).trans rfl; have hcz16_4 : w14.cell? ⟨gb266, 4, none⟩ = some (.string (⟨#[]⟩ : ByteArray)) := (blk_cell BK266.out 4).trans rfl; have hfz16_0 := blk_frozen BK266.out 0; have hfz16_1 := blk_frozen BK266.out 1; have hfz16_2 := blk_frozen BK266.out 2; have hfz16_3 := blk_frozen BK266.out 3; have hfz16_4 := blk_frozen BK266.out 4))
  go_loopg [7] k (fun kq v7 w' => ∃ (x7_1 : ByteArray) (x267000_1 : Int) (x267001_1 : Int) (x267002_1 : ByteArray) (x267003_1 : Int) (x267004_1 : ByteArray), v7 = .string x7_1 ∧ Aside0 (linhayref08_Real.l0 kq x7_1 l0_0 a0_1 x267000_1 x267001_1 x267002_1 x267003_1 x267004_1 = some (r1, r2)) ∧ Aside0 (kq ≤ k) ∧ Aside0 (w'.heap[gb260]? = some (.cells #[(.slice A0_0 l0_0.length c0_0), .int .i64 a0_1] 28 (0, 0))) ∧ Aside0 (w'.heap[gb266]? = some (.cells #[.int .i64 x267000_1, .int .i64 x267001_1, .string x267002_1, .int .i64 x267003_1, .string x267004_1] 97 (0, 0))) ∧ Aside0 (Below w.heap.size w w'))
  case atStart => exact ⟨((⟨#[]⟩ : ByteArray)), (t261), (t262), (t263), (t264), (t265), (by first | rfl | (simp; done) | (simp [*]; done) | (simp [bne_nil]; done)), H', ⟨Nat.le_refl _⟩, ⟨by (with_reducible repeat (first | refine blk_drewN ?_ _ | refine blk_drew ?_ | refine blk_alloc ?_ _)); refine blk_far ?_ NB260_266.out _; (with_reducible repeat (first | refine blk_drewN ?_ _ | refine blk_drew ?_ | refine blk_alloc ?_ _)); refine blk_far ?_ NB260_266.out _; (with_reducible repeat (first | refine blk_drewN ?_ _ | refine blk_drew ?_ | refine blk_alloc ?_ _)); refine blk_far ?_ NB260_266.out _; (with_reducible repeat (first | refine blk_drewN ?_ _ | refine blk_drew ?_ | refine blk_alloc ?_ _)); refine blk_far ?_ NB260_266.out _; (with_reducible repeat (first | refine blk_drewN ?_ _ | refine blk_drew ?_ | refine blk_alloc ?_ _)); refine blk_far ?_ NB260_266.out _; (with_reducible repeat (first | refine blk_drewN ?_ _ | refine blk_drew ?_ | refine blk_alloc ?_ _)); exact BK260.out⟩, ⟨by (with_reducible repeat (first | refine blk_drewN ?_ _ | refine blk_drew ?_ | refine blk_alloc ?_ _)); refine blk_put (cs := #[.int .i64 t261, .int .i64 t262, .string t263, .int .i64 t264, .string (⟨#[]⟩ : ByteArray)]) ?_ 4 _ rfl; (with_reducible repeat (first | refine blk_drewN ?_ _ | refine blk_drew ?_ | refine blk_alloc ?_ _)); refine blk_put (cs := #[.int .i64 t261, .int .i64 t262, .string t263, .int .i64 0, .string (⟨#[]⟩ : ByteArray)]) ?_ 3 _ rfl; (with_reducible repeat (first | refine blk_drewN ?_ _ | refine blk_drew ?_ | refine blk_alloc ?_ _)); refine blk_put (cs := #[.int .i64 t261, .int .i64 t262, .string (⟨#[]⟩ : ByteArray), .int .i64 0, .string (⟨#[]⟩ : ByteArray)]) ?_ 2 _ rfl; (with_reducible repeat (first | refine blk_drewN ?_ _ | refine blk_drew ?_ | refine blk_alloc ?_ _)); refine blk_put (cs := #[.int .i64 t261, .int .i64 0, .string (⟨#[]⟩ : ByteArray), .int .i64 0, .string (⟨#[]⟩ : ByteArray)]) ?_ 1 _ rfl; (with_reducible repeat (first | refine blk_drewN ?_ _ | refine blk_drew ?_ | refine blk_alloc ?_ _)); refine blk_put (cs := #[.int .i64 0, .int .i64 0, .string (⟨#[]⟩ : ByteArray), .int .i64 0, .string (⟨#[]⟩ : ByteArray)]) ?_ 0 _ rfl; (with_reducible repeat (first | refine blk_drewN ?_ _ | refine blk_drew ?_ | refine blk_alloc ?_ _)); exact BK266.out⟩, ⟨by repeat (first | (with_reducible first | exact HB.out | apply below_alloc | apply pw_below_drewN | apply below_drew1 | refine below_set ?_ GE260.out | refine below_set ?_ GE266.out) | exact HB.out)⟩⟩
  case round =>
   clear H'
   try clear c1
   try clear c2
   try clear p2
   try clear c4
   try clear c4b0
   try clear c4b1
   try clear c9
   try clear c15
   try clear hcz10_0
   try clear hcz10_1
   try clear hcz10_2
   try clear hcz10_3
   try clear hcz10_4
   try clear hcz12_0
   try clear hcz12_1
   try clear hcz16_0
   try clear hcz16_1
   try clear hcz16_2
   try clear hcz16_3
   try clear hcz16_4
   try clear hcz6_0
   try clear hcz6_1
   try clear hfz10_0
   try clear hfz10_1
   try clear hfz10_2
   try clear hfz10_3
   try clear hfz10_4
   try clear hfz12_0
   try clear hfz12_1
   try clear hfz16_0
   try clear hfz16_1
   try clear hfz16_2
   try clear hfz16_3
   try clear hfz16_4
   try clear hfz6_0
   try clear hfz6_1
   obtain ⟨x7_1, x267000_1, x267001_1, x267002_1, x267003_1, x267004_1, rfl, HA, HK1, BK260, BK266, HB⟩ := hrel
   cases gk with
   | zero => exact absurd HA.out (by simp [linhayref08_Real.l0])
   | succ k1 =>
    have H := HA.out
    clear HA
    simp only [linhayref08_Real.l0] at H
    by_cases c17 : x267000_1 = 1
    ·
     rw [if_pos c17] at H
     have c17b0 : (x267000_1 == 1) = true := beq_iff_eq.mpr c17
     have c17b1 : (x267000_1 != 1) = false := bne_eq_false_iff_eq.mpr c17
     clear c17
     by_cases c18 : x7_1.toList = ([] : List UInt8)
     ·
      rw [if_pos c18] at H
      have c18b0 : (x7_1.toList == ([] : List UInt8)) = true := beq_iff_eq.mpr c18
      have c18b1 : (x7_1.toList != ([] : List UInt8)) = false := bne_eq_false_iff_eq.mpr c18
      clear c18
      simp only [Option.some.injEq, Prod.mk.injEq] at H
      obtain ⟨rfl, rfl⟩ := H
      have hnb19 := NB266_260.out
      have hnc19 := NB260_266.out
      have hcz20_0 : wr.cell? ⟨gb266, 0, none⟩ = some (.int .i64 x267000_1) := (blk_cell BK266.out 0).trans rfl
      have hcz20_1 : wr.cell? ⟨gb266, 1, none⟩ = some (.int .i64 x267001_1) := (blk_cell BK266.out 1).trans rfl
      have hcz20_2 : wr.cell? ⟨gb266, 2, none⟩ = some (.string x267002_1) := (blk_cell BK266.out 2).trans rfl
      have hcz20_3 : wr.cell? ⟨gb266, 3, none⟩ = some (.int .i64 x267003_1) := (blk_cell BK266.out 3).trans rfl
      have hcz20_4 : wr.cell? ⟨gb266, 4, none⟩ = some (.string x267004_1) := (blk_cell BK266.out 4).trans rfl
      have hfz20_0 := blk_frozen BK266.out 0
      have hfz20_1 := blk_frozen BK266.out 1
      have hfz20_2 := blk_frozen BK266.out 2
      have hfz20_3 := blk_frozen BK266.out 3
      have hfz20_4 := blk_frozen BK266.out 4
      go_wp2
      go_ret2
      exact ⟨by first | rfl | (simp [errW_none, errW_some] <;> rfl) | (simp [*, errW_none, errW_some] <;> rfl) | (simp [errW_none, errW_some, bne_nil]; done) | (simp [*, bne_nil]; done) | (simp [bne]; done), by repeat (first | (with_reducible first | exact HB.out | apply below_alloc | apply pw_below_drewN | apply below_drew1 | refine below_set ?_ GE260.out | refine below_set ?_ GE266.out) | exact HB.out)⟩
     ·
      rw [if_neg c18] at H
      have c18b0 : (x7_1.toList == ([] : List UInt8)) = false := beq_eq_false_iff_ne.mpr c18
      have c18b1 : (x7_1.toList != ([] : List UInt8)) = true := bne_iff_ne.mpr c18
      simp only [Option.some.injEq, Prod.mk.injEq] at H
      obtain ⟨rfl, rfl⟩ := H
      have hnb21 := NB266_260.out
      have hnc21 := NB260_266.out
      have hcz22_0 : wr.cell? ⟨gb266, 0, none⟩ = some (.int .i64 x267000_1) := (blk_cell BK266.out 0).trans rfl
      have hcz22_1 : wr.cell? ⟨gb266, 1, none⟩ = some (.int .i64 x267001_1) := (blk_cell BK266.out 1).trans rfl
      have hcz22_2 : wr.cell? ⟨gb266, 2, none⟩ = some (.string x267002_1) := (blk_cell BK266.out 2).trans rfl
      have hcz22_3 : wr.cell? ⟨gb266, 3, none⟩ = some (.int .i64 x267003_1) := (blk_cell BK266.out 3).trans rfl
      have hcz22_4 : wr.cell? ⟨gb266, 4, none⟩ = some (.string x267004_1) := (blk_cell BK266.out 4).trans rfl
      have hfz22_0 := blk_frozen BK266.out 0
      have hfz22_1 := blk_frozen BK266.out 1
      have hfz22_2 := blk_frozen BK266.out 2
      have hfz22_3 := blk_frozen BK266.out 3
      have hfz22_4 := blk_frozen BK266.out 4
      go_wp2
      go_ret2
      exact ⟨by first | rfl | (simp [errW_none, errW_some] <;> rfl) | (simp [*, errW_none, errW_some] <;> rfl) | (simp [errW_none, errW_some, bne_nil]; done) | (simp [*, bne_nil]; done) | (simp [bne]; done), by repeat (first | (with_reducible first | exact HB.out | apply below_alloc | apply pw_below_drewN | apply below_drew1 | refine below_set ?_ GE260.out | refine below_set ?_ GE266.out) | exact HB.out)⟩
    ·
     rw [if_neg c17] at H
     have c17b0 : (x267000_1 == 1) = false := beq_eq_false_iff_ne.mpr c17
     have c17b1 : (x267000_1 != 1) = true := bne_iff_ne.mpr c17
     by_cases c23 : 1 + x267002_1.size ≤ 9223372036854775807
     ·
      rw [if_pos c23] at H
      have c23b0 := eq_true c23
      have c23b1 : decide (1 + x267002_1.size ≤ 9223372036854775807) = true := decide_eq_true c23
      try have c23b2 : (9223372036854775807 < 1 + x267002_1.size) = False := eq_false (Nat.not_lt.2 c23)
      try (have c23b3 : ∀ m_ : Nat, 9223372036854775807 ≤ m_ → 1 + x267002_1.size ≤ m_ := fun m_ h_ => Nat.le_trans c23 h_; simp [go_sem, *] at c23b3; have c23b4 := eq_false (Nat.not_lt.2 (c23b3 _ (Nat.le_refl _))); clear c23b3)
      by_cases c24 : ((⟨#[47]⟩ : ByteArray) ++ x267002_1).size + x7_1.size ≤ 9223372036854775807
      ·
       rw [if_pos c24] at H
       have c24b0 := eq_true c24
       have c24b1 : decide (((⟨#[47]⟩ : ByteArray) ++ x267002_1).size + x7_1.size ≤ 9223372036854775807) = true := decide_eq_true c24
       try have c24b2 : (9223372036854775807 < ((⟨#[47]⟩ : ByteArray) ++ x267002_1).size + x7_1.size) = False := eq_false (Nat.not_lt.2 c24)
       try (have c24b3 : ∀ m_ : Nat, 9223372036854775807 ≤ m_ → ((⟨#[47]⟩ : ByteArray) ++ x267002_1).size + x7_1.size ≤ m_ := fun m_ h_ => Nat.le_trans c24 h_; simp [go_sem, *] at c24b3; have c24b4 := eq_false (Nat.not_lt.2 (c24b3 _ (Nat.le_refl _))); clear c24b3)
       replace H := Option.bind_eq_some_iff.mp H
       obtain ⟨⟨t267, t268, t269, t270, t271⟩, A250, H⟩ := H
       replace H : (linhayref08_Real.l0 k1 (((⟨#[47]⟩ : ByteArray) ++ x267002_1) ++ x7_1) l0_0 a0_1 t267 t268 t269 t270 t271) = some (r1, r2) := H
       have A25 := Aside0.mk A250
       clear A250
       have H' := Aside0.mk H
       clear H
       have hnb26 := NB266_260.out
       have hnc26 := NB260_266.out
       have hcz27_0 : wr.cell? ⟨gb266, 0, none⟩ = some (.int .i64 x267000_1) := (blk_cell BK266.out 0).trans rfl
       have hcz27_1 : wr.cell? ⟨gb266, 1, none⟩ = some (.int .i64 x267001_1) := (blk_cell BK266.out 1).trans rfl
       have hcz27_2 : wr.cell? ⟨gb266, 2, none⟩ = some (.string x267002_1) := (blk_cell BK266.out 2).trans rfl
       have hcz27_3 : wr.cell? ⟨gb266, 3, none⟩ = some (.int .i64 x267003_1) := (blk_cell BK266.out 3).trans rfl
       have hcz27_4 : wr.cell? ⟨gb266, 4, none⟩ = some (.string x267004_1) := (blk_cell BK266.out 4).trans rfl
       have hfz27_0 := blk_frozen BK266.out 0
       have hfz27_1 := blk_frozen BK266.out 1
       have hfz27_2 := blk_frozen BK266.out 2
       have hfz27_3 := blk_frozen BK266.out 3
       have hfz27_4 := blk_frozen BK266.out 4
       have hcz28_0 : wr.cell? ⟨gb260, 0, none⟩ = some (.slice A0_0 l0_0.length c0_0) := (blk_cell BK260.out 0).trans rfl
       have hcz28_1 : wr.cell? ⟨gb260, 1, none⟩ = some (.int .i64 a0_1) := (blk_cell BK260.out 1).trans rfl
       have hfz28_0 := blk_frozen BK260.out 0
       have hfz28_1 := blk_frozen BK260.out 1
       go_wp2_with (first | ((with_reducible refine gate_callee (f := 49) rfl ?_); refine goesL_ (some 25) rfl rfl Try.func49 (by kernel_rfl) rfl #[.agg #[.slice A0_0 l0_0.length c0_0, .int .i64 a0_1], .int .i64 x267001_1] rfl (by (try simp only [List.map_toArray, List.map_cons, List.map_nil]); first | done | rfl | (simp only [List.length_drop, List.length_take]; rfl)) ?_; (with_reducible refine (linhayref07_At.calls k1 _ _ l0_0 a0_1 x267001_1 t267 t268 t269 t270 t271 _ ?side1 ?side2 A25.out).mono ?_); (case side1 => repeat (first | exact (Kd.C_below HR0_0.out HB.out) | (with_reducible refine Kd.C_alloc ?_ _) | (with_reducible refine Kd.C_drewN ?_ _) | (with_reducible refine Kd.C_drew ?_))); (case side2 => exact HC0_0.out); rintro e w29 ⟨rfl, hb⟩; refine ⟨_, rfl, ?_⟩; have n0_ := Aside0.mk (blk_below (g := gb260) (o := .cells #[.slice A0_0 l0_0.length c0_0, .int .i64 a0_1] 28 (0, 0)) (by (with_reducible repeat (first | refine blk_drewN ?_ _ | refine blk_drew ?_ | refine blk_alloc ?_ _)); exact BK260.out) hb); have n1_ := Aside0.mk (blk_below (g := gb266) (o := .cells #[.int .i64 x267000_1, .int .i64 x267001_1, .string x267002_1, .int .i64 x267003_1, .string x267004_1] 97 (0, 0)) (by (with_reducible repeat (first | refine blk_drewN ?_ _ | refine blk_drew ?_ | refine blk_alloc ?_ _)); exact BK266.out) hb); have n2_ := Aside0.mk (below_step (by repeat (first | (with_reducible first | exact HB.out | apply below_alloc | apply pw_below_drewN | apply below_drew1 | refine below_set ?_ GE260.out | refine below_set ?_ GE266.out) | exact HB.out)) hb); clear BK260; clear BK266; clear HB; have BK260 := n0_; have BK266 := n1_; have HB := n2_; clear n0_ n1_ n2_; (try clear hb); (try clear hb2); (try clear hk); (try clear hi); have hcz30_0 : w29.cell? ⟨gb266, 0, none⟩ = some (.int .i64 x267000_1) := (blk_cell BK266.out 0).trans rfl; have hcz30_1 : w29.cell? ⟨gb266, 1, none⟩ = some (.int .i64 x267001_1) := (blk_cell BK266.out 1).trans rfl; have hcz30_2 : w29.cell? ⟨gb266, 2, none⟩ = some (.string x267002_1) := (blk_cell BK266.out 2).trans rfl; have hcz30_3 : w29.cell? ⟨gb266, 3, none⟩ = some (.int .i64 x267003_1) := (blk_cell BK266.out 3).trans rfl; have hcz30_4 : w29.cell? ⟨gb266, 4, none⟩ = some (.string x267004_1) := (blk_cell BK266.out 4).trans rfl; have hfz30_0 := blk_frozen BK266.out 0; have hfz30_1 := blk_frozen BK266.out 1; have hfz30_2 := blk_frozen BK266.out 2; have hfz30_3 := blk_frozen BK266.out 3; have hfz30_4 := blk_frozen BK266.out 4))
       go_roundg k1
       case measure => have := HK1.out; omega
       case rel => exact ⟨(((⟨#[47]⟩ : ByteArray) ++ x267002_1) ++ x7_1), (t267), (t268), (t269), (t270), (t271), (by first | rfl | (simp; done) | (simp [*]; done) | (simp [bne_nil]; done)), H', ⟨by have := HK1.out; omega⟩, ⟨by (with_reducible repeat (first | refine blk_drewN ?_ _ | refine blk_drew ?_ | refine blk_alloc ?_ _)); refine blk_far ?_ NB260_266.out _; (with_reducible repeat (first | refine blk_drewN ?_ _ | refine blk_drew ?_ | refine blk_alloc ?_ _)); refine blk_far ?_ NB260_266.out _; (with_reducible repeat (first | refine blk_drewN ?_ _ | refine blk_drew ?_ | refine blk_alloc ?_ _)); refine blk_far ?_ NB260_266.out _; (with_reducible repeat (first | refine blk_drewN ?_ _ | refine blk_drew ?_ | refine blk_alloc ?_ _)); refine blk_far ?_ NB260_266.out _; (with_reducible repeat (first | refine blk_drewN ?_ _ | refine blk_drew ?_ | refine blk_alloc ?_ _)); refine blk_far ?_ NB260_266.out _; (with_reducible repeat (first | refine blk_drewN ?_ _ | refine blk_drew ?_ | refine blk_alloc ?_ _)); exact BK260.out⟩, ⟨by (with_reducible repeat (first | refine blk_drewN ?_ _ | refine blk_drew ?_ | refine blk_alloc ?_ _)); refine blk_put (cs := #[.int .i64 t267, .int .i64 t268, .string t269, .int .i64 t270, .string x267004_1]) ?_ 4 _ rfl; (with_reducible repeat (first | refine blk_drewN ?_ _ | refine blk_drew ?_ | refine blk_alloc ?_ _)); refine blk_put (cs := #[.int .i64 t267, .int .i64 t268, .string t269, .int .i64 x267003_1, .string x267004_1]) ?_ 3 _ rfl; (with_reducible repeat (first | refine blk_drewN ?_ _ | refine blk_drew ?_ | refine blk_alloc ?_ _)); refine blk_put (cs := #[.int .i64 t267, .int .i64 t268, .string x267002_1, .int .i64 x267003_1, .string x267004_1]) ?_ 2 _ rfl; (with_reducible repeat (first | refine blk_drewN ?_ _ | refine blk_drew ?_ | refine blk_alloc ?_ _)); refine blk_put (cs := #[.int .i64 t267, .int .i64 x267001_1, .string x267002_1, .int .i64 x267003_1, .string x267004_1]) ?_ 1 _ rfl; (with_reducible repeat (first | refine blk_drewN ?_ _ | refine blk_drew ?_ | refine blk_alloc ?_ _)); refine blk_put (cs := #[.int .i64 x267000_1, .int .i64 x267001_1, .string x267002_1, .int .i64 x267003_1, .string x267004_1]) ?_ 0 _ rfl; (with_reducible repeat (first | refine blk_drewN ?_ _ | refine blk_drew ?_ | refine blk_alloc ?_ _)); exact BK266.out⟩, ⟨by repeat (first | (with_reducible first | exact HB.out | apply below_alloc | apply pw_below_drewN | apply below_drew1 | refine below_set ?_ GE260.out | refine below_set ?_ GE266.out) | exact HB.out)⟩⟩
      ·
       rw [if_neg c24] at H
       exact absurd H (by simp)
     ·
      rw [if_neg c23] at H
      exact absurd H (by simp)

/-! ### linhayref08_Straight: function 31 -/
def linhayref08_Straight.l0 : Nat → List ByteArray → Int → Int → List (S97) → Int → Option (Bool)
  | 0, _, _, _, _, _ => none
  | k + 1, x5, x6, x7, x273000, x273001 => if x7 < (x5.length : Int) then (if 0 ≤ x7 then ((linhayref07_In.f k x273000 x273001 x6 (rdOf ByteArray.empty x5 x7)).bind fun t278 => ((linhayref07_At.f k x273000 x273001 t278).bind fun bt279 => (if bt279.2.2.2.1 = 1 then (linhayref08_Straight.l0 k x5 t278 (wrap64 (x7 + 1)) x273000 x273001) else (some false)))) else (none)) else (some true)
def linhayref08_Straight.f (k : Nat) (l0_0 : List (S97)) (a0_1 : Int) (a1 : ByteArray) : Option (Bool) := (linhayref04_Is.f k a1).bind fun t273 => (if t273 = true then ((linhayref04_Parts.f k a1).bind fun t274 => (linhayref08_Straight.l0 k t274 1 0 l0_0 a0_1)) else (some false))
theorem linhayref08_Straight.mono_l : ∀ k, (∀ y0 y1 y2 y3 y4, LeO (linhayref08_Straight.l0 k y0 y1 y2 y3 y4) (linhayref08_Straight.l0 (k + 1) y0 y1 y2 y3 y4))
 | 0 => fun _ _ _ _ _ r h => by simp [linhayref08_Straight.l0] at h
 | k + 1 => by
  have ih0 := linhayref08_Straight.mono_l k
  ·
   intro y0 y1 y2 y3 y4
   unfold linhayref08_Straight.l0
   repeat' first
   | (with_reducible exact ih0 _ _ _ _ _)
   | (with_reducible exact linhayref04_Is.mono _ _)
   | (with_reducible exact linhayref04_Parts.mono _ _)
   | (with_reducible exact linhayref07_At.mono _ _ _ _)
   | (with_reducible exact linhayref07_In.mono _ _ _ _ _)
   | (with_reducible exact LeO.refl _)
   | (with_reducible exact LeO.none _)
   | (with_reducible refine LeO.ite ?_ ?_)
   | (with_reducible refine LeO.bind ?_ (fun _ => ?_))
   | exact ih0 _ _ _ _ _
   | exact linhayref04_Is.mono _ _
   | exact linhayref04_Parts.mono _ _
   | exact linhayref07_At.mono _ _ _ _
   | exact linhayref07_In.mono _ _ _ _ _
   | exact LeO.none _
   | refine LeO.ite ?_ ?_
   | refine LeO.bind ?_ (fun _ => ?_)
theorem linhayref08_Straight.mono : ∀ a0 a1 a2 k, LeO (linhayref08_Straight.f k a0 a1 a2) (linhayref08_Straight.f (k + 1) a0 a1 a2) := by
 intro a0 a1 a2 k
 have ih0 := linhayref08_Straight.mono_l k
 unfold linhayref08_Straight.f
 repeat' first
   | (with_reducible exact ih0 _ _ _ _ _)
   | (with_reducible exact linhayref04_Is.mono _ _)
   | (with_reducible exact linhayref04_Parts.mono _ _)
   | (with_reducible exact linhayref07_At.mono _ _ _ _)
   | (with_reducible exact linhayref07_In.mono _ _ _ _ _)
   | (with_reducible exact LeO.refl _)
   | (with_reducible exact LeO.none _)
   | (with_reducible refine LeO.ite ?_ ?_)
   | (with_reducible refine LeO.bind ?_ (fun _ => ?_))
   | exact ih0 _ _ _ _ _
   | exact linhayref04_Is.mono _ _
   | exact linhayref04_Parts.mono _ _
   | exact linhayref07_At.mono _ _ _ _
   | exact linhayref07_In.mono _ _ _ _ _
   | exact LeO.none _
   | refine LeO.ite ?_ ?_
   | refine LeO.bind ?_ (fun _ => ?_)
def linhayref08_Straight.T8 : Bool × List (List Nat × List Nat) := (true, [([], []), ([], []), ([], []), ([], []), ([2, 3], [2, 3]), ([4], [4]), ([0, 1, 5], [0, 1, 5]), ([6, 6, 0, 1, 2, 3, 4, 5, 6], [1, 6])])
def linhayref08_Straight.B8 : List Nat := [0, 0, 0, 0, 12, 28, 63, 127]
theorem linhayref08_Straight.tab8 : rtab .any (opsOf Try.f31 8) = linhayref08_Straight.T8 := by kernel_rfl
theorem linhayref08_Straight.bits8 : waitsOk linhayref08_Straight.T8.2 linhayref08_Straight.B8 = true := by kernel_rfl
set_option maxHeartbeats 8000000 in
set_option maxRecDepth 100000 in
theorem linhayref08_Straight.calls (k : Nat) (A0_0 : Option Addr) (c0_0 : Nat) (l0_0 : List (S97)) (a0_1 : Int) (a1 : ByteArray) (r : Bool) (w : World) (hr0_0 : Kd.C k97 w A0_0 l0_0.length l0_0) (hc0_0 : l0_0.length ≤ c0_0) (h : linhayref08_Straight.f k l0_0 a0_1 a1 = some r) :
  Calls Try.prog 31 #[.agg #[.slice A0_0 l0_0.length c0_0, .int .i64 a0_1], .string a1] w fun e w' => e = .returned (.bool r) ∧ Below w.heap.size w w' := by
 have hu75 := Try.underlying75
 have hu76 := Try.underlying76
 have hu89 := Try.underlying89
 have hu97 := Try.underlying97
 have hu108 := Try.underlying108
 have hu28 := Try.underlying28
 have HR0_0 := Aside0.mk hr0_0
 have HC0_0 := Aside0.mk hc0_0
 clear hr0_0 hc0_0
 have HB := Aside0.mk (Below.refl w.heap.size w)
 have H : ((linhayref04_Is.f k a1).bind fun t273 => (if t273 = true then ((linhayref04_Parts.f k a1).bind fun t274 => (linhayref08_Straight.l0 k t274 1 0 l0_0 a0_1)) else (some false))) = some r := h
 clear h
 replace H := Option.bind_eq_some_iff.mp H
 obtain ⟨t273, A30, H⟩ := H
 replace H : (if t273 = true then ((linhayref04_Parts.f k a1).bind fun t274 => (linhayref08_Straight.l0 k t274 1 0 l0_0 a0_1)) else (some false)) = some r := H
 have A3 := Aside0.mk A30
 clear A30
 by_cases c4 : t273 = true
 ·
  subst c4
  have H1 : ((linhayref04_Parts.f k a1).bind fun t274 => (linhayref08_Straight.l0 k t274 1 0 l0_0 a0_1)) = some r := by rw [if_pos rfl] at H; exact H
  clear H
  have H := H1
  clear H1
  replace H := Option.bind_eq_some_iff.mp H
  obtain ⟨t274, A50, H⟩ := H
  replace H : (linhayref08_Straight.l0 k t274 1 0 l0_0 a0_1) = some r := H
  have A5 := Aside0.mk A50
  clear A50
  have H' := Aside0.mk H
  clear H
  go_enter Try.func31, Try.ntmps31
  go_wp2_with (first | ((with_reducible refine gate_dst (N := 2) rfl ?_); refine box_event ?hg (N := 2) ?hd (cs := #[.slice A0_0 l0_0.length c0_0, .int .i64 a0_1]) (t := 28) ?hr ?_; (case hd => rfl); (case hg => rfl); (case hr => first | (go_simp; done) | (go_simp; rfl)); intro gb272 hg w6 hbox hb; have n0_ := Aside0.mk (below_step (by repeat (first | (with_reducible first | exact HB.out | apply below_alloc | apply pw_below_drewN | apply below_drew1) | exact HB.out)) hb); have n1_ := Aside0.mk (hbox); have n2_ := Aside0.mk ((by rw [hg]; exact (below_size (by repeat (first | (with_reducible first | exact HB.out | apply below_alloc | apply pw_below_drewN | apply below_drew1) | exact HB.out))) : w.heap.size ≤ gb272)); have n3_ := Aside0.mk ((by rw [hg]; exact (below_size (by repeat (first | (with_reducible first | exact HB.out | apply below_alloc | apply pw_below_drewN | apply below_drew1) | exact HB.out))) : w.heap.size ≤ gb272)); clear HB; have HB := n0_; have BK272 := n1_; have GW272 := n2_; have GE272 := n3_; clear n0_ n1_ n2_ n3_; clear hb hbox hg) | ((with_reducible refine gate_callee (f := 69) rfl ?_); refine goesL_ (some 9) rfl rfl Try.func69 (by kernel_rfl) rfl #[.string a1] rfl (by (try simp only [List.map_toArray, List.map_cons, List.map_nil]); first | done | rfl | (simp only [List.length_drop, List.length_take]; rfl)) ?_; (with_reducible refine (linhayref04_Is.calls k a1 true _ A3.out).mono ?_); rintro e w7 ⟨rfl, hb⟩; refine ⟨_, rfl, ?_⟩; have n0_ := Aside0.mk (blk_below (g := gb272) (o := .cells #[.slice A0_0 l0_0.length c0_0, .int .i64 a0_1] 28 (0, 0)) (by (with_reducible repeat (first | refine blk_drewN ?_ _ | refine blk_drew ?_ | refine blk_alloc ?_ _)); exact BK272.out) hb); have n1_ := Aside0.mk (below_step (by repeat (first | (with_reducible first | exact HB.out | apply below_alloc | apply pw_below_drewN | apply below_drew1 | refine below_set ?_ GE272.out) | exact HB.out)) hb); clear BK272; clear HB; have BK272 := n0_; have HB := n1_; clear n0_ n1_; (try clear hb); (try clear hb2); (try clear hk); (try clear hi)) | ((with_reducible refine gate_callee (f := 61) rfl ?_); refine goesL_ (some 12) rfl rfl Try.func61 (by kernel_rfl) rfl #[.string a1] rfl (by (try simp only [List.map_toArray, List.map_cons, List.map_nil]); first | done | rfl | (simp only [List.length_drop, List.length_take]; rfl)) ?_; (with_reducible refine (linhayref04_Parts.calls k a1 t274 _ A5.out).mono ?_); rintro e w8 ⟨v275, rfl, ho0, hb⟩; refine ⟨_, rfl, ?_⟩; have n0_ := Aside0.mk (Kd.R_lower ho0 (below_size (by repeat (first | (with_reducible first | exact HB.out | apply below_alloc | apply pw_below_drewN | apply below_drew1 | refine below_set ?_ GE272.out) | exact HB.out)))); have n1_ := Aside0.mk (blk_below (g := gb272) (o := .cells #[.slice A0_0 l0_0.length c0_0, .int .i64 a0_1] 28 (0, 0)) (by (with_reducible repeat (first | refine blk_drewN ?_ _ | refine blk_drew ?_ | refine blk_alloc ?_ _)); exact BK272.out) hb); have n2_ := Aside0.mk (below_step (by repeat (first | (with_reducible first | exact HB.out | apply below_alloc | apply pw_below_drewN | apply below_drew1 | refine below_set ?_ GE272.out) | exact HB.out)) hb); clear BK272; clear HB; have HO276 := n0_; have BK272 := n1_; have HB := n2_; clear n0_ n1_ n2_; (try clear hb); (try clear hb2); (try clear hk); (try clear hi); (try clear ho0)))
  go_loopg [6, 7] k (fun kq v6 v7 w' => ∃ (x6_1 : Int) (x7_1 : Int), v6 = .int .i64 x6_1 ∧ v7 = .int .i64 x7_1 ∧ Aside0 (linhayref08_Straight.l0 kq t274 x6_1 x7_1 l0_0 a0_1 = some r) ∧ Aside0 (kq ≤ k) ∧ Aside0 (Kd.R Kd.string 9 w' w.heap.size (fun _ => True) v275 t274) ∧ Aside0 (w'.heap[gb272]? = some (.cells #[(.slice A0_0 l0_0.length c0_0), .int .i64 a0_1] 28 (0, 0))) ∧ Aside0 (Below w.heap.size w w'))
  case atStart => exact ⟨(1), (0), (by first | rfl | (simp; done) | (simp [*]; done) | (simp [bne_nil]; done)), (by first | rfl | (simp; done) | (simp [*]; done) | (simp [bne_nil]; done)), H', ⟨Nat.le_refl _⟩, ⟨by (with_reducible repeat (first | apply Kd.R_alloc | apply Kd.R_drewN | apply Kd.R_drew)); first | exact HO276.out | exact own_cut HO276.out⟩, ⟨by (with_reducible repeat (first | refine blk_drewN ?_ _ | refine blk_drew ?_ | refine blk_alloc ?_ _)); exact BK272.out⟩, ⟨by repeat (first | (with_reducible first | exact HB.out | apply below_alloc | apply pw_below_drewN | apply below_drew1 | refine below_set ?_ GE272.out) | exact HB.out)⟩⟩
  case round =>
   clear H'
   try clear p2
   try clear c3
   try clear c4
   try clear c6
   obtain ⟨x6_1, x7_1, rfl, rfl, HA, HK1, HO_5, BK272, HB⟩ := hrel
   cases gk with
   | zero => exact absurd HA.out (by simp [linhayref08_Straight.l0])
   | succ k1 =>
    have H := HA.out
    clear HA
    simp only [linhayref08_Straight.l0] at H
    by_cases c9 : x7_1 < (t274.length : Int)
    ·
     rw [if_pos c9] at H
     have c9b0 : decide (x7_1 < (t274.length : Int)) = true := decide_eq_true c9
     clear c9
     by_cases c10 : 0 ≤ x7_1
     ·
      rw [if_pos c10] at H
      have c10b0 : decide (0 ≤ x7_1) = true := decide_eq_true c10
      clear c10
      replace H := Option.bind_eq_some_iff.mp H
      obtain ⟨t278, A110, H⟩ := H
      replace H : ((linhayref07_At.f k1 l0_0 a0_1 t278).bind fun bt279 => (if bt279.2.2.2.1 = 1 then (linhayref08_Straight.l0 k1 t274 t278 (wrap64 (x7_1 + 1)) l0_0 a0_1) else (some false))) = some r := H
      have A11 := Aside0.mk A110
      clear A110
      replace H := Option.bind_eq_some_iff.mp H
      obtain ⟨⟨t279, t280, t281, t282, t283⟩, A120, H⟩ := H
      replace H : (if t282 = 1 then (linhayref08_Straight.l0 k1 t274 t278 (wrap64 (x7_1 + 1)) l0_0 a0_1) else (some false)) = some r := H
      have A12 := Aside0.mk A120
      clear A120
      by_cases c13 : t282 = 1
      ·
       rw [if_pos c13] at H
       have c13b0 : (t282 == 1) = true := beq_iff_eq.mpr c13
       have c13b1 : (t282 != 1) = false := bne_eq_false_iff_eq.mpr c13
       clear c13
       have H' := Aside0.mk H
       clear H
       obtain ⟨Ao14, co14, eo14⟩ := Kd.R_slice HO_5.out
       subst eo14
       try go_wp2
       have n0_ := Aside0.mk (Kd.R_drew HO_5.out)
       have n1_ := Aside0.mk (blk_drew BK272.out)
       have n2_ := Aside0.mk (below_drew1 HB.out)
       clear HO_5
       clear BK272
       clear HB
       have HO_5 := n0_
       have BK272 := n1_
       have HB := n2_
       clear n0_ n1_ n2_
       have p277 : 0 ≤ (x7_1 : Int) := of_decide_eq_true (by first | (with_reducible assumption) | assumption)
       have q277 : x7_1 < (t274.length : Int) := of_decide_eq_true (by first | (with_reducible assumption) | assumption)
       obtain ⟨ad277, e277, hx277_0⟩ := Kd.at_string (Kd.R_reads' HO_5.out).2.2 x7_1 p277 q277
       cases e277
       replace p277 := eq_true p277
       replace q277 := eq_true q277
       refine start_ (n := 8) (S := fun w' => w'.cell? ⟨gb272, 0, none⟩ = some (.slice A0_0 l0_0.length c0_0) ∧ w'.cell? ⟨gb272, 1, none⟩ = some (.int .i64 a0_1) ∧ w'.cell? (ad277.add (x7_1).toNat) = some (.string (rdOf ByteArray.empty t274 x7_1))) (ds := []) #[false, false, false, false, false, false, false, false] (by kernel_rfl) rfl rfl ⟨(blk_cell BK272.out 0).trans rfl, (blk_cell BK272.out 1).trans rfl, hx277_0⟩ (fun hHeld => ?_); refine with_tabW linhayref08_Straight.tab8 linhayref08_Straight.bits8 (fun HT_ HW_ => ?_)
       generalize wr.drew = w15 at HO_5 BK272 HB hx277_0 hHeld ⊢
       refine pure_ (i := 1) (N := some 20) (v := ?_) (a' := ?_) #[false, true, false, false, false, false, false, false] rfl rfl (any_of HT_.out (by kernel_rfl)) (fun _ _ _ h => h) (Or.inl ⟨by rfl, ?_⟩) ?_ ?_
       rotate_left
       ·
        intro w'
        go_simp
        with_reducible rfl
       rotate_left
       ·
        simp only [Act.put, List.setIfInBounds_toArray, List.set_cons_zero, List.set_cons_succ, i64_w, i32_w]
        rfl
       refine pure_ (i := 2) (N := some 21) (v := ?_) (a' := ?_) #[false, true, true, false, false, false, false, false] rfl rfl (any_of HT_.out (by kernel_rfl)) (fun _ _ _ h => h) (Or.inl ⟨by rfl, ?_⟩) ?_ ?_
       rotate_left
       ·
        intro w'
        go_simp
        with_reducible rfl
       rotate_left
       ·
        simp only [Act.put, List.setIfInBounds_toArray, List.set_cons_zero, List.set_cons_succ, i64_w, i32_w]
        rfl
       refine pure_ (i := 3) (N := some 22) (v := ?_) (a' := ?_) #[false, true, true, true, false, false, false, false] rfl rfl (any_of HT_.out (by kernel_rfl)) (fun _ _ _ h => h) (Or.inl ⟨by rfl, ?_⟩) ?_ ?_
       rotate_left
       ·
        intro w'
        go_simp
        with_reducible rfl
       rotate_left
       ·
        simp only [Act.put, List.setIfInBounds_toArray, List.set_cons_zero, List.set_cons_succ, i64_w, i32_w]
        rfl
       refine pure_ (i := 4) (N := some 23) (v := ?_) (a' := ?_) #[false, true, true, true, true, false, false, false] rfl rfl (any_of HT_.out (by kernel_rfl)) (fun _ _ _ h => h) (Or.inl ⟨by rfl, ?_⟩) ?_ ?_
       rotate_left
       ·
        intro w'
        go_simp
        with_reducible rfl
       rotate_left
       ·
        simp only [Act.put, List.setIfInBounds_toArray, List.set_cons_zero, List.set_cons_succ, i64_w, i32_w]
        rfl
       refine take_ (i := 0) (N := some 19) (v := ?_) (a' := ?_) #[true, true, true, true, true, false, false, false] rfl rfl (take_ofW HT_.out HW_.out (by kernel_rfl)) (fun _ _ _ h => h) (Or.inl ⟨by rfl, ?_⟩) hHeld ?_ ?_
       rotate_left
       ·
        rintro w' ⟨s0, s1, s2⟩
        go_simp
        with_reducible rfl
       rotate_left
       ·
        simp only [Act.put, List.setIfInBounds_toArray, List.set_cons_zero, List.set_cons_succ, i64_w, i32_w]
        rfl
       refine take_ (i := 5) (N := some 24) (v := ?_) (a' := ?_) #[true, true, true, true, true, true, false, false] rfl rfl (take_ofW HT_.out HW_.out (by kernel_rfl)) (fun _ _ _ h => h) (Or.inl ⟨by rfl, ?_⟩) hHeld ?_ ?_
       rotate_left
       ·
        rintro w' ⟨s0, s1, s2⟩
        go_simp
        with_reducible rfl
       rotate_left
       ·
        simp only [Act.put, List.setIfInBounds_toArray, List.set_cons_zero, List.set_cons_succ, i64_w, i32_w]
        rfl
       refine one_ (i := 6) (N := some 25) #[true, true, true, true, true, true, true, false] rfl rfl (one_of HT_.out (by kernel_rfl)) (by decide) (fun K hK => ?_)
       refine goes_ Try.func70 (by kernel_rfl) rfl #[.agg #[.slice A0_0 l0_0.length c0_0, .int .i64 a0_1], .int .i64 x6_1, .string (rdOf ByteArray.empty t274 x7_1)] (by rfl) rfl rfl (by (try simp only [List.map_toArray, List.map_cons, List.map_nil]); first | done | rfl | (simp only [List.length_drop, List.length_take]; rfl)) ?_
       with_reducible refine (linhayref07_In.calls k1 _ _ l0_0 a0_1 x6_1 (rdOf ByteArray.empty t274 x7_1) t278 _ ?side1 ?side2 A11.out).mono ?_
       (case side1 => repeat (first | exact (Kd.C_below HR0_0.out HB.out) | (with_reducible refine Kd.C_alloc ?_ _) | (with_reducible refine Kd.C_drewN ?_ _) | (with_reducible refine Kd.C_drew ?_)))
       (case side2 => exact HC0_0.out)
       rintro e w16 ⟨rfl, hb⟩
       have HS2_ := (hb.cell (World.block_lt_of_cell? _ _ (hHeld.2.2))).trans (hHeld.2.2)
       refine ⟨_, rfl, ?_⟩
       have n0_ := Aside0.mk (Kd.R_below (by (with_reducible repeat (first | apply Kd.R_alloc | apply Kd.R_drewN | apply Kd.R_drew)); exact HO_5.out) hb)
       have n1_ := Aside0.mk (blk_below (g := gb272) (o := .cells #[.slice A0_0 l0_0.length c0_0, .int .i64 a0_1] 28 (0, 0)) (by (with_reducible repeat (first | refine blk_drewN ?_ _ | refine blk_drew ?_ | refine blk_alloc ?_ _)); exact BK272.out) hb)
       have n2_ := Aside0.mk (below_step (by repeat (first | (with_reducible first | exact HB.out | apply below_alloc | apply pw_below_drewN | apply below_drew1 | refine below_set ?_ GE272.out) | exact HB.out)) hb)
       clear HO_5
       clear BK272
       clear HB
       have HO_5 := n0_
       have BK272 := n1_
       have HB := n2_
       clear n0_ n1_ n2_
       (try clear hb)
       (try clear hb2)
       (try clear hk)
       (try clear hi)
       refine hK.out _ _ ⟨(blk_cell BK272.out 0).trans rfl, (blk_cell BK272.out 1).trans rfl, HS2_⟩ (fun hHeld => ?_)
       clear hK K
       refine norm_ (a' := ?_) ?_ ?_
       rotate_left
       ·
        show Act.put _ (some 25) _ = _
        simp only [Act.put, List.setIfInBounds_toArray, List.set_cons_zero, List.set_cons_succ, i64_w, i32_w]
        rfl
       refine pure_ (i := 7) (N := some 6) (v := ?_) (a' := ?_) #[true, true, true, true, true, true, true, true] rfl rfl (any_of HT_.out (by kernel_rfl)) (fun _ _ _ h => h) (Or.inl ⟨by rfl, ?_⟩) ?_ ?_
       rotate_left
       ·
        intro w'
        go_simp
        with_reducible rfl
       rotate_left
       ·
        simp only [Act.put, List.setIfInBounds_toArray, List.set_cons_zero, List.set_cons_succ, i64_w, i32_w]
        rfl
       refine done_ (done_of HT_.out (by kernel_rfl)) ?_
       have hcz17_0 : w16.cell? ⟨gb272, 0, none⟩ = some (.slice A0_0 l0_0.length c0_0) := (blk_cell BK272.out 0).trans rfl
       have hcz17_1 : w16.cell? ⟨gb272, 1, none⟩ = some (.int .i64 a0_1) := (blk_cell BK272.out 1).trans rfl
       have hfz17_0 := blk_frozen BK272.out 0
       have hfz17_1 := blk_frozen BK272.out 1
       try go_wp2_with (first | ((with_reducible refine gate_callee (f := 49) rfl ?_); refine goesL_ (some 28) rfl rfl Try.func49 (by kernel_rfl) rfl #[.agg #[.slice A0_0 l0_0.length c0_0, .int .i64 a0_1], .int .i64 t278] rfl (by (try simp only [List.map_toArray, List.map_cons, List.map_nil]); first | done | rfl | (simp only [List.length_drop, List.length_take]; rfl)) ?_; (with_reducible refine (linhayref07_At.calls k1 _ _ l0_0 a0_1 t278 t279 t280 t281 t282 t283 _ ?side1 ?side2 A12.out).mono ?_); (case side1 => repeat (first | exact (Kd.C_below HR0_0.out HB.out) | (with_reducible refine Kd.C_alloc ?_ _) | (with_reducible refine Kd.C_drewN ?_ _) | (with_reducible refine Kd.C_drew ?_))); (case side2 => exact HC0_0.out); rintro e w18 ⟨rfl, hb⟩; refine ⟨_, rfl, ?_⟩; have n0_ := Aside0.mk (Kd.R_below (by (with_reducible repeat (first | apply Kd.R_alloc | apply Kd.R_drewN | apply Kd.R_drew)); exact HO_5.out) hb); have n1_ := Aside0.mk (blk_below (g := gb272) (o := .cells #[.slice A0_0 l0_0.length c0_0, .int .i64 a0_1] 28 (0, 0)) (by (with_reducible repeat (first | refine blk_drewN ?_ _ | refine blk_drew ?_ | refine blk_alloc ?_ _)); exact BK272.out) hb); have n2_ := Aside0.mk (below_step (by repeat (first | (with_reducible first | exact HB.out | apply below_alloc | apply pw_below_drewN | apply below_drew1 | refine below_set ?_ GE272.out) | exact HB.out)) hb); clear HO_5; clear BK272; clear HB; have HO_5 := n0_; have BK272 := n1_; have HB := n2_; clear n0_ n1_ n2_; (try clear hb); (try clear hb2); (try clear hk); (try clear hi)))
       go_roundg k1
       case measure => have := HK1.out; omega
       case rel => exact ⟨(t278), (wrap64 (x7_1 + 1)), (by first | rfl | (simp; done) | (simp [*]; done) | (simp [bne_nil]; done)), (by first | rfl | (simp; done) | (simp [*]; done) | (simp [bne_nil]; done)), H', ⟨by have := HK1.out; omega⟩, ⟨by (with_reducible repeat (first | apply Kd.R_alloc | apply Kd.R_drewN | apply Kd.R_drew)); first | exact HO_5.out | exact own_cut HO_5.out⟩, ⟨by (with_reducible repeat (first | refine blk_drewN ?_ _ | refine blk_drew ?_ | refine blk_alloc ?_ _)); exact BK272.out⟩, ⟨by repeat (first | (with_reducible first | exact HB.out | apply below_alloc | apply pw_below_drewN | apply below_drew1 | refine below_set ?_ GE272.out) | exact HB.out)⟩⟩
      ·
       rw [if_neg c13] at H
       have c13b0 : (t282 == 1) = false := beq_eq_false_iff_ne.mpr c13
       have c13b1 : (t282 != 1) = true := bne_iff_ne.mpr c13
       obtain rfl := Option.some.inj H
       obtain ⟨Ao19, co19, eo19⟩ := Kd.R_slice HO_5.out
       subst eo19
       try go_wp2
       have n0_ := Aside0.mk (Kd.R_drew HO_5.out)
       have n1_ := Aside0.mk (blk_drew BK272.out)
       have n2_ := Aside0.mk (below_drew1 HB.out)
       clear HO_5
       clear BK272
       clear HB
       have HO_5 := n0_
       have BK272 := n1_
       have HB := n2_
       clear n0_ n1_ n2_
       have p277 : 0 ≤ (x7_1 : Int) := of_decide_eq_true (by first | (with_reducible assumption) | assumption)
       have q277 : x7_1 < (t274.length : Int) := of_decide_eq_true (by first | (with_reducible assumption) | assumption)
       obtain ⟨ad277, e277, hx277_0⟩ := Kd.at_string (Kd.R_reads' HO_5.out).2.2 x7_1 p277 q277
       cases e277
       replace p277 := eq_true p277
       replace q277 := eq_true q277
       refine start_ (n := 8) (S := fun w' => w'.cell? ⟨gb272, 0, none⟩ = some (.slice A0_0 l0_0.length c0_0) ∧ w'.cell? ⟨gb272, 1, none⟩ = some (.int .i64 a0_1) ∧ w'.cell? (ad277.add (x7_1).toNat) = some (.string (rdOf ByteArray.empty t274 x7_1))) (ds := []) #[false, false, false, false, false, false, false, false] (by kernel_rfl) rfl rfl ⟨(blk_cell BK272.out 0).trans rfl, (blk_cell BK272.out 1).trans rfl, hx277_0⟩ (fun hHeld => ?_); refine with_tabW linhayref08_Straight.tab8 linhayref08_Straight.bits8 (fun HT_ HW_ => ?_)
       generalize wr.drew = w20 at HO_5 BK272 HB hx277_0 hHeld ⊢
       refine pure_ (i := 1) (N := some 20) (v := ?_) (a' := ?_) #[false, true, false, false, false, false, false, false] rfl rfl (any_of HT_.out (by kernel_rfl)) (fun _ _ _ h => h) (Or.inl ⟨by rfl, ?_⟩) ?_ ?_
       rotate_left
       ·
        intro w'
        go_simp
        with_reducible rfl
       rotate_left
       ·
        simp only [Act.put, List.setIfInBounds_toArray, List.set_cons_zero, List.set_cons_succ, i64_w, i32_w]
        rfl
       refine pure_ (i := 2) (N := some 21) (v := ?_) (a' := ?_) #[false, true, true, false, false, false, false, false] rfl rfl (any_of HT_.out (by kernel_rfl)) (fun _ _ _ h => h) (Or.inl ⟨by rfl, ?_⟩) ?_ ?_
       rotate_left
       ·
        intro w'
        go_simp
        with_reducible rfl
       rotate_left
       ·
        simp only [Act.put, List.setIfInBounds_toArray, List.set_cons_zero, List.set_cons_succ, i64_w, i32_w]
        rfl
       refine pure_ (i := 3) (N := some 22) (v := ?_) (a' := ?_) #[false, true, true, true, false, false, false, false] rfl rfl (any_of HT_.out (by kernel_rfl)) (fun _ _ _ h => h) (Or.inl ⟨by rfl, ?_⟩) ?_ ?_
       rotate_left
       ·
        intro w'
        go_simp
        with_reducible rfl
       rotate_left
       ·
        simp only [Act.put, List.setIfInBounds_toArray, List.set_cons_zero, List.set_cons_succ, i64_w, i32_w]
        rfl
       refine pure_ (i := 4) (N := some 23) (v := ?_) (a' := ?_) #[false, true, true, true, true, false, false, false] rfl rfl (any_of HT_.out (by kernel_rfl)) (fun _ _ _ h => h) (Or.inl ⟨by rfl, ?_⟩) ?_ ?_
       rotate_left
       ·
        intro w'
        go_simp
        with_reducible rfl
       rotate_left
       ·
        simp only [Act.put, List.setIfInBounds_toArray, List.set_cons_zero, List.set_cons_succ, i64_w, i32_w]
        rfl
       refine take_ (i := 0) (N := some 19) (v := ?_) (a' := ?_) #[true, true, true, true, true, false, false, false] rfl rfl (take_ofW HT_.out HW_.out (by kernel_rfl)) (fun _ _ _ h => h) (Or.inl ⟨by rfl, ?_⟩) hHeld ?_ ?_
       rotate_left
       ·
        rintro w' ⟨s0, s1, s2⟩
        go_simp
        with_reducible rfl
       rotate_left
       ·
        simp only [Act.put, List.setIfInBounds_toArray, List.set_cons_zero, List.set_cons_succ, i64_w, i32_w]
        rfl
       refine take_ (i := 5) (N := some 24) (v := ?_) (a' := ?_) #[true, true, true, true, true, true, false, false] rfl rfl (take_ofW HT_.out HW_.out (by kernel_rfl)) (fun _ _ _ h => h) (Or.inl ⟨by rfl, ?_⟩) hHeld ?_ ?_
       rotate_left
       ·
        rintro w' ⟨s0, s1, s2⟩
        go_simp
        with_reducible rfl
       rotate_left
       ·
        simp only [Act.put, List.setIfInBounds_toArray, List.set_cons_zero, List.set_cons_succ, i64_w, i32_w]
        rfl
       refine one_ (i := 6) (N := some 25) #[true, true, true, true, true, true, true, false] rfl rfl (one_of HT_.out (by kernel_rfl)) (by decide) (fun K hK => ?_)
       refine goes_ Try.func70 (by kernel_rfl) rfl #[.agg #[.slice A0_0 l0_0.length c0_0, .int .i64 a0_1], .int .i64 x6_1, .string (rdOf ByteArray.empty t274 x7_1)] (by rfl) rfl rfl (by (try simp only [List.map_toArray, List.map_cons, List.map_nil]); first | done | rfl | (simp only [List.length_drop, List.length_take]; rfl)) ?_
       with_reducible refine (linhayref07_In.calls k1 _ _ l0_0 a0_1 x6_1 (rdOf ByteArray.empty t274 x7_1) t278 _ ?side1 ?side2 A11.out).mono ?_
       (case side1 => repeat (first | exact (Kd.C_below HR0_0.out HB.out) | (with_reducible refine Kd.C_alloc ?_ _) | (with_reducible refine Kd.C_drewN ?_ _) | (with_reducible refine Kd.C_drew ?_)))
       (case side2 => exact HC0_0.out)
       rintro e w21 ⟨rfl, hb⟩
       have HS2_ := (hb.cell (World.block_lt_of_cell? _ _ (hHeld.2.2))).trans (hHeld.2.2)
       refine ⟨_, rfl, ?_⟩
       have n0_ := Aside0.mk (Kd.R_below (by (with_reducible repeat (first | apply Kd.R_alloc | apply Kd.R_drewN | apply Kd.R_drew)); exact HO_5.out) hb)
       have n1_ := Aside0.mk (blk_below (g := gb272) (o := .cells #[.slice A0_0 l0_0.length c0_0, .int .i64 a0_1] 28 (0, 0)) (by (with_reducible repeat (first | refine blk_drewN ?_ _ | refine blk_drew ?_ | refine blk_alloc ?_ _)); exact BK272.out) hb)
       have n2_ := Aside0.mk (below_step (by repeat (first | (with_reducible first | exact HB.out | apply below_alloc | apply pw_below_drewN | apply below_drew1 | refine below_set ?_ GE272.out) | exact HB.out)) hb)
       clear HO_5
       clear BK272
       clear HB
       have HO_5 := n0_
       have BK272 := n1_
       have HB := n2_
       clear n0_ n1_ n2_
       (try clear hb)
       (try clear hb2)
       (try clear hk)
       (try clear hi)
       refine hK.out _ _ ⟨(blk_cell BK272.out 0).trans rfl, (blk_cell BK272.out 1).trans rfl, HS2_⟩ (fun hHeld => ?_)
       clear hK K
       refine norm_ (a' := ?_) ?_ ?_
       rotate_left
       ·
        show Act.put _ (some 25) _ = _
        simp only [Act.put, List.setIfInBounds_toArray, List.set_cons_zero, List.set_cons_succ, i64_w, i32_w]
        rfl
       refine pure_ (i := 7) (N := some 6) (v := ?_) (a' := ?_) #[true, true, true, true, true, true, true, true] rfl rfl (any_of HT_.out (by kernel_rfl)) (fun _ _ _ h => h) (Or.inl ⟨by rfl, ?_⟩) ?_ ?_
       rotate_left
       ·
        intro w'
        go_simp
        with_reducible rfl
       rotate_left
       ·
        simp only [Act.put, List.setIfInBounds_toArray, List.set_cons_zero, List.set_cons_succ, i64_w, i32_w]
        rfl
       refine done_ (done_of HT_.out (by kernel_rfl)) ?_
       have hcz22_0 : w21.cell? ⟨gb272, 0, none⟩ = some (.slice A0_0 l0_0.length c0_0) := (blk_cell BK272.out 0).trans rfl
       have hcz22_1 : w21.cell? ⟨gb272, 1, none⟩ = some (.int .i64 a0_1) := (blk_cell BK272.out 1).trans rfl
       have hfz22_0 := blk_frozen BK272.out 0
       have hfz22_1 := blk_frozen BK272.out 1
       try go_wp2_with (first | ((with_reducible refine gate_callee (f := 49) rfl ?_); refine goesL_ (some 28) rfl rfl Try.func49 (by kernel_rfl) rfl #[.agg #[.slice A0_0 l0_0.length c0_0, .int .i64 a0_1], .int .i64 t278] rfl (by (try simp only [List.map_toArray, List.map_cons, List.map_nil]); first | done | rfl | (simp only [List.length_drop, List.length_take]; rfl)) ?_; (with_reducible refine (linhayref07_At.calls k1 _ _ l0_0 a0_1 t278 t279 t280 t281 t282 t283 _ ?side1 ?side2 A12.out).mono ?_); (case side1 => repeat (first | exact (Kd.C_below HR0_0.out HB.out) | (with_reducible refine Kd.C_alloc ?_ _) | (with_reducible refine Kd.C_drewN ?_ _) | (with_reducible refine Kd.C_drew ?_))); (case side2 => exact HC0_0.out); rintro e w23 ⟨rfl, hb⟩; refine ⟨_, rfl, ?_⟩; have n0_ := Aside0.mk (Kd.R_below (by (with_reducible repeat (first | apply Kd.R_alloc | apply Kd.R_drewN | apply Kd.R_drew)); exact HO_5.out) hb); have n1_ := Aside0.mk (blk_below (g := gb272) (o := .cells #[.slice A0_0 l0_0.length c0_0, .int .i64 a0_1] 28 (0, 0)) (by (with_reducible repeat (first | refine blk_drewN ?_ _ | refine blk_drew ?_ | refine blk_alloc ?_ _)); exact BK272.out) hb); have n2_ := Aside0.mk (below_step (by repeat (first | (with_reducible first | exact HB.out | apply below_alloc | apply pw_below_drewN | apply below_drew1 | refine below_set ?_ GE272.out) | exact HB.out)) hb); clear HO_5; clear BK272; clear HB; have HO_5 := n0_; have BK272 := n1_; have HB := n2_; clear n0_ n1_ n2_; (try clear hb); (try clear hb2); (try clear hk); (try clear hi)))
       go_ret
       exact ⟨by first | rfl | (simp [errW_none, errW_some] <;> rfl) | (simp [*, errW_none, errW_some] <;> rfl) | (simp [errW_none, errW_some, bne_nil]; done) | (simp [*, bne_nil]; done) | (simp [bne]; done), by repeat (first | (with_reducible first | exact HB.out | apply below_alloc | apply pw_below_drewN | apply below_drew1 | refine below_set ?_ GE272.out) | exact HB.out)⟩
     ·
      rw [if_neg c10] at H
      exact absurd H (by simp)
    ·
     rw [if_neg c9] at H
     have c9b0 : decide (x7_1 < (t274.length : Int)) = false := decide_eq_false c9
     clear c9
     obtain rfl := Option.some.inj H
     obtain ⟨Ao24, co24, eo24⟩ := Kd.R_slice HO_5.out
     subst eo24
     go_wp2
     go_ret
     exact ⟨by first | rfl | (simp [errW_none, errW_some] <;> rfl) | (simp [*, errW_none, errW_some] <;> rfl) | (simp [errW_none, errW_some, bne_nil]; done) | (simp [*, bne_nil]; done) | (simp [bne]; done), by repeat (first | (with_reducible first | exact HB.out | apply below_alloc | apply pw_below_drewN | apply below_drew1 | refine below_set ?_ GE272.out) | exact HB.out)⟩
 ·
  replace c4 := Bool.eq_false_iff.mpr c4
  subst c4
  have H1 : (some false) = some r := by rw [if_neg (show ¬ (false = true) by decide)] at H; exact H
  clear H
  have H := H1
  clear H1
  obtain rfl := Option.some.inj H
  go_enter Try.func31, Try.ntmps31
  go_wp2_with (first | ((with_reducible refine gate_dst (N := 2) rfl ?_); refine box_event ?hg (N := 2) ?hd (cs := #[.slice A0_0 l0_0.length c0_0, .int .i64 a0_1]) (t := 28) ?hr ?_; (case hd => rfl); (case hg => rfl); (case hr => first | (go_simp; done) | (go_simp; rfl)); intro gb272 hg w25 hbox hb; have n0_ := Aside0.mk (below_step (by repeat (first | (with_reducible first | exact HB.out | apply below_alloc | apply pw_below_drewN | apply below_drew1) | exact HB.out)) hb); have n1_ := Aside0.mk (hbox); have n2_ := Aside0.mk ((by rw [hg]; exact (below_size (by repeat (first | (with_reducible first | exact HB.out | apply below_alloc | apply pw_below_drewN | apply below_drew1) | exact HB.out))) : w.heap.size ≤ gb272)); have n3_ := Aside0.mk ((by rw [hg]; exact (below_size (by repeat (first | (with_reducible first | exact HB.out | apply below_alloc | apply pw_below_drewN | apply below_drew1) | exact HB.out))) : w.heap.size ≤ gb272)); clear HB; have HB := n0_; have BK272 := n1_; have GW272 := n2_; have GE272 := n3_; clear n0_ n1_ n2_ n3_; clear hb hbox hg) | ((with_reducible refine gate_callee (f := 69) rfl ?_); refine goesL_ (some 9) rfl rfl Try.func69 (by kernel_rfl) rfl #[.string a1] rfl (by (try simp only [List.map_toArray, List.map_cons, List.map_nil]); first | done | rfl | (simp only [List.length_drop, List.length_take]; rfl)) ?_; (with_reducible refine (linhayref04_Is.calls k a1 false _ A3.out).mono ?_); rintro e w26 ⟨rfl, hb⟩; refine ⟨_, rfl, ?_⟩; have n0_ := Aside0.mk (blk_below (g := gb272) (o := .cells #[.slice A0_0 l0_0.length c0_0, .int .i64 a0_1] 28 (0, 0)) (by (with_reducible repeat (first | refine blk_drewN ?_ _ | refine blk_drew ?_ | refine blk_alloc ?_ _)); exact BK272.out) hb); have n1_ := Aside0.mk (below_step (by repeat (first | (with_reducible first | exact HB.out | apply below_alloc | apply pw_below_drewN | apply below_drew1 | refine below_set ?_ GE272.out) | exact HB.out)) hb); clear BK272; clear HB; have BK272 := n0_; have HB := n1_; clear n0_ n1_; (try clear hb); (try clear hb2); (try clear hk); (try clear hi)))
  go_ret
  exact ⟨by first | rfl | (simp [errW_none, errW_some] <;> rfl) | (simp [*, errW_none, errW_some] <;> rfl) | (simp [errW_none, errW_some, bne_nil]; done) | (simp [*, bne_nil]; done) | (simp [bne]; done), by repeat (first | (with_reducible first | exact HB.out | apply below_alloc | apply pw_below_drewN | apply below_drew1 | refine below_set ?_ GE272.out) | exact HB.out)⟩

end Go.Proofs.Ytjfigngmpagloaa.X

namespace Go.Proofs.Ytjfigngmpagloaa.Tw
open Go Go.RowKit Go.Shelf Go.Proofs Go.Proofs.Ytjfigngmpagloaa Go.Proofs.YtjfigngmpagloaaW.PrintWords Go.Proofs.Ytjfigngmpagloaa.Ext Go.Proofs.Ytjfigngmpagloaa.X Go.Proofs.Ytjfigngmpagloaa.Pu
set_option linter.unusedVariables false
set_option linter.unusedSimpArgs false
def NoSlash (x : List UInt8) : Prop := x ≠ [] ∧ x ≠ [46] ∧ 47 ∉ x
theorem go_parts (now l : List UInt8) (h : 47 ∉ now) : ∀ x ∈ Sp.go now l, NoSlash x := by
  have keep : ∀ (now : List UInt8) (r : List (List UInt8)), 47 ∉ now → (∀ x ∈ r, NoSlash x) → ∀ x ∈ Sp.keep now r, NoSlash x := by
    intro now r hn hr x hx
    unfold Sp.keep at hx
    split at hx
    · exact hr x hx
    · rename_i hk
      rcases List.mem_cons.1 hx with rfl | hx
      · exact ⟨fun e => hk (.inl e), fun e => hk (.inr e), hn⟩
      · exact hr x hx
  induction l generalizing now with
  | nil => rw [Sp.go]; exact keep now [] h (by simp)
  | cons c l ih =>
    rw [Sp.go]
    split
    · exact keep now _ h (ih [] (by simp))
    · rename_i hc
      exact ih _ (by simp [h]; exact fun e => hc e.symm)
theorem parts_ok (s : List UInt8) : ∀ x ∈ Sp.parts s, NoSlash x := go_parts [] s (by simp)
theorem go_run (now x l : List UInt8) (hx : 47 ∉ x) : Sp.go now (x ++ l) = Sp.go (now ++ x) l := by
  induction x generalizing now with
  | nil => simp
  | cons c x ih =>
    have hc : c ≠ 47 := fun e => hx (by simp [e])
    rw [List.cons_append, Sp.go, if_neg hc, ih _ (fun h => hx (List.mem_cons_of_mem _ h))]
    simp
theorem parts_slash (l : List UInt8) : Sp.parts (47 :: l) = Sp.parts l := by simp [Sp.parts, Sp.go, Sp.keep]
/-- The parts of parts that are joined are these parts. -/
theorem parts_tail (L : List (List UInt8)) (h : ∀ x ∈ L, NoSlash x) : Sp.parts (Lib.joinTail [47] L) = L := by
  induction L with
  | nil => simp [Lib.joinTail]
  | cons x L ih =>
    obtain ⟨h1, h2, h3⟩ := h x List.mem_cons_self
    have e : Lib.joinTail [47] (x :: L) = 47 :: (x ++ Lib.joinTail [47] L) := by simp [Lib.joinTail]
    rw [e, parts_slash, Sp.parts, go_run _ _ _ h3, List.nil_append]
    cases L with
    | nil => simp [Lib.joinTail, Sp.go, Sp.keep, h1, h2]
    | cons y L =>
      have e2 : Lib.joinTail [47] (y :: L) = 47 :: (y ++ Lib.joinTail [47] L) := by simp [Lib.joinTail]
      have ih2 := ih (fun z hz => h z (List.mem_cons_of_mem _ hz))
      rw [e2, parts_slash] at ih2
      rw [e2, Sp.go, if_pos rfl, Sp.keep, if_neg (fun h => h.elim h1 h2)]
      rw [Sp.parts] at ih2
      rw [ih2]
theorem join_tail (L : List (List UInt8)) (hL : L ≠ []) : 47 :: Lib.join L [47] = Lib.joinTail [47] L := by
  cases L with
  | nil => exact absurd rfl hL
  | cons x L => rw [Lib.join_cons]; simp [Lib.joinTail]
theorem parts_text (L : List (List UInt8)) (h : ∀ x ∈ L, NoSlash x) : Sp.parts (Sp.text L) = L := by
  by_cases hL : L = []
  · subst hL; rw [Sp.text, Lib.join_nil]; rfl
  · rw [Sp.text, join_tail L hL, parts_tail L h]
inductive Chain (L : List RN) : Int → List ByteArray → Prop
  | root : Chain L 1 []
  | step {r : RN} {p : List ByteArray} : r ∈ L → r.f0 ≠ 1 → Chain L r.f1 p → Chain L r.f0 (p ++ [r.f2])
theorem atR_num {L : List RN} {n : Int} (h : (atR L n).f3 ≠ 0) : (atR L n).f0 = n := by
  obtain ⟨q, hq, hqn, hqe⟩ := at_kind h
  rw [hqe, hqn]
theorem root_at {L : List RN} {last : Int} (h : GoodL L last) : (atR L 1).f0 = 1 ∧ (atR L 1).f1 = 1 ∧ (atR L 1).f3 = 1 := by
  obtain ⟨r, hr, h0, h1, h3⟩ := h.root
  have := at_mem h hr
  rw [h0] at this
  rw [this]
  exact ⟨h0, h1, h3⟩
theorem chain_ex {L : List RN} {last : Int} (hG : GoodL L last) (hM : GoodM L) : ∀ n, (atR L n).f3 ≠ 0 → ∃ p, Chain L n p ∧ p.length ≤ L.length := by
  obtain ⟨d, hb, hd⟩ := hM.rank
  have key : ∀ (m : Nat) (n : Int), d n = m → (atR L n).f3 ≠ 0 → ∃ p, Chain L n p ∧ p.length ≤ m := by
    intro m
    induction m using Nat.strongRecOn with
    | _ m ih =>
      intro n hn hk
      by_cases h1 : n = 1
      · subst h1; exact ⟨[], .root, Nat.zero_le _⟩
      · obtain ⟨q, hq, hqn, hqe⟩ := at_kind hk
        have hq1 : q.f0 ≠ 1 := by rw [hqn]; exact h1
        have hlt := hd q hq hq1
        rw [hqn, hn] at hlt
        obtain ⟨p, hp, hpl⟩ := ih (d q.f1) hlt q.f1 rfl (by rw [hG.up q hq]; decide)
        have := Chain.step hq hq1 hp
        rw [hqn] at this
        exact ⟨_, this, by rw [List.length_append, List.length_singleton]; omega⟩
  intro n hk
  obtain ⟨p, h1, h2⟩ := key _ n rfl hk
  exact ⟨p, h1, Nat.le_trans h2 (hb n)⟩
theorem chain_kind {L : List RN} {last : Int} (hG : GoodL L last) (hM : GoodM L) {n : Int} {p : List ByteArray} (h : Chain L n p) : (atR L n).f3 ≠ 0 ∧ (atR L n).f0 = n := by
  cases h with
  | root => have := root_at hG; rw [this.2.2, this.1]; exact ⟨by decide, rfl⟩
  | step hr h1 _ => rw [at_mem hG hr]; have := (hM.kind _ hr).1; exact ⟨by omega, rfl⟩
theorem chain_nm {L : List RN} {last : Int} (hM : GoodM L) {n : Int} {p : List ByteArray} (h : Chain L n p) : ∀ x ∈ p, Sp.check x.data.toList = 0 := by
  induction h with
  | root => intro x hx; cases hx
  | step hr h1 _ ih =>
    intro x hx
    rcases List.mem_append.1 hx with hx | hx
    · exact ih x hx
    · rw [List.mem_singleton.1 hx]; exact hM.nm _ hr h1
theorem check_zero {s : List UInt8} (h : Sp.check s = 0) : NoSlash s ∧ Up s ∧ s.length ≤ 64 ∧ Sp.right s = true := by
  have h' := h
  unfold Sp.check at h
  split at h
  · cases h
  · split at h
    · cases h
    · split at h
      · cases h
      · rename_i h1 h2 h3
        simp only [not_or] at h2 h3
        exact ⟨⟨h1, h3.1, h2.2.1⟩, h3.2, by omega, by simp [Sp.right, h']⟩
theorem called_of {L : List RN} {last : Int} (hG : GoodL L last) {r : RN} (hr : r ∈ L) (h1 : r.f0 ≠ 1) : calledT (trOf L last) r.f0 = r.f2 := by
  unfold calledT
  rw [node_of hG r.f0, at_mem hG hr, node_of hG r.f1]
  simp only []
  have hm : (⟨r.f2, r.f0⟩ : En) ∈ entsOf L r.f1 := mem_ents.2 ⟨r, hr, isIn_iff.2 ⟨rfl, h1⟩, rfl⟩
  unfold calledL
  cases hf : (entsOf L r.f1).find? (fun e => e.f1 == r.f0) with
  | none => have := List.find?_eq_none.1 hf _ hm; simp at this
  | some e =>
    have he := List.mem_of_find?_eq_some hf
    have hes : e.f1 = r.f0 := by simpa using List.find?_some hf
    obtain ⟨q, hq, hi, rfl⟩ := mem_ents.1 he
    have e1 := at_mem hG hq
    have e2 := at_mem hG hr
    rw [show q.f0 = r.f0 from hes, e2] at e1
    rw [← e1]
theorem real_up {L : List RN} {last : Int} (hG : GoodL L last) {n : Int} {p : List ByteArray} (h : Chain L n p) : ∃ k, realUp (trOf L last) k n = some p.reverse := by
  induction h with
  | root => exact ⟨1, by rw [realUp_one, if_pos rfl]; rfl⟩
  | step hr h1 _ ih =>
    obtain ⟨k, hk⟩ := ih
    refine ⟨k + 1, ?_⟩
    rw [realUp_one, if_neg h1, node_of hG, at_mem hG hr]
    simp only []
    rw [hk, called_of hG hr h1]
    simp
def flatB (p : List ByteArray) : List UInt8 := p.flatMap (fun x => 47 :: x.data.toList)
theorem flat_snoc (p : List ByteArray) (x : ByteArray) : flatB (p ++ [x]) = flatB p ++ 47 :: x.data.toList := by simp [flatB]
theorem flat_text (p : List ByteArray) : Sp.text (p.map (·.data.toList)) = if p = [] then [47] else flatB p := by
  by_cases h : p = []
  · subst h; rfl
  · rw [if_neg h, Sp.text, join_tail _ (by simpa using h)]
    simp only [Lib.joinTail, flatB, List.map_map, List.flatMap]
    rfl
theorem slash_join (p : List ByteArray) : slash1 ++ joinB p = Sp.mk (Sp.text (p.map (·.data.toList))) := by
  unfold joinB Sp.text slash1
  rw [Sp.mk_cons]
def finR (p : List ByteArray) (acc : ByteArray) : ByteArray := if p = [] ∧ acc.toList = [] then ⟨#[47]⟩ else Sp.mk (flatB p ++ acc.data.toList)
theorem ref_real_l0 {L : List RN} {last : Int} (hG : GoodL L last) (hM : GoodM L) {n : Int} {p : List ByteArray} (h : Chain L n p) : ∀ (acc : ByteArray), acc.size + 100 * p.length < 1000000000 →
    Ev (fun k => linhayref08_Real.l0 k acc L last (atR L n).f0 (atR L n).f1 (atR L n).f2 (atR L n).f3 (atR L n).f4) (finR p acc, true) := by
  have hlen : L.length < 4294967296 := by have := hG.len; omega
  induction h with
  | root =>
    intro acc _
    obtain ⟨e0, e1, e3⟩ := root_at hG
    rw [e0]
    refine Ev.step (fun k => by rw [linhayref08_Real.l0]) (ev_pos rfl ?_)
    by_cases ha : acc.toList = []
    · have e : finR [] acc = ⟨#[47]⟩ := by unfold finR; rw [if_pos ⟨rfl, ha⟩]
      rw [e]; exact ev_pos ha (Ev.now _)
    · have e : finR [] acc = acc := by
        unfold finR
        rw [if_neg (fun h => ha h.2), show flatB [] ++ acc.data.toList = acc.data.toList from rfl, Sp.mk_of]
      rw [e]; exact ev_neg ha (Ev.now _)
  | step hr h1 hc ih =>
    rename_i r p
    intro acc ha
    rw [at_mem hG hr]
    have hz : r.f2.size ≤ 64 := by rw [Sp.size_eq]; exact (check_zero (hM.nm _ hr h1)).2.2.1
    rw [List.length_append, List.length_singleton] at ha
    have s1 : ((⟨#[47]⟩ : ByteArray) ++ r.f2).size = 1 + r.f2.size := by rw [ByteArray.size_append]; rfl
    have s2 : (((⟨#[47]⟩ : ByteArray) ++ r.f2) ++ acc).size = 1 + r.f2.size + acc.size := by rw [ByteArray.size_append, s1]
    have := ih (((⟨#[47]⟩ : ByteArray) ++ r.f2) ++ acc) (by omega)
    have ef : finR p (((⟨#[47]⟩ : ByteArray) ++ r.f2) ++ acc) = finR (p ++ [r.f2]) acc := by
      unfold finR
      rw [if_neg (by rintro ⟨_, h⟩; have := congrArg List.length h; rw [toL, ← Sp.size_eq, s2] at this; simp at this), if_neg (by simp), flat_snoc]
      congr 1
      simp [ByteArray.data_append]
    rw [ef] at this
    refine Ev.step (fun k => by rw [linhayref08_Real.l0]) (ev_neg h1 (ev_pos (by omega) (ev_pos (by omega) (ev_bind (r07_at L r.f1 last hlen) this))))
theorem finR_text (p : List ByteArray) : finR p ⟨#[]⟩ = slash1 ++ joinB p := by
  rw [slash_join, flat_text, finR]
  by_cases h : p = []
  · rw [if_pos ⟨h, by rw [toL]⟩, if_pos h]; rfl
  · rw [if_neg (fun e => h e.1), if_neg h]; simp
theorem ref_real {L : List RN} {last : Int} (hG : GoodL L last) (hM : GoodM L) {n : Int} {p : List ByteArray} (h : Chain L n p) (hp : p.length ≤ L.length) : Ev (fun k => linhayref08_Real.f k L last n) (slash1 ++ joinB p, true) := by
  have hlen : L.length ≤ 4096 := hG.len
  rw [← finR_text]
  refine ev_bind (r07_at L n last (by omega)) (ev_neg (chain_kind hG hM h).1 ?_)
  exact ref_real_l0 hG hM h ⟨#[]⟩ (by show 0 + _ < _; omega)
theorem ref_real_none {L : List RN} {last : Int} (hG : GoodL L last) {n : Int} (h : (atR L n).f3 = 0) : Ev (fun k => linhayref08_Real.f k L last n) (⟨#[]⟩, false) := by
  have hlen := hG.len
  exact ev_bind (r07_at L n last (by omega)) (ev_pos h (Ev.now _))
theorem no_zero {L : List RN} {last : Int} (hG : GoodL L last) : (atR L 0).f3 = 0 := by
  apply Classical.byContradiction
  intro h
  obtain ⟨q, hq, hqn, _⟩ := at_kind h
  have := (hG.num q hq).1
  omega
theorem str_both {L : List RN} {last : Int} (hG : GoodL L last) (l : List ByteArray) (hl : l.length < 4294967296) : ∀ (d i : Nat) (a : Int), i + d = l.length → Ev (fun k => linhayref08_Straight.l0 k l a (i : Int) L last) (strT (trOf L last) a (l.drop i)) := by
  have hlen : L.length < 4294967296 := by have := hG.len; omega
  intro d
  induction d with
  | zero =>
    intro i a hi
    rw [List.drop_eq_nil_of_le (by omega)]
    refine Ev.step (fun k => by rw [linhayref08_Straight.l0]) ?_
    exact ev_neg (by omega) (Ev.now true)
  | succ d ih =>
    intro i a hi
    have hlt : i < l.length := by omega
    rw [List.drop_eq_getElem_cons hlt]
    refine Ev.step (fun k => by rw [linhayref08_Straight.l0]) ?_
    refine ev_pos (by omega) (ev_pos (by omega) ?_)
    rw [rd_nat (List.getElem?_eq_getElem hlt), w1 (by omega)]
    refine ev_bind (r07_in L a last l[i] hlen) (ev_bind (r07_at L _ last hlen) ?_)
    have h0 := inR_le hG a l[i]
    have e : strT (trOf L last) a (l[i] :: l.drop (i + 1)) = if (atR L (inR L a l[i])).f3 = 1 then strT (trOf L last) (inR L a l[i]) (l.drop (i + 1)) else false := by
      show (if (findE ((trOf L last).node a).ents l[i]).2 = true then _ else _) = _
      rw [node_of hG a]
      simp only [find_ents hG, decide_eq_true_eq]
      by_cases hp : 0 < inR L a l[i]
      · rw [if_pos hp, node_of hG]
      · rw [if_neg hp, show inR L a l[i] = 0 by omega, no_zero hG, if_neg (by decide)]
    rw [e]
    by_cases hk : (atR L (inR L a l[i])).f3 = 1
    · rw [if_pos hk]; exact ev_pos hk (ih (i + 1) _ (by omega))
    · rw [if_neg hk]; exact ev_neg hk (Ev.now _)
theorem straight_both {L : List RN} {last : Int} (hG : GoodL L last) (s : ByteArray) (hs : s.size < 4000) : Ev (fun k => linhayref08_Straight.f k L last s) (straightF (trOf L last) s) := by
  have hpl := partsB_len' s
  unfold linhayref08_Straight.f straightF
  refine ev_bind (r04_is s (by omega)) ?_
  cases hi : Pa.isPath s.data.toList with
  | false => exact ev_neg (by simp) (Ev.now _)
  | true =>
    refine ev_pos rfl (ev_bind (r04_parts s (by omega)) ?_)
    exact str_both hG (partsB s) (by omega) (partsB s).length 0 1 (by omega)
theorem inR_of {L : List RN} {last : Int} (hG : GoodL L last) {r : RN} (hr : r ∈ L) (h1 : r.f0 ≠ 1) : inR L r.f1 r.f2 = r.f0 := by
  have hne : inR L r.f1 r.f2 ≠ 0 := by
    intro h0
    exact inR_none hG (d := r.f1) (s := r.f2) (by omega) r hr rfl h1 rfl
  obtain ⟨q, hq, q0, q1, q2, q3, _⟩ := inR_mem hG hne
  rw [← q0]
  obtain ⟨i, hi, rfl⟩ := List.getElem_of_mem hq
  obtain ⟨j, hj, rfl⟩ := List.getElem_of_mem hr
  rcases Nat.lt_trichotomy i j with hlt | rfl | hgt
  · exact absurd q2 (List.pairwise_iff_getElem.1 hG.names i j hi hj hlt q1 q3 h1)
  · rfl
  · exact absurd q2.symm (List.pairwise_iff_getElem.1 hG.names j i hj hi hgt q1.symm h1 q3)
theorem walk_more (T : Tr) (lst : Bool) : ∀ (k : Nat) (a h : Int) (l : List ByteArray) (R : Int × Int), walkF T lst k a h l = some R → walkF T lst (k + 1) a h l = some R
  | 0, _, _, _, _, h => by cases h
  | k + 1, a, h, [], R, e => e
  | k + 1, a, h, s :: l, R, e => by
    rw [walk_cons] at e ⊢
    split at e
    · rename_i c; rw [if_pos c]; exact e
    · rename_i c; rw [if_neg c]
      split at e
      · rename_i c; rw [if_pos c]; exact walk_more T lst k _ _ _ _ e
      · rename_i c; rw [if_neg c]
        split at e
        · rename_i c; rw [if_pos c]; exact e
        · rename_i c; rw [if_neg c]
          split at e
          · rename_i c; rw [if_pos c]; exact walk_more T lst k _ _ _ _ e
          · rename_i c; rw [if_neg c]
            split at e
            · rename_i c; rw [if_pos c]; exact e
            · rename_i c; rw [if_neg c]; exact walk_more T lst k _ _ _ _ e
/-- A node's own path leads to it. -/
theorem walk_chain {L : List RN} {last : Int} (hG : GoodL L last) (hM : GoodM L) (lst : Bool) {n : Int} {p : List ByteArray} (h : Chain L n p) : ∀ (rest : List ByteArray) (k : Nat) (R : Int × Int), ((rest = [] ∧ lst = false) ∨ (atR L n).f3 = 1) → walkF (trOf L last) lst k n 0 rest = some R → ∃ k2, walkF (trOf L last) lst k2 1 0 (p ++ rest) = some R := by
  induction h with
  | root => intro rest k R _ h; exact ⟨k, h⟩
  | step hr h1 hc ih =>
    rename_i r p
    intro rest k R hor hw
    rw [at_mem hG hr] at hor
    have hnm := check_zero (hM.nm _ hr h1)
    have hk1 := hG.up r hr
    have hdn := downT_of hG r.f1 r.f2
    rw [if_pos (hM.nm _ hr h1), inR_of hG hr h1, if_neg (show ¬ r.f0 = 0 by have := (hG.num r hr).1; omega)] at hdn
    have := ih (r.f2 :: rest) (k + 1) R (.inr hk1) (by
      rw [walk_cons, hdn, if_neg (show ¬ ((trOf L last).node r.f1).kind ≠ 1 by rw [node_of hG]; simpa using hk1), if_neg (show ¬ r.f2.toList = [46, 46] from fun e => hnm.2.1 (by rw [← toL]; exact e)), if_neg (by simp)]
      simp only []
      rw [if_pos (by rw [node_of hG, at_mem hG hr]; rcases hor with h | h; exact .inr h; exact .inl (by show r.f3 ≠ 3; rw [h]; decide))]
      exact hw)
    obtain ⟨k2, h2⟩ := this
    exact ⟨k2, by rw [List.append_assoc]; exact h2⟩
theorem map_parts (s : ByteArray) : (partsB s).map (·.data.toList) = Sp.parts s.data.toList := by
  unfold partsB bs
  rw [List.map_map]
  conv => rhs; rw [← List.map_id (Sp.parts s.data.toList)]
  apply List.map_congr_left
  intro x _
  simp
theorem parts_text' {L : List RN} {last : Int} (hM : GoodM L) {n : Int} {p : List ByteArray} (h : Chain L n p) : partsB (slash1 ++ joinB p) = p := by
  have hn := chain_nm (last := last) hM h
  unfold partsB bs
  rw [slash_join, Sp.mk_data, parts_text _ (fun x hx => by obtain ⟨y, hy, rfl⟩ := List.mem_map.1 hx; exact (check_zero (hn y hy)).1), List.map_map]
  conv => rhs; rw [← List.map_id p]
  apply List.map_congr_left
  intro x _
  exact Sp.mk_of x
theorem size_pos (p : List ByteArray) : (slash1 ++ joinB p).toList ≠ [] := by
  rw [slash_join, toList_mk, Sp.text]; simp
theorem find_chain {L : List RN} {last : Int} (hG : GoodL L last) (hM : GoodM L) (lst : Bool) {n : Int} {p : List ByteArray} (h : Chain L n p) (ho : lst = false ∨ (atR L n).f3 = 1) (hz : (slash1 ++ joinB p).size ≤ 1024) : ∃ k, findF (trOf L last) lst k (slash1 ++ joinB p) = some (n, 0) := by
  obtain ⟨k, hk⟩ := walk_chain hG hM lst h [] 1 (n, 0) (ho.elim (fun h => .inl ⟨rfl, h⟩) .inr) rfl
  refine ⟨k, ?_⟩
  have hb : beginE (slash1 ++ joinB p) = 0 := by
    unfold beginE
    rw [if_neg (size_pos p), if_neg (by omega)]
  unfold findF
  rw [if_pos hb, parts_text' (last := last) hM h]
  rw [List.append_nil] at hk
  rw [hk]; rfl
theorem is_chain {L : List RN} {last : Int} (hM : GoodM L) {n : Int} {p : List ByteArray} (h : Chain L n p) (hz : (slash1 ++ joinB p).size ≤ 1024) : Pa.isPath (slash1 ++ joinB p).data.toList = true := by
  have hn := chain_nm (last := last) hM h
  have hq : ∀ x ∈ p.map (·.data.toList), NoSlash x ∧ Up x ∧ x.length ≤ 64 ∧ Sp.right x = true := fun x hx => by
    obtain ⟨y, hy, rfl⟩ := List.mem_map.1 hx; exact check_zero (hn y hy)
  have hpt := parts_text (p.map (·.data.toList)) (fun x hx => (hq x hx).1)
  rw [Sp.size_eq] at hz
  rw [slash_join, Sp.mk_data] at hz ⊢
  unfold Pa.isPath
  rw [decide_eq_true hz, Sp.clean, hpt, climbs_id _ (fun x hx => (hq x hx).2.1), decide_eq_true rfl]
  simp only [Bool.and_true, Bool.true_and, List.all_eq_true]
  exact fun x hx => (hq x hx).2.2.2
/-- A path that goes by directories alone: the node, and its own path. -/
theorem str_chain {L : List RN} {last : Int} (hG : GoodL L last) (hM : GoodM L) : ∀ (l : List ByteArray) (a : Int) (p : List ByteArray), Chain L a p → (atR L a).f3 = 1 → strT (trOf L last) a l = true → ∃ n, Chain L n (p ++ l) ∧ (atR L n).f3 = 1
  | [], a, p, hc, hk, _ => ⟨a, by rw [List.append_nil]; exact hc, hk⟩
  | s :: l, a, p, hc, hk, h => by
    have h0 := inR_le hG a s
    change (if (findE ((trOf L last).node a).ents s).2 = true then (if ((trOf L last).node (findE ((trOf L last).node a).ents s).1).kind = 1 then strT (trOf L last) (findE ((trOf L last).node a).ents s).1 l else false) else false) = true at h
    rw [node_of hG a] at h
    simp only [find_ents hG, decide_eq_true_eq] at h
    split at h
    · rename_i hp
      split at h
      · rename_i hk2
        rw [node_of hG] at hk2
        obtain ⟨r, hr, r0, r1, r2, r3, re⟩ := inR_mem hG (d := a) (s := s) (by omega)
        have hch : Chain L r.f0 (p ++ [r.f2]) := .step hr r3 (by rw [r1]; exact hc)
        rw [r2] at hch
        rw [← r0] at h hk2
        obtain ⟨n, h1, h2⟩ := str_chain hG hM l r.f0 (p ++ [s]) hch hk2 h
        exact ⟨n, by rw [List.append_assoc] at h1; exact h1, h2⟩
      · cases h
    · cases h
theorem straight_chain {L : List RN} {last : Int} (hG : GoodL L last) (hM : GoodM L) {s : ByteArray} (h : straightF (trOf L last) s = true) : ∃ n p, Chain L n p ∧ (atR L n).f3 = 1 ∧ slash1 ++ joinB p = s ∧ s.size ≤ 1024 := by
  unfold straightF at h
  rw [Bool.and_eq_true] at h
  obtain ⟨h1, h2⟩ := h
  obtain ⟨n, hc, hk⟩ := str_chain hG hM (partsB s) 1 [] .root (root_at hG).2.2 h2
  rw [List.nil_append] at hc
  unfold Pa.isPath at h1
  simp only [Bool.and_eq_true, decide_eq_true_eq, List.all_eq_true] at h1
  refine ⟨n, partsB s, hc, hk, ?_, by rw [Sp.size_eq]; exact h1.1.1⟩
  rw [slash_join, map_parts]
  have : Sp.clean s.data.toList = Sp.text (Sp.parts s.data.toList) := by
    rw [Sp.clean, climbs_id _ (fun x hx => right_up (h1.2 x hx))]
  rw [← this, h1.1.2, Sp.mk_of]
theorem chain_uniq {L : List RN} {last : Int} (hG : GoodL L last) {n : Int} {p : List ByteArray} (h : Chain L n p) : ∀ {q : List ByteArray}, Chain L n q → p = q := by
  induction h with
  | root =>
    intro q hq
    generalize hm : (1 : Int) = m at hq
    cases hq with
    | root => rfl
    | step _ h1 _ => exact absurd hm.symm h1
  | step hr h1 hc ih =>
    rename_i r p
    intro q hq
    generalize hm : r.f0 = m at hq
    cases hq with
    | root => exact absurd hm h1
    | step hr2 h2 hc2 =>
      rename_i r2 q
      have e1 := at_mem hG hr
      have e2 := at_mem hG hr2
      rw [hm, e2] at e1
      subst e1
      rw [ih hc2]
end Go.Proofs.Ytjfigngmpagloaa.Tw

namespace Go.Proofs.Ytjfigngmpagloaa.Tw
open Go Go.RowKit Go.Shelf Go.Proofs Go.Proofs.Ytjfigngmpagloaa Go.Proofs.YtjfigngmpagloaaW.PrintWords Go.Proofs.Ytjfigngmpagloaa.Ext Go.Proofs.Ytjfigngmpagloaa.X Go.Proofs.Ytjfigngmpagloaa.Pu
set_option linter.unusedVariables false
set_option linter.unusedSimpArgs false
/-- w' is w but for block k (and new ones); block k held no string. -/
structure But (w w' : World) (k : Nat) : Prop where
  g : w.grownBy w' (some k)
  no : ∀ a s, a.block = k → w.cell? a ≠ some (.string s)
theorem But.cell {w w' : World} {k : Nat} (h : But w w' k) {a : Addr} {v : Value} (hne : a.block ≠ k) (hc : w.cell? a = some v) : w'.cell? a = some v := by
  have hlt := block_lt_of_cell hc
  rw [← hc]
  unfold World.cell?
  rw [h.g.block _ hlt (fun e => hne (Option.some.inj e))]
theorem add_block (ad : Addr) (n : Nat) : (ad.add n).block = ad.block := by unfold Addr.add; split <;> rfl
theorem EntsAt.but {w w' : World} {k : Nat} {s : Value} {l : List En} (h : EntsAt w s l) (hb : But w w' k) : EntsAt w' s l := by
  obtain ⟨A, c, e1, e2, hC⟩ := h
  refine ⟨A, c, e1, e2, hC.1, hC.2.1, fun hn => ?_⟩
  obtain ⟨ad, eA, hc⟩ := hC.2.2 hn
  refine ⟨ad, eA, fun j q hj => ?_⟩
  obtain ⟨cs, hl, hK, hq⟩ := hc j q hj
  obtain rfl := k108_open hK
  have hne : ad.block ≠ k := fun e => hb.no _ _ ((add_block ad _).trans e) (hq 0 _ rfl)
  exact ⟨_, hl, k108_mk _ _, fun i u hu => hb.cell (by rw [add_block]; exact hne) (hq i u hu)⟩
theorem RAt.but {w w' : World} {k : Nat} {v : Value} {L : List RN} {last : Int} (h : RAt w v L last) (hb : But w w' k) : RAt w' v L last := by
  obtain ⟨A, c, e1, e2, hC⟩ := h
  refine ⟨A, c, e1, e2, hC.1, hC.2.1, fun hn => ?_⟩
  obtain ⟨ad, eA, hc⟩ := hC.2.2 hn
  refine ⟨ad, eA, fun j q hj => ?_⟩
  obtain ⟨cs, hl, hK, hq⟩ := hc j q hj
  obtain rfl := k97_open hK
  have hne : ad.block ≠ k := fun e => hb.no _ _ ((add_block ad _).trans e) (hq 2 _ rfl)
  exact ⟨_, hl, k97_mk _ _, fun i u hu => hb.cell (by rw [add_block]; exact hne) (hq i u hu)⟩
theorem TreeB.but {w w' : World} {p B k : Nat} {T : Tr} (h : TreeB w p B T) (hb : But w w' k) (hp : p ≠ k) (hB : B ≠ k) : TreeB w' p B T := by
  obtain ⟨sv, D, h⟩ := h
  exact ⟨sv, D, (hb.g.block _ (blk_lt h.ptr) (fun e => hp (Option.some.inj e))).trans h.ptr, h.map.kept hb.g (fun e => hB (Option.some.inj e)), h.cnt, h.has, h.at_, fun n x hn hx => EntsAt.but (h.ents n x hn hx) hb⟩
theorem but_two {w : World} {k : Nat} {v0 v1 u0 u1 : Value} {t : TypeId} (h : w.heap[k]? = some (.cells #[v0, v1] t (0, 0))) (h0 : ∀ s, v0 ≠ .string s) (h1 : ∀ s, v1 ≠ .string s) :
    But w ((w.setCell ⟨k, 0, none⟩ u0).setCell ⟨k, 1, none⟩ u1) k := by
  refine ⟨⟨rfl, rfl, rfl, by simp, fun j _ hj => ?_⟩, ?_⟩
  · have hne : j ≠ k := fun e => hj (by rw [e])
    exact (Below.heap_setCell _ ⟨k, 1, none⟩ u1 j hne).trans (Below.heap_setCell w ⟨k, 0, none⟩ u0 j hne)
  · rintro ⟨b, o, sp⟩ s rfl
    simp only [World.cell?, h]
    split
    · simp
    · match o with
      | 0 => simpa using fun e => h0 s e
      | 1 => simpa using fun e => h1 s e
      | n + 2 => simp
end Go.Proofs.Ytjfigngmpagloaa.Tw

namespace Go.Proofs.Ytjfigngmpagloaa.Tw
open Go Go.RowKit Go.Shelf Go.Proofs Go.Proofs.Ytjfigngmpagloaa Go.Proofs.YtjfigngmpagloaaW.PrintWords Go.Proofs.Ytjfigngmpagloaa.Ext Go.Proofs.Ytjfigngmpagloaa.X Go.Proofs.Ytjfigngmpagloaa.Pu
set_option linter.unusedVariables false
set_option linter.unusedSimpArgs false
def IsI (u : Value) : Prop := ∃ m : Int, u = .int .i64 m
def OwnN (w : World) (base : Nat) (v : Value) (l : List Int) : Prop :=
  (v = .slice none 0 0 ∧ l = []) ∨
  ∃ g cap cur, v = .slice (some ⟨g, 0, none⟩) l.length cap ∧ base ≤ g ∧ w.heap[g]? = some (.cells cur 3 (0, 0)) ∧ l.length ≤ cap ∧ cap ≤ maxLen ∧ cur.size = cap ∧ cur.toList.take l.length = l.map (Value.int .i64) ∧ ∀ u ∈ cur.toList, IsI u
theorem infoI : (Try.prog.info? 3).map (fun i => (i.zero, i.size, i.bytes)) = some (some (.int .i64 0), 1, 8) := by kernel_rfl
theorem OwnN.made (W : World) (base : Nat) (hb : base ≤ W.heap.size) : OwnN (W.alloc (.cells #[] 3)) base (.slice (some ⟨W.heap.size, 0, none⟩) 0 0) [] :=
  .inr ⟨W.heap.size, 0, #[], rfl, hb, heap_alloc_new W _, Nat.le_refl _, by simp [maxLen], rfl, rfl, by simp⟩
theorem OwnN.toR {w : World} {base : Nat} {v : Value} {l : List Int} (h : OwnN w base v l) : Kd.R (Kd.int .i64) 3 w base (fun _ => True) v l := by
  refine Kd.R_of_own ?_ (fun _ _ => trivial)
  refine ⟨by simp [encs], ?_⟩
  rcases h with ⟨rfl, rfl⟩ | ⟨g, cap, cur, rfl, hb, hh, hle, hm, hc, ht, _⟩
  · exact .inl ⟨rfl, rfl⟩
  · refine .inr ⟨g, cap, cur, rfl, hb, hh, hle, hm, by omega, ?_⟩
    rw [Nat.mul_one, ht]; rfl
theorem OwnN.step {w w' : World} {base : Nat} {v : Value} {l : List Int} (h : OwnN w base v l) (hs : ∀ k cur, k < w.heap.size → w.heap[k]? = some (.cells cur 3 (0, 0)) → w'.heap[k]? = w.heap[k]?) : OwnN w' base v l := by
  rcases h with h | ⟨g, cap, cur, e, hb, hh, r⟩
  · exact .inl h
  · exact .inr ⟨g, cap, cur, e, hb, (hs g cur (blk_lt hh) hh).trans hh, r⟩
theorem OwnN.below {w w' : World} {base : Nat} {v : Value} {l : List Int} (h : OwnN w base v l) (hb : Below w.heap.size w w') : OwnN w' base v l := h.step (fun k _ hk _ => hb.block k hk)
theorem OwnN.frm {w w' : World} {p B base : Nat} {T : Tr} {v : Value} {l : List Int} (h : OwnN w base v l) (hT : TreeB w p B T) (hf : Frm w w' p B) : OwnN w' base v l := by
  obtain ⟨hp, es, clock, hB⟩ := hT.two
  refine h.step (fun k cur hk hh => hf.block k hk ?_ ?_)
  · rintro rfl
    rw [hp] at hh
    injection hh with hh
    injection hh with _ hh
    exact absurd hh (by decide)
  · rintro rfl
    rw [hB] at hh
    cases hh
theorem OwnN.but {w w' : World} {k base : Nat} {v : Value} {l : List Int} {cs : Array Value} {t : TypeId} {fr : Nat × Nat} (h : OwnN w base v l) (hk : w.heap[k]? = some (.cells cs t fr)) (ht : t ≠ 3) (hb : But w w' k) : OwnN w' base v l := by
  refine h.step (fun j cur hj hh => hb.g.block j hj ?_)
  intro e
  obtain rfl : j = k := Option.some.inj e
  rw [hk] at hh
  injection hh with hh
  injection hh with _ hh
  exact ht hh
theorem OwnN.noS {w : World} {base : Nat} {v : Value} {l : List Int} (h : OwnN w base v l) (k : Nat) (hk : v.ownBlock = some k) : ∀ a s, a.block = k → w.cell? a ≠ some (.string s) := by
  rcases h with ⟨rfl, _⟩ | ⟨g, cap, cur, rfl, hb, hh, hle, hm, hc, ht, ha⟩
  · cases hk
  · injection hk with hk
    change g = k at hk
    subst hk
    rintro ⟨b, o, sp⟩ s rfl
    simp only [World.cell?, hh]
    split
    · simp
    · intro e
      obtain ⟨m, hm⟩ := ha _ (List.mem_of_getElem? (by simpa using e))
      cases hm
theorem drewAlloc (w : World) (o : Obj) (row : Option Nat) : w.grownBy (w.drew.alloc o) row := ⟨rfl, rfl, rfl, by simp, fun k hk _ => heap_alloc_old w.drew o k hk⟩
theorem zero_is (n : Nat) : ∀ u ∈ (Builtin.zeroCells (Value.cells (.int .i64 0)) n).toList, IsI u := by
  intro u hu
  simp only [Builtin.zeroCells] at hu
  simp at hu
  obtain ⟨_, hu⟩ := hu
  have : u = .int .i64 0 := by simp [Value.cells, Nat.mod_one] at hu; exact hu.2.symm
  exact ⟨0, this⟩
theorem OwnN.append {W : World} {base : Nat} {v : Value} {l : List Int} (h : OwnN W base v l) (x : Int) (ty : TypeId) (hb : base ≤ W.heap.size) (hl : l.length < 1000000) :
    ∃ v' w', (Builtin.append_ #[91, 91] ty #[v, .slice (some ⟨W.heap.size, 0, none⟩) 1 1]).run Try.prog (W.alloc (.cells #[.int .i64 x] 3)) = .ok v' w' ∧ OwnN w' base v' (l ++ [x]) ∧ W.grownBy w' v.ownBlock := by
  obtain ⟨i0, hi, hz0, hz1, hz2⟩ := info_parts infoI
  have ht := Try.underlying91
  have hnews := cell_one_new W (.int .i64 x) 3
  have h1 : ∀ u ∈ [Value.int .i64 x], u.oneCell' = true := by intro u hu; rw [List.mem_singleton.1 hu]; rfl
  have hgr := World.grownBy_alloc W (.cells #[.int .i64 x] 3)
  rcases h with ⟨rfl, rfl⟩ | ⟨g, cap, cur, rfl, hbg, hh, hle, hm, hc, htk, ha⟩
  · have hr := run_append_nil (P := Try.prog) (W.alloc (.cells #[.int .i64 x] 3)) 91 ty 3 i0 (.int .i64 0) ht hi hz0 ⟨W.heap.size, 0, none⟩ 1 1 [.int .i64 x] (by rw [hz1]; rfl) hnews (by omega) (by omega) (by rw [hz2]; omega)
    refine ⟨_, _, hr, .inr ⟨_, _, _, rfl, ?_, heap_alloc_new _ _, ?_, ?_, ?_, ?_, ?_⟩, ?_⟩
    · show base ≤ (W.alloc _).heap.size
      simp; omega
    · exact grownCap_ge _ 1 0 _
    · exact grownCap_le_maxLen _ 1 0 _ (by simp [maxLen])
    · have := grownCap_ge (W.alloc (.cells #[.int .i64 x] 3)) 1 0 3
      simp only [Array.size_append, List.size_toArray, size_zeroCells]
      simp [Value.cells]
      omega
    · simp
    · intro u hu
      rw [Array.toList_append] at hu
      rcases List.mem_append.1 hu with hu | hu
      · exact ⟨x, by simpa using hu⟩
      · exact zero_is _ u hu
    · exact World.grownBy.trans (hgr _) (drewAlloc _ _ _)
  · have hg' : (W.alloc (.cells #[.int .i64 x] 3)).heap[g]? = some (.cells cur 3 (0, 0)) := (heap_alloc_old W _ g (blk_lt hh)).trans hh
    have hgr := World.grownBy_alloc W (.cells #[.int .i64 x] 3) (some g)
    by_cases hroom : l.length + 1 ≤ cap
    · have hr := run_append_room (P := Try.prog) (W.alloc (.cells #[.int .i64 x] 3)) 91 ty 3 i0 ht hi g l.length cap cur hg' ⟨W.heap.size, 0, none⟩ 1 1 [.int .i64 x] (by rw [hz1]; rfl) hnews h1 hroom (by rw [hz1]; simp; omega)
      rw [hz1, Nat.mul_one] at hr
      refine ⟨_, _, hr, .inr ⟨g, cap, _, by simp, hbg, setRow_heap _ g cur _ _ _ hg', by simpa using hroom, hm, ?_, ?_, ?_⟩, ?_⟩
      · have hcl : cur.toList.length = cap := by simpa using hc
        simp only [List.size_toArray, List.length_append, List.length_take, List.length_drop, hcl, List.length_singleton]
        omega
      · rw [htk, List.map_append, List.length_append]
        have e : (l.map (Value.int .i64) ++ [Value.int .i64 x]).length = l.length + 1 := by simp
        show List.take (l.length + 1) (l.map (Value.int .i64) ++ [Value.int .i64 x] ++ _) = _
        rw [← e]
        exact List.take_left
      · intro u hu
        simp only [List.mem_append] at hu
        rcases hu with (hu | hu) | hu
        · exact ha u (List.mem_of_mem_take hu)
        · exact ⟨x, by simpa using hu⟩
        · exact ha u (List.mem_of_mem_drop hu)
      · exact hgr.trans ⟨rfl, rfl, rfl, by simp [World.setRow], fun k hk hne => setRow_other _ g k _ (fun e => hne (by simp [e]))⟩
    · have holds : ∀ j u, (l.map (Value.int .i64))[j]? = some u → (W.alloc (.cells #[.int .i64 x] 3)).cell? ((⟨g, 0, none⟩ : Addr).add j) = some u := by
        intro j u hu
        rw [← htk, List.getElem?_take] at hu
        have hadd : (⟨g, 0, none⟩ : Addr).add j = ⟨g, j, none⟩ := by simp [Addr.add_lit]
        rw [hadd, cell_of_row _ g j cur _ (0, 0) hg']
        split at hu
        · simpa using hu
        · cases hu
      have hle2 : l.length ≤ cap := hle
      have hr := run_append_grow (P := Try.prog) (W.alloc (.cells #[.int .i64 x] 3)) 91 ty 3 i0 (.int .i64 0) ht hi hz0 ⟨g, 0, none⟩ l.length cap (l.map (Value.int .i64)) (by rw [hz1]; simp) holds ⟨W.heap.size, 0, none⟩ 1 1 [.int .i64 x] (by rw [hz1]; rfl) hnews (by omega) (by omega) (growslice_fits (by omega) (by rw [hz2]; omega))
      refine ⟨_, _, hr, .inr ⟨_, grownCap (W.alloc (.cells #[.int .i64 x] 3)) (l.length + 1) cap 3, _, by simp, ?_, heap_alloc_new _ _, ?_, ?_, ?_, ?_, ?_⟩, ?_⟩
      · show base ≤ (W.alloc _).heap.size
        simp; omega
      · simpa using grownCap_ge _ (l.length + 1) cap _
      · exact grownCap_le_maxLen _ (l.length + 1) cap _ (by simp [maxLen]; omega)
      · have := grownCap_ge (W.alloc (.cells #[.int .i64 x] 3)) (l.length + 1) cap 3
        simp only [Array.size_append, List.size_toArray, size_zeroCells]
        simp [Value.cells]
        omega
      · rw [Array.toList_append, Array.toList_append]
        have e : (l.map (Value.int .i64) ++ [Value.int .i64 x]).length = l.length + 1 := by simp
        show List.take (l ++ [x]).length (l.map (Value.int .i64) ++ [Value.int .i64 x] ++ _) = _
        rw [List.length_append, List.map_append]
        show List.take (l.length + 1) _ = _
        rw [← e]
        exact List.take_left
      · intro u hu
        rw [Array.toList_append, Array.toList_append] at hu
        simp only [List.mem_append] at hu
        rcases hu with (hu | hu) | hu
        · obtain ⟨m, _, rfl⟩ := List.mem_map.1 hu
          exact ⟨m, rfl⟩
        · exact ⟨x, by simpa using hu⟩
        · exact zero_is _ u hu
      · exact hgr.trans (drewAlloc _ _ _)
theorem OwnN.blk {w : World} {base : Nat} {v : Value} {l : List Int} (h : OwnN w base v l) (k : Nat) (hk : v.ownBlock = some k) : base ≤ k ∧ ∃ cur, w.heap[k]? = some (.cells cur 3 (0, 0)) := by
  rcases h with ⟨rfl, _⟩ | ⟨g, cap, cur, rfl, hb, hh, _⟩
  · cases hk
  · injection hk with hk
    change g = k at hk
    subst hk
    exact ⟨hb, cur, hh⟩
theorem TreeB.app {w w' : World} {p B base : Nat} {T : Tr} {v : Value} {l : List Int} (h : TreeB w p B T) (hN : OwnN w base v l) (hg : w.grownBy w' v.ownBlock) : TreeB w' p B T := by
  cases hk : v.ownBlock with
  | none => rw [hk] at hg; exact h.below ⟨hg.os, hg.tape, hg.output, hg.size, fun k hk => hg.block k hk (by simp)⟩
  | some k =>
    rw [hk] at hg
    obtain ⟨_, cur, hc⟩ := hN.blk k hk
    obtain ⟨hp, es, clock, hB⟩ := h.two
    refine h.but ⟨hg, hN.noS k hk⟩ ?_ ?_
    · rintro rfl
      rw [hp] at hc
      injection hc with hc
      injection hc with _ hc
      exact absurd hc (by decide)
    · rintro rfl
      rw [hB] at hc
      cases hc
theorem RAt.app {w w' : World} {base : Nat} {u v : Value} {L : List RN} {last : Int} {l : List Int} (h : RAt w u L last) (hN : OwnN w base v l) (hg : w.grownBy w' v.ownBlock) : RAt w' u L last := by
  cases hk : v.ownBlock with
  | none => rw [hk] at hg; exact h.below ⟨hg.os, hg.tape, hg.output, hg.size, fun k hk => hg.block k hk (by simp)⟩
  | some k => rw [hk] at hg; exact h.but ⟨hg, hN.noS k hk⟩
theorem cells_app {w w' : World} {base k : Nat} {v : Value} {l : List Int} {cs : Array Value} {t : TypeId} {fr : Nat × Nat} (h : w.heap[k]? = some (.cells cs t fr)) (ht : t ≠ 3) (hN : OwnN w base v l) (hg : w.grownBy w' v.ownBlock) : w'.heap[k]? = some (.cells cs t fr) := by
  refine (hg.block k (blk_lt h) (fun e => ?_)).trans h
  obtain ⟨_, cur, hc⟩ := hN.blk k e.symm
  rw [h] at hc
  injection hc with hc
  injection hc with _ hc
  exact ht hc
theorem below_app {w0 w w' : World} {base : Nat} {v : Value} {l : List Int} (hB : Below base w0 w) (hN : OwnN w base v l) (hb : base ≤ w.heap.size) (hg : w.grownBy w' v.ownBlock) : Below base w0 w' := hB.grown hg hb (fun k hk => (hN.blk k hk).1)
theorem two_set {w : World} {k : Nat} {v0 v1 u0 u1 : Value} {t : TypeId} (h : w.heap[k]? = some (.cells #[v0, v1] t (0, 0))) : ((w.setCell ⟨k, 0, none⟩ u0).setCell ⟨k, 1, none⟩ u1).heap[k]? = some (.cells #[u0, u1] t (0, 0)) := by
  have k1 : (w.setCell ⟨k, 0, none⟩ u0).heap[k]? = some (.cells #[u0, v1] t (0, 0)) := by rw [setCell_eq_setRow w _ 0 _ _ _ _ h, setRow_heap w _ _ _ _ _ h]; rfl
  rw [setCell_eq_setRow _ _ 1 _ _ _ _ k1, setRow_heap _ _ _ _ _ _ k1]; rfl
section
variable {ops : Array Oper} {rest : List Oper} {o : Oper} {a : Act} {Q : Exit → Act → World → Prop}
/-- An append to such a row, as the walk meets it. -/
theorem wpList_append_ints {W : World} (hgd : o.guard = none) (s x : Operand) (ho : o.op = .call { callee := .builtin .append, args := #[s, x], argTypes := #[91, 91] }) (base : Nat) (v : Value) (l : List Int) (n : Int) (hs : a.eval s = v) (hx : a.eval x = .slice (some ⟨W.heap.size, 0, none⟩) 1 1)
    (HO : OwnN W base v l) (hb : base ≤ W.heap.size) (hl : l.length < 1000000)
    (h : ∀ v' w', OwnN w' base v' (l ++ [n]) → W.grownBy w' v.ownBlock → wpList Try.prog ops Q rest (a.put o.dst v') w') :
    wpList Try.prog ops Q (o :: rest) a (W.alloc (.cells #[.int .i64 n] 3)) := by
  obtain ⟨v', w', hr, h2, h3⟩ := HO.append n o.type hb hl
  refine wpList_plain hgd fun K hK => ?_
  have hw := h v' w' h2 h3
  unfold Oper.wp execOp
  simp only [ho, resolve, invoke, builtin, Sem.run_bind, Sem.run_pure, Result.andThen_ok, List.map_toArray, List.map_cons, List.map_nil, hs, hx, hr]
  exact hK _ _ hw
end
end Go.Proofs.Ytjfigngmpagloaa.Tw

namespace Go.Proofs.Ytjfigngmpagloaa.Tw
open Go Go.RowKit Go.Shelf Go.Proofs Go.Proofs.Ytjfigngmpagloaa Go.Proofs.YtjfigngmpagloaaW.PrintWords Go.Proofs.Ytjfigngmpagloaa.Ext Go.Proofs.Ytjfigngmpagloaa.X Go.Proofs.Ytjfigngmpagloaa.Pu
set_option linter.unusedVariables false
set_option linter.unusedSimpArgs false
/-- The state of Made's loop: the tree at p and B, the reference's in cell r, the numbers in v6; the result's cell at b. -/
structure MW (w wr : World) (p B r : Nat) (v6 : Value) (st : MSt) : Prop where
  hb : Below w.heap.size w wr
  tree : TreeB wr p B (trOf st.L st.last)
  hp : w.heap.size ≤ p
  hB : w.heap.size ≤ B
  hr : w.heap.size < r
  cell : ∃ A c, wr.heap[r]? = some (.cells #[.slice A st.L.length c, .int .i64 st.last] 28 (0, 0)) ∧ st.L.length ≤ c ∧ Kd.C k97 wr A st.L.length st.L
  nums : OwnN wr w.heap.size v6 st.nums
  res : wr.heap[w.heap.size]? = some (.cells #[.slice none 0 0, .int .i64 0] 28 (0, 0))
theorem made_round {w w8 w9 : World} {p B r : Nat} {A7 : Option Addr} {c7 : Nat} {L7 : List RN} {n7 : Int} {v : Value} {l : List Int} {T : Tr}
    (F : TreeB w8 p B T ∧ RAt w8 (.agg #[.slice A7 L7.length c7, .int .i64 n7]) L7 n7 ∧ OwnN w8 w.heap.size v l ∧ w8.heap[w.heap.size]? = some (.cells #[.slice none 0 0, .int .i64 0] 28 (0, 0)) ∧ w8.heap[r]? = some (.cells #[.slice A7 L7.length c7, .int .i64 n7] 28 (0, 0)) ∧ Below w.heap.size w w8) (hle : L7.length ≤ c7) (hg : w8.grownBy w9 v.ownBlock) :
    Below w.heap.size w w9 ∧ TreeB w9 p B T ∧ w9.heap[r]? = some (.cells #[.slice A7 L7.length c7, .int .i64 n7] 28 (0, 0)) ∧ L7.length ≤ c7 ∧ Kd.C k97 w9 A7 L7.length L7 ∧ w9.heap[w.heap.size]? = some (.cells #[.slice none 0 0, .int .i64 0] 28 (0, 0)) := by
  obtain ⟨hT, hR, hN, hS, hc, hB⟩ := F
  obtain ⟨A', c', e, h1, h2⟩ := hR.app hN hg
  simp only [Value.agg.injEq, Array.mk.injEq, List.cons.injEq, Value.slice.injEq, true_and, and_true] at e
  obtain ⟨rfl, rfl⟩ := e
  exact ⟨below_app hB hN hB.size hg, hT.app hN hg, cells_app hc (by decide) hN hg, h1, h2, cells_app hS (by decide) hN hg⟩
set_option maxHeartbeats 2000000 in
set_option maxRecDepth 1000000 in
theorem made_calls (A : Option Addr) (c : Nat) (l : List MN) (w : World) (hC : Kd.C k89 w A l.length l) (hc : l.length ≤ c) (hl : l.length ≤ 60) (hs : ∀ x ∈ l, x.f1.size < 4294967281) :
    Calls Try.prog 12 #[.slice A l.length c] w fun e w' => ∃ p B v, e = .returned (.tuple #[pT p, v]) ∧ TreeB w' p B (trOf (madeF l).L (madeF l).last) ∧ RAt w' v (madeF l).L (madeF l).last ∧ Below w.heap.size w w' ∧ w.heap.size ≤ p ∧ w.heap.size ≤ B := by
  have HC := Lib.hid hC
  have HS := Lib.hid hs
  have HN := Lib.hid (fun W => new_calls W)
  have HRN := Lib.hid (fun W => linhayref07_New.calls [⟨1, 1, ⟨#[]⟩, 1, ⟨#[]⟩⟩] 1 W rfl)
  clear hC hs
  go_enter Try.func12, Try.ntmps12
  go_wp2_with (first | (go_at_call 45; refine (HN.out _).mono ?_; rintro e w2 ⟨p, B, rfl, hT2, hb2, hp2, hB2⟩) | (go_at_call 43; refine (HRN.out _).mono ?_; rintro e w3 ⟨v3, rfl, ho3, hb3⟩; obtain ⟨A3, c3, rfl, hle3, hC3⟩ := Kd.R_reads ho3))
  have hM0 : MW w ((w3.alloc (.cells #[.slice A3 1 c3, .int .i64 1] 28)).alloc (.cells #[] 3)) p B w3.heap.size (.slice (some ⟨w3.heap.size + 1, 0, none⟩) 0 0) made0 := by
    have hb0 := (Below.refl w.heap.size w).alloc (Nat.le_refl _) (.cells #[.slice none 0 0, .int .i64 0] 28)
    have hsz0 : w.heap.size + 1 = (w.alloc (.cells #[.slice none 0 0, .int .i64 0] 28)).heap.size := by simp
    have hbA := below_two w3 (.cells #[.slice A3 1 c3, .int .i64 1] 28) (.cells #[] 3)
    have hb3' : Below w.heap.size w w3 := (hb0.trans (hb2.mono (by omega))).trans (hb3.mono (Nat.le_trans (by omega) hb2.size))
    have hle : w.heap.size + 1 ≤ w3.heap.size := Nat.le_trans (Nat.le_trans (by omega) hb2.size) hb3.size
    have h1 := heap_alloc_new w (.cells #[.slice none 0 0, .int .i64 0] 28)
    refine ⟨hb3'.trans (hbA.mono hb3'.size), by
      have := (hT2.below hb3).below hbA
      rw [T0_eq] at this
      exact this, by omega, by omega, by omega, ⟨A3, c3, ?_, hle3, Kd.C_below hC3 hbA⟩, ?_, ?_⟩
    · exact (((Below.refl _ (w3.alloc (.cells #[.slice A3 1 c3, .int .i64 1] 28))).alloc (Nat.le_refl _) (.cells #[] 3)).block w3.heap.size (by simp)).trans (heap_alloc_new w3 _)
    · have := OwnN.made (w3.alloc (.cells #[.slice A3 1 c3, .int .i64 1] 28)) w.heap.size (by simp; omega)
      simpa [made0] using this
    · exact (hbA.block _ (by omega)).trans ((hb3.block _ (by have := hb2.size; omega)).trans ((hb2.block _ (by omega)).trans h1))
  have HM0 := Aside0.mk hM0
  clear hM0 hb2 hb3 hT2 hp2 hB2 ho3 hle3 hC3
  go_loopw [6, 7] (fun v6 v7 wr => ∃ i : Nat, v7 = .int .i64 (i : Int) ∧ i ≤ l.length ∧ MW w wr p B w3.heap.size v6 ((l.take i).foldl madeStep made0) ∧ MInv ((l.take i).foldl madeStep made0) i) (fun _ v _ => l.length - (intOf v).toNat)
  case atStart => exact ⟨0, rfl, Nat.zero_le _, HM0.out, minv0⟩
  case round =>
    obtain ⟨i, rfl, hi, hM, hI⟩ := hrel
    have HM := Aside0.mk hM
    have HI := Aside0.mk hI
    by_cases hlt : i < l.length
    · obtain ⟨ad, eA, a0, a1, a2, a3⟩ := at_T89 (Kd.C_below HC.out hM.hb) (i : Int) (by omega) (by omega)
      have hrd : rd_T89 l (i : Int) = l[i] := by simp [rd_T89, hlt]
      rw [hrd] at a0 a1 a2 a3
      rw [Int.toNat_natCast] at a0 a1 a2 a3
      subst eA
      have hsz := HS.out l[i] (List.getElem_mem hlt)
      have htk : (l.take (i + 1)).foldl madeStep made0 = madeStep ((l.take i).foldl madeStep made0) l[i] := by
        rw [List.take_succ_eq_append_getElem hlt, List.foldl_append]; rfl
      have HTK := Lib.hid htk
      have HRD := Lib.hid hrd
      clear htk hrd
      generalize (l.take i).foldl madeStep made0 = st at *
      generalize l[i] = x at *
      obtain ⟨A5, c5, hcl, hle5, hC5⟩ := hM.cell
      obtain ⟨A6, c6, rfl, hle6, hC6⟩ := Kd.R_reads hM.nums.toR
      have hlen := hI.len
      have hlt' : (i : Int) < (l.length : Int) := by omega
      have hi0 : (0 : Int) ≤ (i : Int) := by omega
      have HCL := Aside0.mk (And.intro hcl (And.intro hle5 hC5))
      have HARG := Lib.hid (fun (W : World) (h : Below w.heap.size w W) => show W.cell? ⟨(ad.add (i * 4)).block, (ad.add (i * 4)).off + 1, none⟩ = some (.string x.f1) ∧ W.cell? ⟨(ad.add (i * 4)).block, (ad.add (i * 4)).off + 2, none⟩ = some (.int .i64 x.f2) ∧ W.cell? ⟨(ad.add (i * 4)).block, (ad.add (i * 4)).off + 3, none⟩ = some (.string x.f3) by
        obtain ⟨ad', e', b0, b1, b2, b3⟩ := at_T89 (Kd.C_below HC.out h) (i : Int) hi0 hlt'
        cases e'
        rw [Int.toNat_natCast, HRD.out] at b0 b1 b2 b3
        exact ⟨b1, b2, b3⟩)
      have hdin := dirAt_in HI.out x
      have hla : st.last < 1000000 := by have := HI.out.last; omega
      have HPT := Lib.hid (fun W h => tput_calls p B st.L st.last (dirAt st.nums x) x.f1 x.f2 x.f3 W h HI.out.good (wf_of (by omega)) hsz hla)
      have HRP := Lib.hid (fun v W h => rput_calls st.L st.last (dirAt st.nums x) v x.f1 x.f2 x.f3 W h HI.out.good hla)
      have HSTEP := Lib.hid (show madeStep st x = ⟨putL st.L st.last (dirAt st.nums x) x.f1 x.f2 x.f3, putN st.L st.last (dirAt st.nums x) x.f1 x.f2 x.f3, st.nums ++ [putA st.L st.last (dirAt st.nums x) x.f1 x.f2 x.f3]⟩ from rfl)
      have hdir0 : dirAt st.nums x = (if 0 ≤ x.f0 ∧ x.f0 < (i : Int) then st.nums.getD x.f0.toNat 0 else 1) := by
        unfold dirAt; rw [hlen]
      generalize putL st.L st.last (dirAt st.nums x) x.f1 x.f2 x.f3 = L7 at HPT HRP HSTEP
      generalize putN st.L st.last (dirAt st.nums x) x.f1 x.f2 x.f3 = n7 at HPT HRP HSTEP
      generalize putA st.L st.last (dirAt st.nums x) x.f1 x.f2 x.f3 = m7 at HPT HRP HSTEP
      generalize putRE st.L (dirAt st.nums x) x.f1 x.f2 x.f3 = e7 at HPT HRP
      have HNL := Lib.hid hlen
      by_cases hd : 0 ≤ x.f0 ∧ x.f0 < (i : Int)
      case' pos =>
        obtain ⟨d0, d1⟩ := hd
        obtain ⟨a6, eA6, n0⟩ := Kd.at_int hC6 x.f0 d0 (by omega)
        have hdir : dirAt st.nums x = rd st.nums x.f0 := by
          rw [hdir0, if_pos ⟨d0, d1⟩]; rfl
        have d2 : x.f0 < (st.nums.length : Int) := by omega
        rw [← hdir] at n0
        subst eA6
        clear hdir
      case' neg =>
        have hdir : dirAt st.nums x = 1 := by rw [hdir0, if_neg hd]
        rw [hdir] at HPT HRP
        have hd2 : x.f0 < 0 ∨ ((0 : Int) ≤ x.f0 ∧ (i : Int) ≤ x.f0) := by omega
        clear hdir hd
        rcases hd2 with hd2 | ⟨hd2, hd3⟩
      all_goals
        clear hM hI hcl hle5 hC5 hC6 hdin hla hsz hlen hdir0
        go_upto_region 9 with (fail)
        go_region_held3 (fun w' => w'.cell? ⟨(ad.add (i * 4)).block, (ad.add (i * 4)).off + 1, none⟩ = some (.string x.f1) ∧ w'.cell? ⟨(ad.add (i * 4)).block, (ad.add (i * 4)).off + 2, none⟩ = some (.int .i64 x.f2) ∧ w'.cell? ⟨(ad.add (i * 4)).block, (ad.add (i * 4)).off + 3, none⟩ = some (.string x.f3)) (first | (go_keep; done) | exact HA5.out)
          ((go_at_call 46; refine (HPT.out _ (by first | exact HM.out.tree | exact HM.out.tree.drew | exact HM.out.tree.below (pw_below_drewN (Below.refl _ _) _))).mono ?_; rintro e w5 ⟨rfl, hT5, hf5⟩; have hf5' : Frm wr w5 p B := (by first | exact hf5 | exact (Frm.ofBelow (below_drew (Below.refl _ wr))).trans hf5 | exact (Frm.ofBelow (pw_below_drewN (Below.refl _ wr) _)).trans hf5); have HB5 := Aside0.mk (HM.out.hb.trans (Frm.below hf5' HM.out.hb.size HM.out.hp HM.out.hB)); have HA5 := Lib.hid (HARG.out w5 HB5.out)))
        obtain ⟨hcl, hle5, hC5⟩ := HCL.out
        have hcl5 := cells_frm hcl (by decide) HM.out.tree hf5'
        have hR5 : RAt w5 (.agg #[.slice A5 st.L.length c5, .int .i64 st.last]) st.L st.last := RAt.frm ⟨A5, c5, rfl, hle5, hC5⟩ HM.out.tree hf5'
        have hN5 := HM.out.nums.frm HM.out.tree hf5'
        have hS5 := cells_frm HM.out.res (by decide) HM.out.tree hf5'
        have r0 : w5.cell? ⟨w3.heap.size, 0, none⟩ = some (.slice A5 st.L.length c5) := by rw [blk_cell hcl5]; rfl
        have r1 : w5.cell? ⟨w3.heap.size, 1, none⟩ = some (.int .i64 st.last) := by rw [blk_cell hcl5]; rfl
        obtain ⟨b1, b2, b3⟩ := HA5.out
        have hrlt : w3.heap.size < w5.heap.size := blk_lt hcl5
        have HK5 := Lib.hid (fun (W : World) (h : Below w5.heap.size w5 W) => show W.cell? ⟨w3.heap.size, 0, none⟩ = some (.slice A5 st.L.length c5) ∧ W.cell? ⟨w3.heap.size, 1, none⟩ = some (.int .i64 st.last) ∧ W.cell? ⟨(ad.add (i * 4)).block, (ad.add (i * 4)).off + 1, none⟩ = some (.string x.f1) ∧ W.cell? ⟨(ad.add (i * 4)).block, (ad.add (i * 4)).off + 2, none⟩ = some (.int .i64 x.f2) ∧ W.cell? ⟨(ad.add (i * 4)).block, (ad.add (i * 4)).off + 3, none⟩ = some (.string x.f3) from ⟨pw_cell_below h r0, pw_cell_below h r1, pw_cell_below h b1, pw_cell_below h b2, pw_cell_below h b3⟩)
        have HF5 := Aside0.mk (And.intro hcl5 (And.intro hR5 (And.intro hN5 (And.intro hS5 hT5))))
        have HP := Aside0.mk (And.intro HM.out.hp (And.intro HM.out.hB HM.out.hr))
        clear hcl hle5 hC5 hcl5 hR5 hN5 hS5 hT5 hf5 hf5' HM HCL HARG HA5 HPT a0 a1 a2 a3
        go_upto_region 10 with (fail)
        go_region_held3 (fun w' => w'.cell? ⟨w3.heap.size, 0, none⟩ = some (.slice A5 st.L.length c5) ∧ w'.cell? ⟨w3.heap.size, 1, none⟩ = some (.int .i64 st.last) ∧ w'.cell? ⟨(ad.add (i * 4)).block, (ad.add (i * 4)).off + 1, none⟩ = some (.string x.f1) ∧ w'.cell? ⟨(ad.add (i * 4)).block, (ad.add (i * 4)).off + 2, none⟩ = some (.int .i64 x.f2) ∧ w'.cell? ⟨(ad.add (i * 4)).block, (ad.add (i * 4)).off + 3, none⟩ = some (.string x.f3)) (first | (go_keep; done) | exact HK5.out _ hb56 | exact HK5.out _ (hb56.alloc hb56.size _) | exact HK5.out _ (hb56.setCell (p := ⟨w5.heap.size, 0, none⟩) (Nat.le_refl _) _) | exact HK5.out _ ((hb56.setCell (p := ⟨w5.heap.size, 0, none⟩) (Nat.le_refl _) _).setCell (p := ⟨w5.heap.size, 1, none⟩) (Nat.le_refl _) _))
          ((go_at_call 47; refine (HRP.out _ _ (by first | exact HF5.out.2.1 | exact HF5.out.2.1.below (below_drew (Below.refl _ _)) | exact HF5.out.2.1.below (below_drew ((Below.refl _ w5).alloc (Nat.le_refl _) _)) | exact HF5.out.2.1.below ((Below.refl _ w5).alloc (Nat.le_refl _) _) | exact HF5.out.2.1.below (pw_below_drewN (Below.refl _ _) _) | exact HF5.out.2.1.below (pw_below_drewN ((Below.refl _ w5).alloc (Nat.le_refl _) _) _))).mono ?_; rintro e w6 ⟨v', rfl, ⟨A7, c7, rfl, hle7, hC7⟩, hb6⟩; have hb56 : Below w5.heap.size w5 w6 := (by first | exact (below_drew (Below.refl _ w5)).trans hb6 | exact (below_drew ((Below.refl _ w5).alloc (Nat.le_refl _) _)).trans (hb6.mono (by simp)) | exact (pw_below_drewN (Below.refl _ w5) _).trans hb6 | exact (pw_below_drewN ((Below.refl _ w5).alloc (Nat.le_refl _) _) _).trans (hb6.mono (by simp))); have HC7 := Aside0.mk hC7; clear hC7; (first | (have h9 := (hb6.block w5.heap.size (by simp)).trans (heap_alloc_new w5 _); have x90 : w6.cell? ⟨w5.heap.size, 0, none⟩ = some (.slice none 0 0) := (by rw [blk_cell h9]; rfl); have x91 : w6.cell? ⟨w5.heap.size, 1, none⟩ = some (.int .i64 0) := (by rw [blk_cell h9]; rfl); have f90 := blk_frozen h9 0; have f91 := blk_frozen h9 1; have H9 := Aside0.mk h9; clear h9) | skip)))
        all_goals first
          | (have h9' := H9.out; have hR7 : RAt ((w6.setCell ⟨w5.heap.size, 0, none⟩ (.slice A7 L7.length c7)).setCell ⟨w5.heap.size, 1, none⟩ (.int .i64 n7)) (.agg #[.slice A7 L7.length c7, .int .i64 n7]) L7 n7 := RAt.but ⟨A7, c7, rfl, hle7, HC7.out⟩ (but_two h9' (by simp) (by simp)); have hb57 : Below w5.heap.size w5 ((w6.setCell ⟨w5.heap.size, 0, none⟩ (.slice A7 L7.length c7)).setCell ⟨w5.heap.size, 1, none⟩ (.int .i64 n7)) := (hb56.setCell (p := ⟨w5.heap.size, 0, none⟩) (Nat.le_refl _) _).setCell (p := ⟨w5.heap.size, 1, none⟩) (Nat.le_refl _) _; have h7 := two_set (u0 := .slice A7 L7.length c7) (u1 := .int .i64 n7) h9'; have hgr : w3.heap.size < w5.heap.size := hrlt; clear x90 x91 f90 f91 H9 h9'; generalize (w6.setCell ⟨w5.heap.size, 0, none⟩ (.slice A7 L7.length c7)).setCell ⟨w5.heap.size, 1, none⟩ (.int .i64 n7) = w7 at hR7 hb57 h7 ⊢; generalize w5.heap.size = g at h7 hgr ⊢)
          | (have hb57 : Below w5.heap.size w5 (w6.alloc (.cells #[.slice A7 L7.length c7, .int .i64 n7] 28)) := hb56.alloc hb56.size _; have hR7 : RAt (w6.alloc (.cells #[.slice A7 L7.length c7, .int .i64 n7] 28)) (.agg #[.slice A7 L7.length c7, .int .i64 n7]) L7 n7 := RAt.below ⟨A7, c7, rfl, hle7, HC7.out⟩ ((Below.refl _ w6).alloc (Nat.le_refl _) _); have h7 := heap_alloc_new w6 (.cells #[.slice A7 L7.length c7, .int .i64 n7] 28); have hgr : w3.heap.size < w6.heap.size := Nat.lt_of_lt_of_le hrlt hb56.size; generalize w6.alloc (.cells #[.slice A7 L7.length c7, .int .i64 n7] 28) = w7 at hR7 hb57 h7 ⊢; generalize w6.heap.size = g at h7 hgr ⊢)
        all_goals
          obtain ⟨hcl5, hR5, hN5, hS5, hT5⟩ := HF5.out
          have hcl7 := (hb57.block _ hrlt).trans hcl5
          have hS7 := (hb57.block _ (blk_lt hS5)).trans hS5
          have hN7 := hN5.below hb57
          have hT7 := hT5.below hb57
          have hB7 := HB5.out.trans (hb57.mono HB5.out.size)
          have y0 : w7.cell? ⟨g, 0, none⟩ = some (.slice A7 L7.length c7) := by rw [blk_cell h7]; rfl
          have y1 : w7.cell? ⟨g, 1, none⟩ = some (.int .i64 n7) := by rw [blk_cell h7]; rfl
          have z0 : w7.cell? ⟨w3.heap.size, 0, none⟩ = some (.slice A5 st.L.length c5) := by rw [blk_cell hcl7]; rfl
          have z1 : w7.cell? ⟨w3.heap.size, 1, none⟩ = some (.int .i64 st.last) := by rw [blk_cell hcl7]; rfl
          have f0 := blk_frozen hcl7 0
          have f1 := blk_frozen hcl7 1
          have hgne : g ≠ w3.heap.size := by omega
          have hpne : p ≠ w3.heap.size := by
            rintro rfl
            have h1 := hcl7
            rw [hT7.two.1] at h1
            injection h1 with h1
            injection h1 with _ h1
            exact absurd h1 (by decide)
          have hBne : B ≠ w3.heap.size := by
            rintro rfl
            have h1 := hcl7
            obtain ⟨_, es, ck, h2⟩ := hT7.two
            rw [h2] at h1
            cases h1
          have hbut := but_two (u0 := .slice A7 L7.length c7) (u1 := .int .i64 n7) hcl7 (by simp) (by simp)
          have hT8 := hT7.but hbut hpne hBne
          have hR8 := RAt.but hR7 hbut
          have hN8 := hN7.but hcl7 (by decide) hbut
          have hS8 := (hbut.g.block _ (blk_lt hS7) (fun e => by have := Option.some.inj e; have := HP.out.2.2; omega)).trans hS7
          have hcl8 := two_set (u0 := .slice A7 L7.length c7) (u1 := .int .i64 n7) hcl7
          have hB8 := (hB7.setCell (p := ⟨w3.heap.size, 0, none⟩) (Nat.le_of_lt HP.out.2.2) (.slice A7 L7.length c7)).setCell (p := ⟨w3.heap.size, 1, none⟩) (Nat.le_of_lt HP.out.2.2) (.int .i64 n7)
          have F8 := Aside0.mk (And.intro hT8 (And.intro hR8 (And.intro hN8 (And.intro hS8 (And.intro hcl8 hB8)))))
          clear hcl5 hR5 hN5 hS5 hT5 hS7 hN7 hT7 hT8 hR8 hN8 hS8 hcl8 hB8 hbut hcl7 h7 hR7 hb57 hB7 hpne hBne hb6 HC7 r0 r1 b1 b2 b3 HF5 HK5
          go_upto_region 12 with (fail)
          generalize (w7.setCell ⟨w3.heap.size, 0, none⟩ (.slice A7 L7.length c7)).setCell ⟨w3.heap.size, 1, none⟩ (.int .i64 n7) = w8 at F8 ⊢
          clear y0 y1 z0 z1 f0 f1
          go_wp2_with ((with_reducible refine gate_builtin (b := .append) (xs := #[.tmp 85, .tmp 87]) rfl ?_); at_builtin; refine wpList_append_ints rfl (.tmp 85) (.tmp 87) rfl w.heap.size _ st.nums m7 rfl rfl F8.out.2.2.1 F8.out.2.2.2.2.2.size (by have := HNL.out; omega) ?_; intro v9 w9 ho9 hg9)
          have HO9 := Aside0.mk ho9
          have F9 := made_round F8.out hle7 hg9
          have HF9 := Aside0.mk F9
          clear ho9 hg9 F9
          go_roundw
          case rel =>
            refine ⟨i + 1, by go_num, hlt, ?_, ?_⟩
            · rw [HTK.out, HSTEP.out]
              obtain ⟨g1, g2, g3, g4, g5, g6⟩ := HF9.out
              exact ⟨g1, g2, HP.out.1, HP.out.2.1, HP.out.2.2, ⟨A7, c7, g3, g4, g5⟩, HO9.out, g6⟩
            · rw [HTK.out]; exact minv_step HI.out x
          case measure => simp [intOf]; omega
    · obtain rfl : i = l.length := by omega
      rw [List.take_length] at hM hI
      obtain ⟨A5, c5, hcl, hle5, hC5⟩ := hM.cell
      change wr.heap[w3.heap.size]? = some (.cells #[.slice A5 (madeF l).L.length c5, .int .i64 (madeF l).last] _ (0, 0)) at hcl
      change (madeF l).L.length ≤ c5 at hle5
      change Kd.C _ wr A5 (madeF l).L.length (madeF l).L at hC5
      have HT := Aside0.mk (show TreeB wr p B (trOf (madeF l).L (madeF l).last) from hM.tree)
      have HX := Aside0.mk (And.intro hle5 hC5)
      have HP := Aside0.mk (And.intro hM.hp hM.hB)
      have HBB := Aside0.mk hM.hb
      have HRES := Aside0.mk hM.res
      have x0 : wr.cell? ⟨w3.heap.size, 0, none⟩ = some (.slice A5 (madeF l).L.length c5) := by rw [blk_cell hcl]; rfl
      have x1 : wr.cell? ⟨w3.heap.size, 1, none⟩ = some (.int .i64 (madeF l).last) := by rw [blk_cell hcl]; rfl
      have y0 : wr.cell? ⟨w.heap.size, 0, none⟩ = some (.slice none 0 0) := by rw [blk_cell hM.res]; rfl
      have y1 : wr.cell? ⟨w.heap.size, 1, none⟩ = some (.int .i64 0) := by rw [blk_cell hM.res]; rfl
      have f0 := blk_frozen hM.res 0
      have f1 := blk_frozen hM.res 1
      have hbut := but_two (u0 := .slice A5 (madeF l).L.length c5) (u1 := .int .i64 (madeF l).last) hM.res (by simp) (by simp)
      have hpne : p ≠ w.heap.size := by
        rintro rfl
        have h1 := hM.res
        rw [hM.tree.two.1] at h1
        injection h1 with h1
        injection h1 with _ h1
        exact absurd h1 (by decide)
      have hBne : B ≠ w.heap.size := by
        rintro rfl
        have h1 := hM.res
        obtain ⟨_, es, ck, h2⟩ := hM.tree.two
        rw [h2] at h1
        cases h1
      have hT9 := HT.out.but hbut hpne hBne
      have hR9 : RAt ((wr.setCell ⟨w.heap.size, 0, none⟩ (.slice A5 (madeF l).L.length c5)).setCell ⟨w.heap.size, 1, none⟩ (.int .i64 (madeF l).last)) (.agg #[.slice A5 (madeF l).L.length c5, .int .i64 (madeF l).last]) (madeF l).L (madeF l).last := RAt.but ⟨A5, c5, rfl, hle5, hC5⟩ hbut
      have hB9 : Below w.heap.size w ((wr.setCell ⟨w.heap.size, 0, none⟩ (.slice A5 (madeF l).L.length c5)).setCell ⟨w.heap.size, 1, none⟩ (.int .i64 (madeF l).last)) := (hM.hb.setCell (Nat.le_refl _) _).setCell (Nat.le_refl _) _
      have k2 : ((wr.setCell ⟨w.heap.size, 0, none⟩ (.slice A5 (madeF l).L.length c5)).setCell ⟨w.heap.size, 1, none⟩ (.int .i64 (madeF l).last)).heap[w.heap.size]? = some (.cells #[.slice A5 (madeF l).L.length c5, .int .i64 (madeF l).last] 28 (0, 0)) := by
        have k1 : (wr.setCell ⟨w.heap.size, 0, none⟩ (.slice A5 (madeF l).L.length c5)).heap[w.heap.size]? = some (.cells #[.slice A5 (madeF l).L.length c5, .int .i64 0] 28 (0, 0)) := by rw [setCell_eq_setRow wr _ 0 _ _ _ _ hM.res, setRow_heap wr _ _ _ _ _ hM.res]; rfl
        rw [setCell_eq_setRow _ _ 1 _ _ _ _ k1, setRow_heap _ _ _ _ _ _ k1]; rfl
      have FIN := Aside0.mk (And.intro hT9 (And.intro hR9 (And.intro hB9 (And.intro k2 (And.intro hM.hp hM.hB)))))
      clear hM hI hcl hle5 hC5 hbut hpne hBne hT9 hR9 hB9 k2 HT HX HP HBB HRES
      go_wp2
      go_region
      go_wp2
      obtain ⟨hT9, hR9, hB9, k2, hp9, hBB9⟩ := FIN.out
      generalize (wr.setCell ⟨w.heap.size, 0, none⟩ (.slice A5 (madeF l).L.length c5)).setCell ⟨w.heap.size, 1, none⟩ (.int .i64 (madeF l).last) = w9 at hT9 hR9 hB9 k2 ⊢
      have c0 : w9.cell? ⟨w.heap.size, 0, none⟩ = some (.slice A5 (madeF l).L.length c5) := by rw [blk_cell k2]; rfl
      have c1 : w9.cell? ⟨w.heap.size, 1, none⟩ = some (.int .i64 (madeF l).last) := by rw [blk_cell k2]; rfl
      have hu := Try.underlying28
      refine bodyPost_ret (v := .tuple #[pT p, .agg #[.slice A5 (madeF l).L.length c5, .int .i64 (madeF l).last]]) (by simp [results, Try.results12, go_sem, c0, c1, hu]) rfl ⟨p, B, _, rfl, hT9.drew, hR9.below (below_drew (Below.refl _ _)), below_drew hB9, hp9, hBB9⟩
end Go.Proofs.Ytjfigngmpagloaa.Tw

namespace Go.Proofs.Ytjfigngmpagloaa.Tw
open Go Go.RowKit Go.Shelf Go.Proofs Go.Proofs.Ytjfigngmpagloaa Go.Proofs.YtjfigngmpagloaaW.PrintWords Go.Proofs.Ytjfigngmpagloaa.Ext Go.Proofs.Ytjfigngmpagloaa.X Go.Proofs.Ytjfigngmpagloaa.Pu
set_option linter.unusedVariables false
set_option linter.unusedSimpArgs false
def spotRF (L : List RN) (last : Int) (k : Nat) (s : ByteArray) : Option R3 :=
  if beginE s = 0 then
    match (partsB s).getLast? with
    | none => some (noS 6)
    | some z => if z.toList = [46, 46] then some (noS 6) else (linhayref08_Go.f k L last 1 (partsB s).dropLast true 0).bind fun r =>
        if r.2.2 = 0 then (if (atR L r.1).f3 = 1 then (if Sp.check z.data.toList = 0 then some (r.1, z, 0) else some (noS (Sp.check z.data.toList))) else some (noS 7)) else some (noS r.2.2)
  else some (noS (beginE s))
theorem cutH (ad : Addr) (n len c : Nat) (h1 : n ≤ c) :
    ∀ W : World, (Instr.slice 42 (.slice (some ad) len c) none (some (.int .i64 (n : Int))) none).run Try.prog W = .ok (.slice (some ad) n c) W := by
  intro W
  obtain ⟨i0, hi, hz0, hz1, hz2⟩ := info_parts infoS
  have ht := Try.underlying42
  have hel : Try.prog.elem 42 = 9 := by simp [Program.elem, ht]
  have hu : Try.prog.underlying 42 = some (.slice (Try.prog.elem 42)) := by rw [hel]; exact ht
  rw [run_slice_h W 42 (some ad) len c hu .i64 (n : Int) (by omega) (by omega), hel]
  simp [sizeOf, typeInfo, hi, hz1, sliced, Result.andThen]
  intro _
  unfold Addr.add
  split <;> simp_all
theorem spot_both {L : List RN} {last : Int} (hG : GoodL L last) (hM : GoodM L) (s : ByteArray) : ∃ k k2 R, spotF (trOf L last) k s = some R ∧ spotRF L last k2 s = some R := by
  unfold spotF spotRF
  by_cases h0 : beginE s = 0
  · simp only [if_pos h0]
    have hz := (beginE_ok h0).1
    have hpl := partsB_len' s
    cases hl : (partsB s).getLast? with
    | none => exact ⟨0, 0, _, rfl, rfl⟩
    | some z =>
      by_cases hd : z.toList = [46, 46]
      · simp only [if_pos hd]; exact ⟨0, 0, _, rfl, rfl⟩
      · simp only [if_neg hd]
        obtain ⟨k, q, e, h, h1, h2⟩ := go_both hG hM true 40 _ (partsB s).dropLast 1 rfl (by omega) (by rw [List.length_dropLast]; omega)
        obtain ⟨k2, h3⟩ := Ev.rounds h2
        have h1' : walkF (trOf L last) true k 1 0 (partsB s).dropLast = some (q, e) := h1
        have h3' : linhayref08_Go.f k2 L last 1 (partsB s).dropLast true 0 = some (if e = 0 then q else 0, h, e) := h3
        obtain ⟨R, hR⟩ : ∃ R, (if e = 0 then (if (atR L q).f3 = 1 then (if Sp.check z.data.toList = 0 then some (q, z, 0) else some (noS (Sp.check z.data.toList))) else some (noS 7)) else some (noS e)) = some R := by
          repeat' split
          all_goals exact ⟨_, rfl⟩
        refine ⟨k, k2, R, ?_, ?_⟩
        · rw [h1', ← hR]
          simp only [Option.bind_some, node_of hG]
        · rw [h3', ← hR]
          simp only [Option.bind_some]
          by_cases he : e = 0
          · rw [if_pos he, if_pos he, if_pos he]
          · rw [if_neg he, if_neg he]
  · simp only [if_neg h0]; exact ⟨0, 0, _, rfl, rfl⟩
set_option maxHeartbeats 4000000 in
set_option maxRecDepth 1000000 in
theorem rspot_calls (L : List RN) (last : Int) (v : Value) (s : ByteArray) (k : Nat) (R : R3) (w : World) (hV : RAt w v L last) (hl : L.length < 4294967296) (hR : spotRF L last k s = some R) :
    Calls Try.prog 27 #[v, .string s] w fun e w' => e = .returned (.tuple #[.int .i64 R.1, .string R.2.1, .int .i64 R.2.2]) ∧ Below w.heap.size w w' := by
  obtain ⟨A, c, rfl, hc, hC⟩ := hV
  have hu28 := Try.underlying28
  have HB0 := Lib.hid ((Below.refl w.heap.size w).alloc (Nat.le_refl _) (.cells #[.slice A L.length c, .int .i64 last] 28))
  have HBX := Lib.hid (heap_alloc_new w (.cells #[.slice A L.length c, .int .i64 last] 28))
  unfold spotRF at hR
  by_cases h0 : beginE s = 0
  · rw [if_pos h0] at hR
    obtain ⟨hz, hne⟩ := beginE_ok h0
    have b0 : (s.toList == []) = false := by simpa using hne
    have b0' : s.toList.isEmpty = false := by simpa using hne
    have hz' : (s.size : Int) ≤ 1024 := by omega
    obtain ⟨kp, hkp⟩ := Ev.rounds (r04_parts s (by omega))
    have HP := Lib.hid (fun W => linhayref04_Parts.calls kp s (partsB s) W hkp)
    have hpl := partsB_len' s
    generalize partsB s = l at hR HP hpl
    clear h0 hkp hne
    rcases List.eq_nil_or_concat l with rfl | ⟨ini, z, rfl⟩
    · have hR := Option.some.inj hR
      subst hR
      go_enter Try.func27, Try.ntmps27
      go_wp2_with (go_at_call 61; refine (HP.out _).mono ?_; rintro e w3 ⟨v, rfl, ho, hb3⟩; obtain ⟨A3, c3, rfl, hl3, hC3⟩ := Kd.R_reads ho; clear ho hC3)
      go_ret3
      exact ⟨rfl, HB0.out.trans (hb3.mono HB0.out.size)⟩
    · rw [List.concat_eq_append] at *
      rw [List.getLast?_concat, List.dropLast_concat] at hR
      simp only [] at hR
      have hlen : (ini ++ [z]).length = ini.length + 1 := by simp
      have hini : ini.length ≤ 2000 := by simp at hpl; omega
      by_cases hdd : z.toList = [46, 46]
      · rw [if_pos hdd] at hR
        have hR := Option.some.inj hR
        subst hR
        have b2 : (z.toList == [46, 46]) = true := by rw [hdd]; rfl
        clear hdd hC
        go_enter Try.func27, Try.ntmps27
        go_upto_region 6 with (go_at_call 61; refine (HP.out _).mono ?_; rintro e w3 ⟨v, rfl, ho, hb3⟩; obtain ⟨A3, c3, rfl, hl3, hC3⟩ := Kd.R_reads ho; have HC3 := Lib.hid hC3; clear ho hC3)
        obtain ⟨ad, eA, x0⟩ := Kd.at_string HC3.out (ini.length : Int) (by omega) (by simp; omega)
        have e0 : rdOf ByteArray.empty (ini ++ [z]) (ini.length : Int) = z := by simp [rdOf]
        rw [e0, Int.toNat_natCast] at x0
        subst eA
        have i0 : (0 : Int) ≤ (ini.length : Int) := by omega
        have i1 : (ini.length : Int) < (ini.length : Int) + 1 := by omega
        have i2 : (ini.length : Int) ≤ (ini.length : Int) + 1 := by omega
        have d0 : ((ini.length : Int) + 1 == 0) = false := by simp; omega
        clear e0
        go_wp2
        go_ret3
        exact ⟨rfl, HB0.out.trans (hb3.mono HB0.out.size)⟩
      · rw [if_neg hdd] at hR
        have b2 : (z.toList == [46, 46]) = false := by simpa using hdd
        clear hdd
        obtain ⟨r, hr, hR⟩ := Option.bind_eq_some_iff.1 hR
        obtain ⟨rn, rh, re⟩ := r
        simp only [] at hR
        have HGO := Lib.hid (fun W A2 c2 h1 h2 h3 => linhayref08_Go.calls k A c L last 1 A2 c2 ini true 0 rn rh re W h1 hc h2 h3 hr)
        obtain ⟨ka, hka⟩ := Ev.rounds (r07_at L rn last hl)
        have HAT := Lib.hid (fun W h1 => linhayref07_At.calls ka A c L last rn _ _ _ _ _ W h1 hc hka)
        obtain ⟨kc, hkc⟩ := Ev.rounds (r03_check z)
        have HCK := Lib.hid (fun W => linhayref03_Check.calls kc z _ W hkc)
        have HC := Lib.hid hC
        have HR := Lib.hid hR
        generalize (atR L rn).f3 = kd at HAT HR
        generalize (atR L rn).f0 = kd0 at HAT
        generalize (atR L rn).f1 = kd1 at HAT
        generalize (atR L rn).f2 = kd2 at HAT
        generalize (atR L rn).f4 = kd4 at HAT
        generalize Sp.check z.data.toList = ck at HCK HR
        clear hC hR hr hka hkc
        go_enter Try.func27, Try.ntmps27
        go_upto_region 6 with (go_at_call 61; refine (HP.out _).mono ?_; rintro e w3 ⟨v, rfl, ho, hb3⟩; obtain ⟨A3, c3, rfl, hl3, hC3⟩ := Kd.R_reads ho; have HC3 := Lib.hid hC3; clear ho hC3)
        obtain ⟨ad, eA, x0⟩ := Kd.at_string HC3.out (ini.length : Int) (by omega) (by simp; omega)
        have e0 : rdOf ByteArray.empty (ini ++ [z]) (ini.length : Int) = z := by simp [rdOf]
        rw [e0, Int.toNat_natCast] at x0
        subst eA
        have i0 : (0 : Int) ≤ (ini.length : Int) := by omega
        have i1 : (ini.length : Int) < (ini.length : Int) + 1 := by omega
        have i2 : (ini.length : Int) ≤ (ini.length : Int) + 1 := by omega
        have d0 : ((ini.length : Int) + 1 == 0) = false := by simp; omega
        have hct := Kd.C_take (m := ini.length) HC3.out (by simp)
        rw [List.take_left] at hct
        have HCT := Lib.hid hct
        have HB3 := Lib.hid (HB0.out.trans (hb3.mono HB0.out.size))
        have hbx := (hb3.block _ (blk_lt HBX.out)).trans HBX.out
        have y0 : w3.cell? ⟨w.heap.size, 0, none⟩ = some (.slice A L.length c) := by rw [blk_cell hbx]; rfl
        have y1 : w3.cell? ⟨w.heap.size, 1, none⟩ = some (.int .i64 last) := by rw [blk_cell hbx]; rfl
        have HX3 := Lib.hid hbx
        have X0 := Lib.hid x0
        clear e0 hct hb3 hbx
        go_upto_region 8 with (fail)
        clear x0
        have d1 : decide ((ini.length : Int) < 0) = false := decide_eq_false (by omega)
        have i3 : (ini.length : Int) ≤ (c3 : Int) := by simp at hl3; omega
        have d2 : decide ((c3 : Int) < (ini.length : Int)) = false := decide_eq_false (by omega)
        have i4 : ini.length ≤ c3 := by omega
        have i5 : ¬ c3 = 0 := by simp at hl3; omega
        have i6 : ad.add 0 = ad := by unfold Addr.add; split <;> simp_all
        have hcut := cutH ad ini.length (ini.length + 1) c3 (by omega)
        have w1 : IntKind.i64.wrap (ini.length : Int) = (ini.length : Int) := IntWalk.i64_in _ (by omega)
        go_region_held3 (fun w' => w'.cell? ⟨w.heap.size, 0, none⟩ = some (.slice A L.length c) ∧ w'.cell? ⟨w.heap.size, 1, none⟩ = some (.int .i64 last)) (first | (go_keep; done) | exact ⟨pw_cell_below hb4 y0, pw_cell_below hb4 y1⟩)
          ((go_at_call 60; refine (HGO.out _ _ _ (Kd.C_below HC.out (by first | exact HB3.out | exact below_drew HB3.out | exact pw_below_drewN HB3.out _)) (by first | exact HCT.out | exact Kd.C_below HCT.out (below_drew (Below.refl _ _)) | exact Kd.C_below HCT.out (pw_below_drewN (Below.refl _ _) _)) (by simp at hl3; omega)).mono ?_; rintro e w4 ⟨rfl, hb4'⟩; have hb4 : Below w3.heap.size w3 w4 := (by first | exact hb4' | exact (below_drew (Below.refl _ w3)).trans hb4' | exact (pw_below_drewN (Below.refl _ w3) _).trans hb4')))
        clear w1 d1 d2 i3 i4 i5 i6 hcut
        have HB4 := Lib.hid (HB3.out.trans (hb4.mono HB3.out.size))
        have HX4 := Lib.hid ((hb4.block _ (blk_lt HX3.out)).trans HX3.out)
        have z0 := pw_cell_below hb4 y0
        have z1 := pw_cell_below hb4 y1
        have x4 := pw_cell_below hb4 X0.out
        clear y0 y1 hb4
        by_cases he : re = 0
        · subst he
          rw [if_pos rfl] at HR
          by_cases hkd : kd = 1
          · subst hkd
            rw [if_pos rfl] at HR
            by_cases hc0 : ck = 0
            · subst hc0
              rw [if_pos rfl] at HR
              have hR := Option.some.inj HR.out
              subst hR
              go_upto_region 15 with (first | (go_at_call 49; refine (HAT.out _ (Kd.C_below HC.out HB4.out)).mono ?_; rintro e w5 ⟨rfl, hb5⟩; have x5 := pw_cell_below hb5 x4; have HB5 := Lib.hid (HB4.out.trans (hb5.mono HB4.out.size))) | (go_at_call 64; refine (HCK.out _).mono ?_; rintro e w6 ⟨rfl, hd6⟩; have x6 := pw_cell_below hd6.below x5; have HB6 := Lib.hid (HB5.out.trans (hd6.below.mono HB5.out.size))))
              clear x4 x5 z0 z1
              go_quiet (fail)
              go_wp2
              go_ret3
              exact ⟨rfl, pw_below_drewN HB6.out nq⟩
            · rw [if_neg hc0] at HR
              have b6 : (ck != 0) = true := bne_iff_ne.2 hc0
              have hR := Option.some.inj HR.out
              subst hR
              clear hc0
              go_wp2_with (first | (go_at_call 49; refine (HAT.out _ (Kd.C_below HC.out HB4.out)).mono ?_; rintro e w5 ⟨rfl, hb5⟩; have x5 := pw_cell_below hb5 x4; have HB5 := Lib.hid (HB4.out.trans (hb5.mono HB4.out.size))) | (go_at_call 64; refine (HCK.out _).mono ?_; rintro e w6 ⟨rfl, hd6⟩; have HB6 := Lib.hid (HB5.out.trans (hd6.below.mono HB5.out.size))))
              go_ret3
              exact ⟨rfl, HB6.out⟩
          · rw [if_neg hkd] at HR
            have b5 : (kd != 1) = true := bne_iff_ne.2 hkd
            have hR := Option.some.inj HR.out
            subst hR
            clear hkd
            go_wp2_with (go_at_call 49; refine (HAT.out _ (Kd.C_below HC.out HB4.out)).mono ?_; rintro e w5 ⟨rfl, hb5⟩; have HB5 := Lib.hid (HB4.out.trans (hb5.mono HB4.out.size)))
            go_ret3
            exact ⟨rfl, HB5.out⟩
        · rw [if_neg he] at HR
          have b4 : (re == 0) = false := by simpa using he
          have b4' : (re != 0) = true := bne_iff_ne.2 he
          have hR := Option.some.inj HR.out
          subst hR
          clear he
          go_wp2
          go_ret3
          exact ⟨rfl, HB4.out⟩
  · rw [if_neg h0] at hR
    have hR := Option.some.inj hR
    subst hR
    unfold beginE at h0 ⊢
    by_cases h1 : s.toList = []
    · rw [if_pos h1] at h0 ⊢
      have b0 : (s.toList == []) = true := by simpa using h1
      have b0' : s.toList.isEmpty = true := by simpa using h1
      clear hC
      go_enter Try.func27, Try.ntmps27
      go_wp2
      go_ret3
      exact ⟨rfl, HB0.out⟩
    · have b0 : (s.toList == []) = false := by simpa using h1
      have b0' : s.toList.isEmpty = false := by simpa using h1
      by_cases h2 : s.size > 1024
      · rw [if_neg h1, if_pos h2]
        have h2' : (1024 : Int) < (s.size : Int) := by omega
        clear hC h0 h1
        go_enter Try.func27, Try.ntmps27
        go_wp2
        go_ret3
        exact ⟨rfl, HB0.out⟩
      · rw [if_neg h1, if_neg h2] at h0; exact absurd rfl h0
end Go.Proofs.Ytjfigngmpagloaa.Tw

namespace Go.Proofs.Ytjfigngmpagloaa.Tw
open Go Go.RowKit Go.Shelf Go.Proofs Go.Proofs.Ytjfigngmpagloaa Go.Proofs.YtjfigngmpagloaaW.PrintWords Go.Proofs.Ytjfigngmpagloaa.Ext Go.Proofs.Ytjfigngmpagloaa.X Go.Proofs.Ytjfigngmpagloaa.Pu
set_option linter.unusedVariables false
set_option linter.unusedSimpArgs false
theorem get_of {L : List RN} {last : Int} {n : Int} {x : Nd} (h : (trOf L last).get n = some x) : ∃ r ∈ L, x = ndOf L r := by
  unfold trOf at h
  obtain ⟨r, hr, rfl⟩ := Option.map_eq_some_iff.1 h
  exact ⟨r, List.mem_of_find?_eq_some hr, rfl⟩
theorem trOK {L : List RN} {last : Int} (h : GoodL L last) (hl : last ≤ 1000000) : TrOK (trOf L last) := by
  refine ⟨fun n x hx => ?_, fun n x hx => ?_, fun n x hx => ?_, fun n x hx e he => ?_, fun n x hx => ?_⟩
  · obtain ⟨r, hr, rfl⟩ := get_of hx
    exact h.rt _
  · obtain ⟨r, hr, rfl⟩ := get_of hx
    have h1 := ents_len L r.f0
    have h2 := h.len
    show (entsOf L r.f0).length < _
    omega
  · obtain ⟨r, hr, rfl⟩ := get_of hx
    obtain ⟨q, hq, hqn, _⟩ := at_kind (L := L) (n := r.f1) (by rw [h.up r hr]; decide)
    have := h.num q hq
    exact wf_of (n := r.f1) (by omega)
  · obtain ⟨r, hr, rfl⟩ := get_of hx
    obtain ⟨q, hq, _, rfl⟩ := mem_ents.1 (show e ∈ entsOf L r.f0 from he)
    have := h.num q hq
    exact wf_of (n := q.f0) (by omega)
  · obtain ⟨r, hr, rfl⟩ := get_of hx
    exact h.data r hr
end Go.Proofs.Ytjfigngmpagloaa.Tw

namespace Go.Proofs.Ytjfigngmpagloaa.Tw
open Go Go.RowKit Go.Shelf Go.Proofs Go.Proofs.Ytjfigngmpagloaa Go.Proofs.YtjfigngmpagloaaW.PrintWords Go.Proofs.Ytjfigngmpagloaa.Ext Go.Proofs.Ytjfigngmpagloaa.X Go.Proofs.Ytjfigngmpagloaa.Pu
set_option linter.unusedVariables false
set_option linter.unusedSimpArgs false
def cellsN (x : MN) : List Value := [.int .i64 x.f0, .string x.f1, .int .i64 x.f2, .string x.f3]
theorem flat4 : ∀ (l : List MN) (j i : Nat) (x : MN) (u : Value), l[j]? = some x → (cellsN x)[i]? = some u → (l.flatMap cellsN)[j * 4 + i]? = some u
  | [], j, i, x, u, h, _ => by simp at h
  | a :: l, 0, i, x, u, h, hu => by
    have : a = x := by simpa using h
    subst this
    rw [List.flatMap_cons, Nat.zero_mul, Nat.zero_add, List.getElem?_append_left (List.getElem?_eq_some_iff.1 hu).1]
    exact hu
  | a :: l, j + 1, i, x, u, h, hu => by
    have hl : (cellsN a).length = 4 := rfl
    rw [List.flatMap_cons, List.getElem?_append_right (by rw [hl]; omega), hl, show (j + 1) * 4 + i - 4 = j * 4 + i by omega]
    exact flat4 l j i x u (by simpa using h) hu
theorem litN (w : World) (g : Nat) (l : List MN) (t : TypeId) (h : w.heap[g]? = some (.cells (l.flatMap cellsN).toArray t (0, 0))) (hn : l.length ≤ 1000000) : Kd.C k89 w (some ⟨g, 0, none⟩) l.length l := by
  refine ⟨rfl, by omega, fun _ => ⟨_, rfl, fun j x hj => ?_⟩⟩
  refine ⟨cellsN x, rfl, k89_mk _ _, fun i u hu => ?_⟩
  rw [Addr.add_lit, Nat.zero_add, cell_of_row w g _ _ t (0, 0) h]
  have := flat4 l j i x u hj hu
  have e : k89.sz = 4 := rfl
  rw [e]
  simpa using this
abbrev nodesA : List MN := [⟨-1, ⟨#[97]⟩, 1, ⟨#[]⟩⟩, ⟨0, ⟨#[98]⟩, 1, ⟨#[]⟩⟩, ⟨1, ⟨#[99]⟩, 2, ⟨#[120]⟩⟩, ⟨-1, ⟨#[108]⟩, 3, ⟨#[97, 47, 98]⟩⟩]
abbrev rowsA : List RN := [⟨1, 1, ⟨#[]⟩, 1, ⟨#[]⟩⟩, ⟨2, 1, ⟨#[97]⟩, 1, ⟨#[]⟩⟩, ⟨3, 2, ⟨#[98]⟩, 1, ⟨#[]⟩⟩, ⟨4, 3, ⟨#[99]⟩, 2, ⟨#[120]⟩⟩, ⟨5, 1, ⟨#[108]⟩, 3, ⟨#[97, 47, 98]⟩⟩]
theorem madeA : madeF nodesA = ⟨rowsA, 5, [2, 3, 4, 5]⟩ := by
  simp [madeF, made0, madeStep, dirAt, putL, putN, putA, putRE, dirE, atR, inR, inQ, toL, mayE, Sp.check, ByteArray.size]
theorem goodA : GoodL rowsA 5 ∧ GoodM rowsA := by
  have h := made_good nodesA
  rw [madeA] at h
  exact ⟨h.1, h.2.1⟩
theorem chainA : Chain rowsA 4 [⟨#[97]⟩, ⟨#[98]⟩, ⟨#[99]⟩] := by
  have h2 : Chain rowsA 2 [⟨#[97]⟩] := Chain.step (r := ⟨2, 1, ⟨#[97]⟩, 1, ⟨#[]⟩⟩) (p := []) (by simp) (by decide) .root
  have h3 : Chain rowsA 3 [⟨#[97]⟩, ⟨#[98]⟩] := Chain.step (r := ⟨3, 2, ⟨#[98]⟩, 1, ⟨#[]⟩⟩) (p := [⟨#[97]⟩]) (by simp) (by decide) h2
  exact Chain.step (r := ⟨4, 3, ⟨#[99]⟩, 2, ⟨#[120]⟩⟩) (p := [⟨#[97]⟩, ⟨#[98]⟩]) (by simp) (by decide) h3
theorem findA : ∃ k, findF (trOf rowsA 5) false k ⟨#[108, 47, 99]⟩ = some (4, 0) := by
  have hG := goodA.1
  refine ⟨10, ?_⟩
  simp [findF, beginE, toL, ByteArray.size, partsB, bs, Sp.parts, Sp.go, Sp.keep, walk_cons, walk_nil, node_of hG, downT_of hG, atR, inR, inQ, Sp.check, slashB, Lib.hasPrefix, Sp.mk]
theorem textA : slash1 ++ joinB [⟨#[97]⟩, ⟨#[98]⟩, ⟨#[99]⟩] = (⟨#[47, 97, 47, 98, 47, 99]⟩ : ByteArray) := by
  rw [slash_join, flat_text]
  rfl
theorem made_A (g : Nat) (W : World) (h : W.heap[g]? = some (.cells (nodesA.flatMap cellsN).toArray 89 (0, 0))) :
    Calls Try.prog 12 #[.slice (some ⟨g, 0, none⟩) 4 4] W fun e w' => ∃ p B v, e = .returned (.tuple #[pT p, v]) ∧ TreeB w' p B (trOf rowsA 5) ∧ RAt w' v rowsA 5 ∧ Below W.heap.size W w' ∧ W.heap.size ≤ p ∧ W.heap.size ≤ B := by
  have := made_calls (some ⟨g, 0, none⟩) 4 nodesA W (litN W g nodesA _ h (by decide)) (by decide) (by decide) (by intro x hx; simp only [nodesA, List.mem_cons, List.not_mem_nil, or_false] at hx; rcases hx with rfl | rfl | rfl | rfl <;> decide)
  rw [madeA] at this
  exact this
theorem real_A (p : Nat) (W : World) (h : TreeAt W p (trOf rowsA 5)) :
    Calls Try.prog 28 #[pT p, .int .i64 4] W fun e w' => e = .returned (.tuple #[.string ⟨#[47, 97, 47, 98, 47, 99]⟩, .bool true]) ∧ Below W.heap.size W w' := by
  obtain ⟨hG, hM⟩ := goodA
  obtain ⟨ku, hku⟩ := real_up hG chainA
  have := real_calls p (trOf rowsA 5) ku 4 _ W h (trOK hG (by decide)) (wf_of (by decide)) (by rw [node_of hG]; decide) hku (by decide) (by decide)
  rw [List.reverse_reverse, textA] at this
  exact this
theorem find_A (p : Nat) (W : World) (h : TreeAt W p (trOf rowsA 5)) :
    Calls Try.prog 24 #[pT p, .string ⟨#[108, 47, 99]⟩, .bool false] W fun e w' => e = .returned (.tuple #[.int .i64 4, .int .i64 0]) ∧ Below W.heap.size W w' := by
  obtain ⟨kf, hkf⟩ := findA
  exact seekFind_calls p (trOf rowsA 5) ⟨#[108, 47, 99]⟩ false kf (4, 0) W h (trOK goodA.1 (by decide)) hkf
set_option maxHeartbeats 1000000 in
set_option maxRecDepth 1000000 in
theorem lives08_calls (w : World) : Calls Try.prog 23 #[] w fun e w' => e = .returned (.bool true) ∧ Below w.heap.size w w' := by
  have HBX := Lib.hid (heap_alloc_new w (.cells (nodesA.flatMap cellsN).toArray 89))
  have HB0 := Lib.hid ((Below.refl w.heap.size w).alloc (Nat.le_refl _) (.cells (nodesA.flatMap cellsN).toArray 89))
  have HM := Lib.hid (made_A w.heap.size)
  have HF := Lib.hid find_A
  have HR := Lib.hid real_A
  go_enter Try.func23, Try.ntmps23
  go_wp2_with (first | (go_at_call 12; refine (HM.out _ HBX.out).mono ?_; rintro e w2 ⟨p, B, v, rfl, hT2, ⟨A2, c2, rfl, _, _⟩, hb2, _, _⟩; have HT2 := Lib.hid hT2.at_; clear hT2) | (go_at_call 24; refine (HF.out _ _ (HT2.out.below ((Below.refl _ w2).alloc (Nat.le_refl _) _))).mono ?_; rintro e w3 ⟨rfl, hb3⟩) | (go_at_call 28; refine (HR.out _ _ ((HT2.out.below ((Below.refl _ w2).alloc (Nat.le_refl _) _)).below hb3)).mono ?_; rintro e w4 ⟨rfl, hb4⟩))
  go_ret
  exact ⟨rfl, HB0.out.trans ((hb2.mono HB0.out.size).trans ((((Below.refl _ w2).alloc (Nat.le_refl _) _).mono (Nat.le_trans HB0.out.size hb2.size)).trans ((hb3.mono (by have := HB0.out.size; have := hb2.size; simp; omega)).trans (hb4.mono (by have := HB0.out.size; have := hb2.size; have := hb3.size; simp at *; omega)))))⟩
end Go.Proofs.Ytjfigngmpagloaa.Tw

namespace Go.Proofs.Ytjfigngmpagloaa.Tw
open Go Go.RowKit Go.Shelf Go.Proofs Go.Proofs.Ytjfigngmpagloaa Go.Proofs.YtjfigngmpagloaaW.PrintWords Go.Proofs.Ytjfigngmpagloaa.Ext Go.Proofs.Ytjfigngmpagloaa.X Go.Proofs.Ytjfigngmpagloaa.Pu
set_option linter.unusedVariables false
set_option linter.unusedSimpArgs false
def bulkN (x : MN) : Nat := 1 + (x.f1.size + 1 + (1 + (x.f3.size + 1))) + 1
theorem sum_in8 {α : Type} (β : α → Nat) {x : α} : ∀ {l : List α}, x ∈ l → β x ≤ (l.map β).sum
  | y :: l, h => by
    rw [List.map_cons, List.sum_cons]
    rcases List.mem_cons.1 h with rfl | h
    · omega
    · have := sum_in8 β h; omega
theorem few_ev (l : List MN) (hl : l.length < 4294967296) : ∃ b, Ev (fun k => linhaylaw08_Few.f k l) b ∧ (b = true → l.length ≤ 60) := by
  have key : ∀ (d i : Nat), i + d = l.length → ∃ b, Ev (fun k => linhaylaw08_Few.l0 k l (i : Int)) b ∧ (b = true → l.length ≤ 60) := by
    intro d
    induction d with
    | zero =>
      intro i hi
      refine ⟨decide ((l.length : Int) ≤ 60), ?_, fun h => by have := of_decide_eq_true h; omega⟩
      refine Ev.step (fun k => by rw [linhaylaw08_Few.l0]) ?_
      exact ev_neg (by omega) (Ev.now _)
    | succ d ih =>
      intro i hi
      obtain ⟨b, h1, h2⟩ := ih (i + 1) (by omega)
      by_cases hz : (((rd_T89 l (i : Int)).f3).size : Int) > 2000
      · refine ⟨false, ?_, fun h => by cases h⟩
        refine Ev.step (fun k => by rw [linhaylaw08_Few.l0]) ?_
        exact ev_pos (by omega) (ev_pos (by omega) (ev_pos hz (Ev.now _)))
      · refine ⟨b, ?_, h2⟩
        refine Ev.step (fun k => by rw [linhaylaw08_Few.l0]) ?_
        refine ev_pos (by omega) (ev_pos (by omega) (ev_neg hz ?_))
        rw [w1 (by omega)]
        exact h1
  exact key l.length 0 (by omega)
set_option maxHeartbeats 1000000 in
set_option maxRecDepth 1000000 in
theorem seekNone_calls (s : ByteArray) (n : Int) (last : Bool) (w : World) (hs : s.size ≤ 1048576) (hn : (Lit.int .i64 n).wf = true) :
    Calls Try.prog 6 #[.string s, .int .i64 n, .bool last] w fun e w' => e = .returned (.bool true) ∧ Below w.heap.size w w' := by
  obtain ⟨kc, hkc⟩ := Ev.rounds (r04_clean s (by omega))
  have HC := Lib.hid (fun W => linhayref04_Clean.calls kc s _ W hkc)
  generalize Sp.mk (Sp.clean s.data.toList) = cs at HC
  clear hkc
  go_enter Try.func6, Try.ntmps6
  go_wp2_with (first | (go_at_call 24; refine (seekFind_nil _ _ _).mono ?_; rintro e w2 ⟨rfl, hb2⟩) | (go_at_call 26; refine (spot_nil _ _).mono ?_; rintro e w3 ⟨rfl, hb3⟩) | (go_at_call 28; refine (real_nil _ _).mono ?_; rintro e w4 ⟨rfl, hb4⟩) | (go_at_call 33; refine (HC.out _).mono ?_; rintro e w5 ⟨rfl, hb5⟩) | (go_at_call 30; refine (straight_nil _ _).mono ?_; rintro e w6 ⟨rfl, hb6⟩) | (go_at_call 23; refine (lives08_calls _).mono ?_; rintro e w7 ⟨rfl, hb7⟩))
  go_ret
  have s2 := hb2.size
  have s3 := hb3.size
  have s4 := hb4.size
  have s5 := hb5.size
  have s6 := hb6.size
  exact ⟨rfl, hb2.trans ((hb3.mono s2).trans ((hb4.mono (by omega)).trans ((hb5.mono (by omega)).trans ((hb6.mono (by omega)).trans (hb7.mono (by omega))))))⟩
set_option maxHeartbeats 2000000 in
set_option maxRecDepth 1000000 in
theorem seekFinds_calls (A : Option Addr) (c : Nat) (l : List MN) (s : ByteArray) (last : Bool) (w : World) (hC : Kd.C k89 w A l.length l) (hc : l.length ≤ c) (hb : (l.map bulkN).sum + 1 ≤ 1048576) (ho : ∀ x ∈ l, (Lit.int .i64 x.f0).wf = true ∧ True ∧ (Lit.int .i64 x.f2).wf = true ∧ True) (hs : s.size ≤ 1048576) :
    Calls Try.prog 4 #[.slice A l.length c, .string s, .bool last] w fun e w' => e = .returned (.bool true) ∧ Below w.heap.size w w' := by
  have hsz : ∀ x ∈ l, x.f1.size < 4294967281 := fun x hx => by
    have h1 := sum_in8 bulkN hx
    have h2 : x.f1.size ≤ bulkN x := by unfold bulkN; omega
    omega
  obtain ⟨b, hfew, hb60⟩ := few_ev l (by
    have h1 : l.length ≤ (l.map bulkN).sum := by
      have : ∀ l : List MN, l.length ≤ (l.map bulkN).sum := by
        intro l
        induction l with
        | nil => simp
        | cons x l ih => rw [List.map_cons, List.sum_cons, List.length_cons]; have : 1 ≤ bulkN x := by unfold bulkN; omega
                         omega
      exact this l
    omega)
  obtain ⟨kf, hkf⟩ := Ev.rounds hfew
  have HF := Lib.hid (fun W h => linhaylaw08_Few.calls kf A c l b W h hc hkf)
  have HC := Lib.hid hC
  have HLV := Lib.hid lives08_calls
  clear hC hfew hkf hb ho
  cases b with
  | false =>
    clear hb60
    go_enter Try.func4, Try.ntmps4
    go_wp2_with (first | (go_at_call 10; refine (HF.out _ HC.out).mono ?_; rintro e w2 ⟨rfl, hd2⟩) | (go_at_call 23; refine (HLV.out _).mono ?_; rintro e w7 ⟨rfl, hb7⟩))
    go_ret
    exact ⟨rfl, hd2.below.trans (hb7.mono hd2.below.size)⟩
  | true =>
    have h60 := hb60 rfl
    by_cases hz : (3000 : Int) < (s.size : Int)
    · clear hb60
      go_enter Try.func4, Try.ntmps4
      go_wp2_with (first | (go_at_call 10; refine (HF.out _ HC.out).mono ?_; rintro e w2 ⟨rfl, hd2⟩) | (go_at_call 23; refine (HLV.out _).mono ?_; rintro e w7 ⟨rfl, hb7⟩))
      go_ret
      exact ⟨rfl, hd2.below.trans (hb7.mono hd2.below.size)⟩
    · have hz' : (s.size : Int) ≤ 3000 := by omega
      obtain ⟨hG, hM, hla, hln⟩ := made_good l
      have hO := trOK hG (by omega)
      obtain ⟨k1, R1, hR1, hE1⟩ := find_both hG hM last s
      obtain ⟨k2, hk2⟩ := Ev.rounds hE1
      obtain ⟨k3, k4, R3, hR3, hR4⟩ := spot_both hG hM s
      have HM := Lib.hid (fun W h => made_calls A c l W h hc h60 hsz)
      have HFI := Lib.hid (fun p W h => seekFind_calls p (trOf (madeF l).L (madeF l).last) s last k1 R1 W h hO hR1)
      have HRF := Lib.hid (fun A c W h1 h2 => linhayref08_Find.calls k2 A c (madeF l).L (madeF l).last s last R1.1 R1.2 W h1 h2 hk2)
      have HSP := Lib.hid (fun p W h => spot_calls p (trOf (madeF l).L (madeF l).last) s k3 R3 W h hO hR3)
      have HRS := Lib.hid (fun v W h => rspot_calls (madeF l).L (madeF l).last v s k4 R3 W h (by have := hG.len; omega) hR4)
      generalize (madeF l).L = L at *
      generalize (madeF l).last = la at *
      obtain ⟨r1, r2⟩ := R1
      obtain ⟨q1, q2, q3⟩ := R3
      simp only [] at HFI HRF HSP HRS
      clear hb60 hG hM hla hln hO hR1 hE1 hk2 hR3 hR4 hsz hz
      go_enter Try.func4, Try.ntmps4
      go_upto_region 4 with (first | (go_at_call 10; refine (HF.out _ HC.out).mono ?_; rintro e w2 ⟨rfl, hd2⟩; have HB2 := Lib.hid hd2.below) | (go_at_call 12; refine (HM.out _ (Kd.C_below HC.out HB2.out)).mono ?_; rintro e w3 ⟨p, B, v, rfl, hT3, ⟨A3, c3, rfl, hc3, hC3⟩, hb3, _, _⟩; have HT3 := Lib.hid hT3.at_; have HC3 := Lib.hid hC3; clear hT3 hC3))
      have hba := (Below.refl _ w3).alloc (Nat.le_refl _) (.cells #[.slice A3 L.length c3, .int .i64 la] 28)
      have h4 := heap_alloc_new w3 (.cells #[.slice A3 L.length c3, .int .i64 la] 28)
      have HT4 := Lib.hid (HT3.out.below hba)
      have HC4 := Lib.hid (Kd.C_below HC3.out hba)
      have HB4 := Lib.hid (HB2.out.trans ((hb3.mono HB2.out.size).trans (hba.mono (Nat.le_trans HB2.out.size hb3.size))))
      generalize w3.alloc (.cells #[.slice A3 L.length c3, .int .i64 la] 28) = w4 at h4 HT4 HC4 HB4 ⊢
      generalize w3.heap.size = g at h4 ⊢
      have H4 := Lib.hid h4
      clear hba h4 HT3 HC3 hb3
      go_wp2_with (first
        | (go_at_call 24; refine (HFI.out _ _ HT4.out).mono ?_; rintro e w5 ⟨rfl, hb5⟩; have HB5 := Lib.hid hb5; have h5 := (hb5.block _ (blk_lt H4.out)).trans H4.out; have x0 : w5.cell? ⟨g, 0, none⟩ = some (.slice A3 L.length c3) := (by rw [blk_cell h5]; rfl); have x1 : w5.cell? ⟨g, 1, none⟩ = some (.int .i64 la) := (by rw [blk_cell h5]; rfl); clear h5 hb5)
        | (go_at_call 25; refine (HRF.out _ _ _ (Kd.C_below HC4.out HB5.out) hc3).mono ?_; rintro e w6 ⟨rfl, hb6⟩; have HB6 := Lib.hid (HB5.out.trans (hb6.mono HB5.out.size)); clear hb6 x0 x1)
        | (go_at_call 26; refine (HSP.out _ _ (HT4.out.below HB6.out)).mono ?_; rintro e w7 ⟨rfl, hb7⟩; have HB7 := Lib.hid (HB6.out.trans (hb7.mono HB6.out.size)); have h7 := (HB7.out.block _ (blk_lt H4.out)).trans H4.out; have x0 : w7.cell? ⟨g, 0, none⟩ = some (.slice A3 L.length c3) := (by rw [blk_cell h7]; rfl); have x1 : w7.cell? ⟨g, 1, none⟩ = some (.int .i64 la) := (by rw [blk_cell h7]; rfl); clear h7 hb7)
        | (go_at_call 27; refine (HRS.out _ _ ⟨A3, c3, rfl, hc3, Kd.C_below HC4.out HB7.out⟩).mono ?_; rintro e w8 ⟨rfl, hb8⟩; have HB8 := Lib.hid (HB7.out.trans (hb8.mono HB7.out.size)); clear hb8 x0 x1)
        | (go_at_call 23; refine (HLV.out _).mono ?_; rintro e w9 ⟨rfl, hb9⟩))
      go_ret
      exact ⟨rfl, HB4.out.trans ((HB8.out.trans (hb9.mono HB8.out.size)).mono HB4.out.size)⟩
end Go.Proofs.Ytjfigngmpagloaa.Tw

namespace Go.Proofs.Ytjfigngmpagloaa.Tw
open Go Go.RowKit Go.Shelf Go.Proofs Go.Proofs.Ytjfigngmpagloaa Go.Proofs.YtjfigngmpagloaaW.PrintWords Go.Proofs.Ytjfigngmpagloaa.Ext Go.Proofs.Ytjfigngmpagloaa.X Go.Proofs.Ytjfigngmpagloaa.Pu
set_option linter.unusedVariables false
set_option linter.unusedSimpArgs false
theorem room_chain {L : List RN} {last : Int} (hM : GoodM L) {n : Int} {p : List ByteArray} (h : Chain L n p) : Sp.room (p.map (·.data.toList)) ≤ 65 * p.length := by
  have hn := chain_nm (last := last) hM h
  clear h
  induction p with
  | nil => simp
  | cons x p ih =>
    have h1 := (check_zero (hn x List.mem_cons_self)).2.2.1
    have h2 := ih (fun y hy => hn y (List.mem_cons_of_mem _ hy))
    rw [List.map_cons, Sp.room_cons, List.length_cons]
    omega
/-- Real on both sides. -/
theorem real_both {L : List RN} {last : Int} (hG : GoodL L last) (hM : GoodM L) (hla : last ≤ 1000000) (n : Int) (hn : wf n) :
    ∃ rs ok, (∀ W p, TreeAt W p (trOf L last) → Calls Try.prog 28 #[pT p, .int .i64 n] W fun e w' => e = .returned (.tuple #[.string rs, .bool ok]) ∧ Below W.heap.size W w')
      ∧ Ev (fun k => linhayref08_Real.f k L last n) (rs, ok) ∧ (ok = true → ∃ p, Chain L n p ∧ rs = slash1 ++ joinB p) := by
  have hO := trOK hG hla
  have hkn : ((trOf L last).node n).kind = (atR L n).f3 := by rw [node_of hG]
  by_cases hk : (atR L n).f3 = 0
  · exact ⟨⟨#[]⟩, false, fun W p h => real_zero p _ n W h hn (hkn.trans hk), ref_real_none hG hk, fun h => by cases h⟩
  · obtain ⟨p0, hc, hpl⟩ := chain_ex hG hM n hk
    obtain ⟨k, hu⟩ := real_up hG hc
    have hr := room_chain (last := last) hM hc
    have hl := hG.len
    refine ⟨slash1 ++ joinB p0, true, fun W p h => ?_, ref_real hG hM hc hpl, fun _ => ⟨p0, hc, rfl⟩⟩
    have := real_calls p (trOf L last) k n p0.reverse W h hO hn (by rw [hkn]; exact hk) hu (by rw [List.length_reverse]; omega) (by rw [List.reverse_reverse]; have := Sp.join_room (p0.map (·.data.toList)); omega)
    rw [List.reverse_reverse] at this
    exact this
set_option maxHeartbeats 4000000 in
set_option maxRecDepth 1000000 in
theorem seekReal_calls (A : Option Addr) (c : Nat) (l : List MN) (n : Int) (s : ByteArray) (w : World) (hC : Kd.C k89 w A l.length l) (hc : l.length ≤ c) (hb : (l.map bulkN).sum + 1 ≤ 1048576) (ho : ∀ x ∈ l, (Lit.int .i64 x.f0).wf = true ∧ True ∧ (Lit.int .i64 x.f2).wf = true ∧ True) (hs : s.size ≤ 1048576) (hn : (Lit.int .i64 n).wf = true) :
    Calls Try.prog 5 #[.slice A l.length c, .int .i64 n, .string s] w fun e w' => e = .returned (.bool true) ∧ Below w.heap.size w w' := by
  have hsz : ∀ x ∈ l, x.f1.size < 4294967281 := fun x hx => by
    have h1 := sum_in8 bulkN hx
    have h2 : x.f1.size ≤ bulkN x := by unfold bulkN; omega
    omega
  obtain ⟨b, hfew, hb60⟩ := few_ev l (by
    have h1 : l.length ≤ (l.map bulkN).sum := by
      have : ∀ l : List MN, l.length ≤ (l.map bulkN).sum := by
        intro l
        induction l with
        | nil => simp
        | cons x l ih => rw [List.map_cons, List.sum_cons, List.length_cons]; have : 1 ≤ bulkN x := by unfold bulkN; omega
                         omega
      exact this l
    omega)
  obtain ⟨kf, hkf⟩ := Ev.rounds hfew
  have HF := Lib.hid (fun W h => linhaylaw08_Few.calls kf A c l b W h hc hkf)
  have HC := Lib.hid hC
  have HLV := Lib.hid lives08_calls
  clear hC hfew hkf hb ho
  cases b with
  | false =>
    clear hb60
    go_enter Try.func5, Try.ntmps5
    go_wp2_with (first | (go_at_call 10; refine (HF.out _ HC.out).mono ?_; rintro e w2 ⟨rfl, hd2⟩) | (go_at_call 23; refine (HLV.out _).mono ?_; rintro e w7 ⟨rfl, hb7⟩))
    go_ret
    exact ⟨rfl, hd2.below.trans (hb7.mono hd2.below.size)⟩
  | true =>
    have h60 := hb60 rfl
    by_cases hz : (3000 : Int) < (s.size : Int)
    · clear hb60
      go_enter Try.func5, Try.ntmps5
      go_wp2_with (first | (go_at_call 10; refine (HF.out _ HC.out).mono ?_; rintro e w2 ⟨rfl, hd2⟩) | (go_at_call 23; refine (HLV.out _).mono ?_; rintro e w7 ⟨rfl, hb7⟩))
      go_ret
      exact ⟨rfl, hd2.below.trans (hb7.mono hd2.below.size)⟩
    · have hz' : (s.size : Int) ≤ 3000 := by omega
      obtain ⟨hG, hM, hla, hln⟩ := made_good l
      have hO := trOK hG (by omega)
      obtain ⟨rs, ok, hre, hrr, hch⟩ := real_both hG hM (by omega) n hn
      obtain ⟨k1, hk1⟩ := Ev.rounds hrr
      obtain ⟨k2, hk2⟩ := Ev.rounds (straight_both hG s (by omega))
      have HM := Lib.hid (fun W h => made_calls A c l W h hc h60 hsz)
      have HRE := Lib.hid hre
      have HRR := Lib.hid (fun A c W h1 h2 => linhayref08_Real.calls k1 A c (madeF l).L (madeF l).last n rs ok W h1 h2 hk1)
      have HST := Lib.hid (fun p W h => straight_calls p (trOf (madeF l).L (madeF l).last) s W h hO (by omega))
      have HSR := Lib.hid (fun A c W h1 h2 => linhayref08_Straight.calls k2 A c (madeF l).L (madeF l).last s _ W h1 h2 hk2)
      have hf1 : (ok = true → (rs.size : Int) ≤ 1024 → (∀ W p, TreeAt W p (trOf (madeF l).L (madeF l).last) → Calls Try.prog 24 #[pT p, .string rs, .bool false] W fun e w' => e = .returned (.tuple #[.int .i64 n, .int .i64 0]) ∧ Below W.heap.size W w') ∧ ∀ W, Calls Try.prog 32 #[.string rs] W fun e w' => e = .returned (.bool true) ∧ Below W.heap.size W w') := fun h hz2 => by
        obtain ⟨p0, hcp, rfl⟩ := hch h
        obtain ⟨k, hk⟩ := find_chain hG hM false hcp (.inl rfl) (by omega)
        exact ⟨fun W p hT => seekFind_calls p _ _ false k (n, 0) W hT hO hk, fun W => path_Is.calls _ true W (by rw [path_Is.f, if_pos (by omega), is_chain (last := (madeF l).last) hM hcp (by omega)])⟩
      have HF1 := Lib.hid hf1
      have hf2 : (straightF (trOf (madeF l).L (madeF l).last) s = true → ∃ m, (∀ W p, TreeAt W p (trOf (madeF l).L (madeF l).last) → Calls Try.prog 24 #[pT p, .string s, .bool true] W fun e w' => e = .returned (.tuple #[.int .i64 m, .int .i64 0]) ∧ Below W.heap.size W w') ∧ ∀ W p, TreeAt W p (trOf (madeF l).L (madeF l).last) → Calls Try.prog 28 #[pT p, .int .i64 m] W fun e w' => e = .returned (.tuple #[.string s, .bool true]) ∧ Below W.heap.size W w') := fun h => by
        obtain ⟨m, p0, hcp, hkm, rfl, hz2⟩ := straight_chain hG hM h
        obtain ⟨k, hk⟩ := find_chain hG hM true hcp (.inr hkm) hz2
        obtain ⟨k3, hu⟩ := real_up hG hcp
        have hwm := up_wf hG m hkm
        obtain ⟨p1, hc1, hl1⟩ := chain_ex hG hM m (by rw [hkm]; decide)
        obtain rfl := chain_uniq hG hcp hc1
        have hr := room_chain (last := (madeF l).last) hM hcp
        have hlen := hG.len
        refine ⟨m, fun W p hT => seekFind_calls p _ _ true k (m, 0) W hT hO hk, fun W p hT => ?_⟩
        have := real_calls p _ k3 m p0.reverse W hT hO (wf_of (by omega)) (by rw [node_of hG]; show (atR _ m).f3 ≠ 0; rw [hkm]; decide) hu (by rw [List.length_reverse]; omega) (by rw [List.reverse_reverse]; have := Sp.join_room (p0.map (·.data.toList)); omega)
        rw [List.reverse_reverse] at this
        exact this
      have HF2 := Lib.hid hf2
      clear hf1 hf2
      generalize straightF (trOf (madeF l).L (madeF l).last) s = st at *
      generalize (madeF l).L = L at *
      generalize (madeF l).last = la at *
      clear hb60 hG hM hla hln hO hre hrr hch hk1 hk2 hsz hz
      go_enter Try.func5, Try.ntmps5
      go_upto_region 4 with (first | (go_at_call 10; refine (HF.out _ HC.out).mono ?_; rintro e w2 ⟨rfl, hd2⟩; have HB2 := Lib.hid hd2.below) | (go_at_call 12; refine (HM.out _ (Kd.C_below HC.out HB2.out)).mono ?_; rintro e w3 ⟨p, B, v, rfl, hT3, ⟨A3, c3, rfl, hc3, hC3⟩, hb3, _, _⟩; have HT3 := Lib.hid hT3.at_; have HC3 := Lib.hid hC3; clear hT3 hC3))
      have hba := (Below.refl _ w3).alloc (Nat.le_refl _) (.cells #[.slice A3 L.length c3, .int .i64 la] 28)
      have h4 := heap_alloc_new w3 (.cells #[.slice A3 L.length c3, .int .i64 la] 28)
      have HT4 := Lib.hid (HT3.out.below hba)
      have HC4 := Lib.hid (Kd.C_below HC3.out hba)
      have HB4 := Lib.hid (HB2.out.trans ((hb3.mono HB2.out.size).trans (hba.mono (Nat.le_trans HB2.out.size hb3.size))))
      generalize w3.alloc (.cells #[.slice A3 L.length c3, .int .i64 la] 28) = w4 at h4 HT4 HC4 HB4 ⊢
      generalize w3.heap.size = g at h4 ⊢
      have H4 := Lib.hid h4
      have HX := Lib.hid (fun (W : World) (h : Below w4.heap.size w4 W) => show W.cell? ⟨g, 0, none⟩ = some (.slice A3 L.length c3) ∧ W.cell? ⟨g, 1, none⟩ = some (.int .i64 la) by
        have h5 := (h.block _ (blk_lt H4.out)).trans H4.out
        exact ⟨by rw [blk_cell h5]; rfl, by rw [blk_cell h5]; rfl⟩)
      clear hba h4 HT3 HC3 hb3
      have e1 : (rs.toList == rs.toList) = true := by simp
      have e2 : (rs.toList != rs.toList) = false := by simp
      have e3 : (ok != ok) = false := by simp
      go_upto_region 6 with (first
        | (go_at_call 28; refine (HRE.out _ _ HT4.out).mono ?_; rintro e w5 ⟨rfl, hb5⟩; have HB5 := Lib.hid hb5; obtain ⟨x0, x1⟩ := HX.out _ hb5; clear hb5)
        | (go_at_call 29; refine (HRR.out _ _ _ (Kd.C_below HC4.out HB5.out) hc3).mono ?_; rintro e w6 ⟨rfl, hb6⟩; have HB6 := Lib.hid (HB5.out.trans (hb6.mono HB5.out.size)); clear hb6 x0 x1))
      obtain ⟨x0, x1⟩ := HX.out _ HB6.out
      have e4 : (st != st) = false := by simp
      go_region_held3 (fun w' => w'.cell? ⟨g, 0, none⟩ = some (.slice A3 L.length c3) ∧ w'.cell? ⟨g, 1, none⟩ = some (.int .i64 la)) (first | (go_keep; done) | exact HX.out _ HB8.out | exact HX.out _ HB7.out)
        (first
          | (go_at_call 30; refine (HST.out _ _ (HT4.out.below (by first | exact HB8.out | exact below_drew HB8.out | exact HB6.out | exact below_drew HB6.out))).mono ?_; rintro e w7 ⟨rfl, hb7⟩; have HB7 : Hid (Below w4.heap.size w4 w7) := Lib.hid (by first | exact HB8.out.trans (hb7.mono HB8.out.size) | exact (below_drew HB8.out).trans (hb7.mono HB8.out.size) | exact HB6.out.trans (hb7.mono HB6.out.size) | exact (below_drew HB6.out).trans (hb7.mono HB6.out.size)); clear hb7)
          | (go_at_call 31; refine (HSR.out _ _ _ (Kd.C_below HC4.out (by first | exact HB7.out | exact below_drew HB7.out | exact HB6.out | exact below_drew HB6.out)) hc3).mono ?_; rintro e w8 ⟨rfl, hb8⟩; have HB8 : Hid (Below w4.heap.size w4 w8) := Lib.hid (by first | exact HB7.out.trans (hb8.mono HB7.out.size) | exact (below_drew HB7.out).trans (hb8.mono HB7.out.size) | exact HB6.out.trans (hb8.mono HB6.out.size) | exact (below_drew HB6.out).trans (hb8.mono HB6.out.size)); clear hb8))
      clear x0 x1 e1 e2 e3 e4 HRE HRR HSR HX HF HM
      have tailB : True := trivial
      cases ok with
      | false =>
        clear HF1
        cases st with
        | false =>
          clear HF2
          go_wp2_with (first
            | (go_at_call 30; refine (HST.out _ _ (HT4.out.below HB8.out)).mono ?_; rintro e w12 ⟨rfl, hb12⟩; have HB12 := Lib.hid (HB8.out.trans (hb12.mono HB8.out.size)); clear hb12)
            | (go_at_call 23; refine (HLV.out _).mono ?_; rintro e w15 ⟨rfl, hb15⟩))
          go_ret
          exact ⟨rfl, HB4.out.trans ((HB12.out.trans (hb15.mono HB12.out.size)).mono HB4.out.size)⟩
        | true =>
          obtain ⟨m, hfb, hrb⟩ := HF2.out rfl
          have HFB := Lib.hid hfb
          have HRB := Lib.hid hrb
          have e5 : (s.toList != s.toList) = false := by simp
          clear hfb hrb HF2
          go_wp2_with (first
            | (go_at_call 30; refine (HST.out _ _ (HT4.out.below HB8.out)).mono ?_; rintro e w12 ⟨rfl, hb12⟩; have HB12 := Lib.hid (HB8.out.trans (hb12.mono HB8.out.size)); clear hb12)
            | (go_at_call 24; refine (HFB.out _ _ (HT4.out.below HB12.out)).mono ?_; rintro e w13 ⟨rfl, hb13⟩; have HB13 := Lib.hid (HB12.out.trans (hb13.mono HB12.out.size)); clear hb13)
            | (go_at_call 28; refine (HRB.out _ _ (HT4.out.below HB13.out)).mono ?_; rintro e w14 ⟨rfl, hb14⟩; have HB14 := Lib.hid (HB13.out.trans (hb14.mono HB13.out.size)); clear hb14)
            | (go_at_call 23; refine (HLV.out _).mono ?_; rintro e w15 ⟨rfl, hb15⟩))
          go_ret
          exact ⟨rfl, HB4.out.trans ((HB14.out.trans (hb15.mono HB14.out.size)).mono HB4.out.size)⟩
      | true =>
        by_cases hz2 : (rs.size : Int) ≤ 1024
        · obtain ⟨hfa, his⟩ := HF1.out rfl hz2
          have HFA := Lib.hid hfa
          have HIS := Lib.hid his
          clear hfa his HF1
          cases st with
          | false =>
            clear HF2
            go_upto_region 12 with (first
              | (go_at_call 24; refine (HFA.out _ _ (HT4.out.below HB8.out)).mono ?_; rintro e w10 ⟨rfl, hb10⟩; have HB10 := Lib.hid (HB8.out.trans (hb10.mono HB8.out.size)); clear hb10)
              | (go_at_call 32; refine (HIS.out _).mono ?_; rintro e w11 ⟨rfl, hb11⟩; have HB11 := Lib.hid (HB10.out.trans (hb11.mono HB10.out.size)); clear hb11))
            go_wp2_with (first
              | (go_at_call 30; refine (HST.out _ _ (HT4.out.below HB11.out)).mono ?_; rintro e w12 ⟨rfl, hb12⟩; have HB12 := Lib.hid (HB11.out.trans (hb12.mono HB11.out.size)); clear hb12)
              | (go_at_call 23; refine (HLV.out _).mono ?_; rintro e w15 ⟨rfl, hb15⟩))
            go_ret
            exact ⟨rfl, HB4.out.trans ((HB12.out.trans (hb15.mono HB12.out.size)).mono HB4.out.size)⟩
          | true =>
            obtain ⟨m, hfb, hrb⟩ := HF2.out rfl
            have HFB := Lib.hid hfb
            have HRB := Lib.hid hrb
            have e5 : (s.toList != s.toList) = false := by simp
            clear hfb hrb HF2
            go_upto_region 12 with (first
              | (go_at_call 24; refine (HFA.out _ _ (HT4.out.below HB8.out)).mono ?_; rintro e w10 ⟨rfl, hb10⟩; have HB10 := Lib.hid (HB8.out.trans (hb10.mono HB8.out.size)); clear hb10)
              | (go_at_call 32; refine (HIS.out _).mono ?_; rintro e w11 ⟨rfl, hb11⟩; have HB11 := Lib.hid (HB10.out.trans (hb11.mono HB10.out.size)); clear hb11))
            go_wp2_with (first
              | (go_at_call 30; refine (HST.out _ _ (HT4.out.below HB11.out)).mono ?_; rintro e w12 ⟨rfl, hb12⟩; have HB12 := Lib.hid (HB11.out.trans (hb12.mono HB11.out.size)); clear hb12)
              | (go_at_call 24; refine (HFB.out _ _ (HT4.out.below HB12.out)).mono ?_; rintro e w13 ⟨rfl, hb13⟩; have HB13 := Lib.hid (HB12.out.trans (hb13.mono HB12.out.size)); clear hb13)
              | (go_at_call 28; refine (HRB.out _ _ (HT4.out.below HB13.out)).mono ?_; rintro e w14 ⟨rfl, hb14⟩; have HB14 := Lib.hid (HB13.out.trans (hb14.mono HB13.out.size)); clear hb14)
              | (go_at_call 23; refine (HLV.out _).mono ?_; rintro e w15 ⟨rfl, hb15⟩))
            go_ret
            exact ⟨rfl, HB4.out.trans ((HB14.out.trans (hb15.mono HB14.out.size)).mono HB4.out.size)⟩
        · have hz3 : (1024 : Int) < (rs.size : Int) := by omega
          clear HF1 hz2
          cases st with
          | false =>
            clear HF2
            go_wp2_with (first
              | (go_at_call 30; refine (HST.out _ _ (HT4.out.below HB8.out)).mono ?_; rintro e w12 ⟨rfl, hb12⟩; have HB12 := Lib.hid (HB8.out.trans (hb12.mono HB8.out.size)); clear hb12)
              | (go_at_call 23; refine (HLV.out _).mono ?_; rintro e w15 ⟨rfl, hb15⟩))
            go_ret
            exact ⟨rfl, HB4.out.trans ((HB12.out.trans (hb15.mono HB12.out.size)).mono HB4.out.size)⟩
          | true =>
            obtain ⟨m, hfb, hrb⟩ := HF2.out rfl
            have HFB := Lib.hid hfb
            have HRB := Lib.hid hrb
            have e5 : (s.toList != s.toList) = false := by simp
            clear hfb hrb HF2
            go_wp2_with (first
              | (go_at_call 30; refine (HST.out _ _ (HT4.out.below HB8.out)).mono ?_; rintro e w12 ⟨rfl, hb12⟩; have HB12 := Lib.hid (HB8.out.trans (hb12.mono HB8.out.size)); clear hb12)
              | (go_at_call 24; refine (HFB.out _ _ (HT4.out.below HB12.out)).mono ?_; rintro e w13 ⟨rfl, hb13⟩; have HB13 := Lib.hid (HB12.out.trans (hb13.mono HB12.out.size)); clear hb13)
              | (go_at_call 28; refine (HRB.out _ _ (HT4.out.below HB13.out)).mono ?_; rintro e w14 ⟨rfl, hb14⟩; have HB14 := Lib.hid (HB13.out.trans (hb14.mono HB13.out.size)); clear hb14)
              | (go_at_call 23; refine (HLV.out _).mono ?_; rintro e w15 ⟨rfl, hb15⟩))
            go_ret
            exact ⟨rfl, HB4.out.trans ((HB14.out.trans (hb15.mono HB14.out.size)).mono HB4.out.size)⟩
end Go.Proofs.Ytjfigngmpagloaa.Tw
