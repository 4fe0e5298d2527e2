/- linhaylaw09.PosixAsks, walked: it returns true. -/
import Derived.Test.YtjfigngmpagloaaQT1
import Derived.Test.YtjfigngmpagloaaQT2
import Derived.Test.YtjfigngmpagloaaQT3
import Derived.Test.YtjfigngmpagloaaQT4


namespace Go.Proofs.Ytjfigngmpagloaa.Ext
end Go.Proofs.Ytjfigngmpagloaa.Ext
namespace Go.Proofs.Ytjfigngmpagloaa.X
open Go.RowKit Go.Proofs.YtjfigngmpagloaaW.PrintWords Go.Proofs.YtjfigngmpagloaaW.PrintLast Go.Proofs.YtjfigngmpagloaaW.PrintMore Go.Proofs.Ytjfigngmpagloaa.Ext
attribute [local go_sem] max2_int min2_int max_two min_two max_three min_three max_four min_four   -- for this text's walks alone
set_option linter.unusedVariables false
set_option linter.unusedSimpArgs false

def linhayref09_Stat.f (k : Nat) (l0_0 : List (S97)) (a0_1 : Int) (a1 : ByteArray) (a2 : Bool) : Option (Int × Int × Int × Int) := (linhayref08_Find.f k l0_0 a0_1 a1 a2).bind fun bt286 => (if bt286.2 = 0 then ((linhayref07_At.f k l0_0 a0_1 bt286.1).bind fun bt288 => (if bt288.2.2.2.1 = 1 then ((linhayref07_List.f k l0_0 a0_1 bt286.1).bind fun t294 => (some (bt286.1, bt288.2.2.2.1, (t294.length : Int), 0))) else (some (bt286.1, bt288.2.2.2.1, (bt288.2.2.2.2.size : Int), 0)))) else (some (0, 0, 0, bt286.2)))
set_option maxHeartbeats 8000000 in
set_option maxRecDepth 100000 in
theorem linhayref09_Stat.calls (k : Nat) (A0_0 : Option Addr) (c0_0 : Nat) (l0_0 : List (S97)) (a0_1 : Int) (a1 : ByteArray) (a2 : Bool) (r1 : Int) (r2 : Int) (r3 : Int) (r4 : Int) (w : World) (hr0_0 : Kd.C k97 w A0_0 l0_0.length l0_0) (hc0_0 : l0_0.length ≤ c0_0) (h : linhayref09_Stat.f k l0_0 a0_1 a1 a2 = some (r1, r2, r3, r4)) :
  Calls Try.prog 14 #[.agg #[.slice A0_0 l0_0.length c0_0, .int .i64 a0_1], .string a1, .bool a2] w fun e w' => e = .returned (.tuple #[.agg #[.int .i64 r1, .int .i64 r2, .int .i64 r3], .int .i64 r4]) ∧ Below w.heap.size w w' := by
 have hu75 := Try.underlying75
 have hu76 := Try.underlying76
 have hu89 := Try.underlying89
 have hu108 := Try.underlying108
 have hu28 := Try.underlying28
 have hu32 := Try.underlying32
 have hu97 := Try.underlying97
 have HR0_0 := Aside0.mk hr0_0
 have HC0_0 := Aside0.mk hc0_0
 clear hr0_0 hc0_0
 have HB := Aside0.mk (Below.refl w.heap.size w)
 have H : ((linhayref08_Find.f k l0_0 a0_1 a1 a2).bind fun bt286 => (if bt286.2 = 0 then ((linhayref07_At.f k l0_0 a0_1 bt286.1).bind fun bt288 => (if bt288.2.2.2.1 = 1 then ((linhayref07_List.f k l0_0 a0_1 bt286.1).bind fun t294 => (some (bt286.1, bt288.2.2.2.1, (t294.length : Int), 0))) else (some (bt286.1, bt288.2.2.2.1, (bt288.2.2.2.2.size : Int), 0)))) else (some (0, 0, 0, bt286.2)))) = some (r1, r2, r3, r4) := h
 clear h
 replace H := Option.bind_eq_some_iff.mp H
 obtain ⟨⟨t286, t287⟩, A40, H⟩ := H
 replace H : (if t287 = 0 then ((linhayref07_At.f k l0_0 a0_1 t286).bind fun bt288 => (if bt288.2.2.2.1 = 1 then ((linhayref07_List.f k l0_0 a0_1 t286).bind fun t294 => (some (t286, bt288.2.2.2.1, (t294.length : Int), 0))) else (some (t286, bt288.2.2.2.1, (bt288.2.2.2.2.size : Int), 0)))) else (some (0, 0, 0, t287))) = some (r1, r2, r3, r4) := H
 have A4 := Aside0.mk A40
 clear A40
 by_cases c5 : t287 = 0
 ·
  rw [if_pos c5] at H
  have c5b0 : (t287 == 0) = true := beq_iff_eq.mpr c5
  have c5b1 : (t287 != 0) = false := bne_eq_false_iff_eq.mpr c5
  clear c5
  replace H := Option.bind_eq_some_iff.mp H
  obtain ⟨⟨t288, t289, t290, t291, t292⟩, A60, H⟩ := H
  replace H : (if t291 = 1 then ((linhayref07_List.f k l0_0 a0_1 t286).bind fun t294 => (some (t286, t291, (t294.length : Int), 0))) else (some (t286, t291, (t292.size : Int), 0))) = some (r1, r2, r3, r4) := H
  have A6 := Aside0.mk A60
  clear A60
  by_cases c7 : t291 = 1
  ·
   rw [if_pos c7] at H
   have c7b0 : (t291 == 1) = true := beq_iff_eq.mpr c7
   have c7b1 : (t291 != 1) = false := bne_eq_false_iff_eq.mpr c7
   clear c7
   replace H := Option.bind_eq_some_iff.mp H
   obtain ⟨t294, A80, H⟩ := H
   replace H : (some (t286, t291, (t294.length : Int), 0)) = some (r1, r2, r3, r4) := H
   have A8 := Aside0.mk A80
   clear A80
   simp only [Option.some.injEq, Prod.mk.injEq] at H
   obtain ⟨rfl, rfl, rfl, rfl⟩ := H
   go_enter Try.func14, Try.ntmps14
   go_wp2_with (first | ((with_reducible refine gate_dst (N := 3) rfl ?_); refine box_event ?hg (N := 3) ?hd (cs := #[.slice A0_0 l0_0.length c0_0, .int .i64 a0_1]) (t := 28) ?hr ?_; (case hd => rfl); (case hg => rfl); (case hr => first | (go_simp; done) | (go_simp; rfl)); intro gb284 hg w9 hbox hb; have n0_ := Aside0.mk (below_step (by repeat (first | (with_reducible first | exact HB.out | apply below_alloc | apply pw_below_drewN | apply below_drew1) | exact HB.out)) hb); have n1_ := Aside0.mk (hbox); have n2_ := Aside0.mk ((by rw [hg]; exact (below_size (by repeat (first | (with_reducible first | exact HB.out | apply below_alloc | apply pw_below_drewN | apply below_drew1) | exact HB.out))) : w.heap.size ≤ gb284)); have n3_ := Aside0.mk ((by rw [hg]; exact (below_size (by repeat (first | (with_reducible first | exact HB.out | apply below_alloc | apply pw_below_drewN | apply below_drew1) | exact HB.out))) : w.heap.size ≤ gb284)); clear HB; have HB := n0_; have BK284 := n1_; have GW284 := n2_; have GE284 := n3_; clear n0_ n1_ n2_ n3_; clear hb hbox hg) | ((with_reducible refine gate_dst (N := 6) rfl ?_); refine box_event ?hg (N := 6) ?hd (cs := #[.int .i64 0, .int .i64 0, .int .i64 0]) (t := 32) ?hr ?_; (case hd => rfl); (case hg => rfl); (case hr => first | (go_simp; done) | (go_simp; rfl)); intro gb285 hg w10 hbox hb; have n0_ := Aside0.mk (blk_below (g := gb284) (o := .cells #[.slice A0_0 l0_0.length c0_0, .int .i64 a0_1] 28 (0, 0)) (by (with_reducible repeat (first | refine blk_drewN ?_ _ | refine blk_drew ?_ | refine blk_alloc ?_ _)); exact BK284.out) hb); have n1_ := Aside0.mk (below_step (by repeat (first | (with_reducible first | exact HB.out | apply below_alloc | apply pw_below_drewN | apply below_drew1 | refine below_set ?_ GE284.out) | exact HB.out)) hb); have n2_ := Aside0.mk (hbox); have n3_ := Aside0.mk ((by rw [hg]; exact (below_size (by repeat (first | (with_reducible first | exact HB.out | apply below_alloc | apply pw_below_drewN | apply below_drew1 | refine below_set ?_ GE284.out) | exact HB.out))) : w.heap.size ≤ gb285)); have n4_ := Aside0.mk ((by rw [hg]; exact (below_size (by repeat (first | (with_reducible first | exact HB.out | apply below_alloc | apply pw_below_drewN | apply below_drew1 | refine below_set ?_ GE284.out) | exact HB.out))) : w.heap.size ≤ gb285)); have n5_ := Aside0.mk ((by rw [hg]; exact Nat.ne_of_lt (blk_lt (g := gb284) (o := .cells #[.slice A0_0 l0_0.length c0_0, .int .i64 a0_1] 28 (0, 0)) (by (with_reducible repeat (first | refine blk_drewN ?_ _ | refine blk_drew ?_ | refine blk_alloc ?_ _)); exact BK284.out)) : gb284 ≠ gb285)); have n6_ := Aside0.mk ((by rw [hg]; exact Nat.ne_of_gt (blk_lt (g := gb284) (o := .cells #[.slice A0_0 l0_0.length c0_0, .int .i64 a0_1] 28 (0, 0)) (by (with_reducible repeat (first | refine blk_drewN ?_ _ | refine blk_drew ?_ | refine blk_alloc ?_ _)); exact BK284.out)) : gb285 ≠ gb284)); clear BK284; clear HB; have BK284 := n0_; have HB := n1_; have BK285 := n2_; have GW285 := n3_; have GE285 := n4_; have NB284_285 := n5_; have NB285_284 := n6_; clear n0_ n1_ n2_ n3_ n4_ n5_ n6_; clear hb hbox hg; have hnb11 := NB284_285.out; have hnc11 := NB285_284.out; have hcz12_0 : w10.cell? ⟨gb284, 0, none⟩ = some (.slice A0_0 l0_0.length c0_0) := (blk_cell BK284.out 0).trans rfl; have hcz12_1 : w10.cell? ⟨gb284, 1, none⟩ = some (.int .i64 a0_1) := (blk_cell BK284.out 1).trans rfl; have hfz12_0 := blk_frozen BK284.out 0; have hfz12_1 := blk_frozen BK284.out 1) | ((with_reducible refine gate_callee (f := 25) rfl ?_); refine goesL_ (some 16) rfl rfl Try.func25 (by kernel_rfl) rfl #[.agg #[.slice A0_0 l0_0.length c0_0, .int .i64 a0_1], .string a1, .bool a2] rfl (by (try simp only [List.map_toArray, List.map_cons, List.map_nil]); first | done | rfl | (simp only [List.length_drop, List.length_take]; rfl)) ?_; (with_reducible refine (linhayref08_Find.calls k _ _ l0_0 a0_1 a1 a2 t286 t287 _ ?side1 ?side2 A4.out).mono ?_); (case side1 => repeat (first | exact (Kd.C_below HR0_0.out HB.out) | (with_reducible refine Kd.C_alloc ?_ _) | (with_reducible refine Kd.C_drewN ?_ _) | (with_reducible refine Kd.C_drew ?_))); (case side2 => exact HC0_0.out); rintro e w13 ⟨rfl, hb⟩; refine ⟨_, rfl, ?_⟩; have n0_ := Aside0.mk (blk_below (g := gb284) (o := .cells #[.slice A0_0 l0_0.length c0_0, .int .i64 a0_1] 28 (0, 0)) (by (with_reducible repeat (first | refine blk_drewN ?_ _ | refine blk_drew ?_ | refine blk_alloc ?_ _)); exact BK284.out) hb); have n1_ := Aside0.mk (blk_below (g := gb285) (o := .cells #[.int .i64 0, .int .i64 0, .int .i64 0] 32 (0, 0)) (by (with_reducible repeat (first | refine blk_drewN ?_ _ | refine blk_drew ?_ | refine blk_alloc ?_ _)); exact BK285.out) hb); have n2_ := Aside0.mk (below_step (by repeat (first | (with_reducible first | exact HB.out | apply below_alloc | apply pw_below_drewN | apply below_drew1 | refine below_set ?_ GE284.out | refine below_set ?_ GE285.out) | exact HB.out)) hb); clear BK284; clear BK285; clear HB; have BK284 := n0_; have BK285 := n1_; have HB := n2_; clear n0_ n1_ n2_; (try clear hb); (try clear hb2); (try clear hk); (try clear hi); have hcz14_0 : w13.cell? ⟨gb284, 0, none⟩ = some (.slice A0_0 l0_0.length c0_0) := (blk_cell BK284.out 0).trans rfl; have hcz14_1 : w13.cell? ⟨gb284, 1, none⟩ = some (.int .i64 a0_1) := (blk_cell BK284.out 1).trans rfl; have hfz14_0 := blk_frozen BK284.out 0; have hfz14_1 := blk_frozen BK284.out 1) | ((with_reducible refine gate_callee (f := 49) rfl ?_); refine goesL_ (some 25) rfl rfl Try.func49 (by kernel_rfl) rfl #[.agg #[.slice A0_0 l0_0.length c0_0, .int .i64 a0_1], .int .i64 t286] rfl (by (try simp only [List.map_toArray, List.map_cons, List.map_nil]); first | done | rfl | (simp only [List.length_drop, List.length_take]; rfl)) ?_; (with_reducible refine (linhayref07_At.calls k _ _ l0_0 a0_1 t286 t288 t289 t290 t291 t292 _ ?side1 ?side2 A6.out).mono ?_); (case side1 => repeat (first | exact (Kd.C_below HR0_0.out HB.out) | (with_reducible refine Kd.C_alloc ?_ _) | (with_reducible refine Kd.C_drewN ?_ _) | (with_reducible refine Kd.C_drew ?_))); (case side2 => exact HC0_0.out); rintro e w15 ⟨rfl, hb⟩; refine ⟨_, rfl, ?_⟩; have n0_ := Aside0.mk (blk_below (g := gb284) (o := .cells #[.slice A0_0 l0_0.length c0_0, .int .i64 a0_1] 28 (0, 0)) (by (with_reducible repeat (first | refine blk_drewN ?_ _ | refine blk_drew ?_ | refine blk_alloc ?_ _)); exact BK284.out) hb); have n1_ := Aside0.mk (blk_below (g := gb285) (o := .cells #[.int .i64 0, .int .i64 0, .int .i64 0] 32 (0, 0)) (by (with_reducible repeat (first | refine blk_drewN ?_ _ | refine blk_drew ?_ | refine blk_alloc ?_ _)); exact BK285.out) hb); have n2_ := Aside0.mk (below_step (by repeat (first | (with_reducible first | exact HB.out | apply below_alloc | apply pw_below_drewN | apply below_drew1 | refine below_set ?_ GE284.out | refine below_set ?_ GE285.out) | exact HB.out)) hb); clear BK284; clear BK285; clear HB; have BK284 := n0_; have BK285 := n1_; have HB := n2_; clear n0_ n1_ n2_; (try clear hb); (try clear hb2); (try clear hk); (try clear hi)) | ((with_reducible refine gate_dst (N := 10) rfl ?_); refine box_event ?hg (N := 10) ?hd (cs := #[.int .i64 0, .int .i64 0, .string (⟨#[]⟩ : ByteArray), .int .i64 0, .string (⟨#[]⟩ : ByteArray)]) (t := 97) ?hr ?_; (case hd => rfl); (case hg => rfl); (case hr => first | (go_simp; done) | (go_simp; rfl)); intro gb293 hg w16 hbox hb; have n0_ := Aside0.mk (blk_below (g := gb284) (o := .cells #[.slice A0_0 l0_0.length c0_0, .int .i64 a0_1] 28 (0, 0)) (by (with_reducible repeat (first | refine blk_drewN ?_ _ | refine blk_drew ?_ | refine blk_alloc ?_ _)); exact BK284.out) hb); have n1_ := Aside0.mk (blk_below (g := gb285) (o := .cells #[.int .i64 0, .int .i64 0, .int .i64 0] 32 (0, 0)) (by (with_reducible repeat (first | refine blk_drewN ?_ _ | refine blk_drew ?_ | refine blk_alloc ?_ _)); exact BK285.out) hb); have n2_ := Aside0.mk (below_step (by repeat (first | (with_reducible first | exact HB.out | apply below_alloc | apply pw_below_drewN | apply below_drew1 | refine below_set ?_ GE284.out | refine below_set ?_ GE285.out) | exact HB.out)) hb); have n3_ := Aside0.mk (hbox); have n4_ := Aside0.mk ((by rw [hg]; exact (below_size (by repeat (first | (with_reducible first | exact HB.out | apply below_alloc | apply pw_below_drewN | apply below_drew1 | refine below_set ?_ GE284.out | refine below_set ?_ GE285.out) | exact HB.out))) : w.heap.size ≤ gb293)); have n5_ := Aside0.mk ((by rw [hg]; exact (below_size (by repeat (first | (with_reducible first | exact HB.out | apply below_alloc | apply pw_below_drewN | apply below_drew1 | refine below_set ?_ GE284.out | refine below_set ?_ GE285.out) | exact HB.out))) : w.heap.size ≤ gb293)); have n6_ := Aside0.mk ((by rw [hg]; exact Nat.ne_of_lt (blk_lt (g := gb284) (o := .cells #[.slice A0_0 l0_0.length c0_0, .int .i64 a0_1] 28 (0, 0)) (by (with_reducible repeat (first | refine blk_drewN ?_ _ | refine blk_drew ?_ | refine blk_alloc ?_ _)); exact BK284.out)) : gb284 ≠ gb293)); have n7_ := Aside0.mk ((by rw [hg]; exact Nat.ne_of_gt (blk_lt (g := gb284) (o := .cells #[.slice A0_0 l0_0.length c0_0, .int .i64 a0_1] 28 (0, 0)) (by (with_reducible repeat (first | refine blk_drewN ?_ _ | refine blk_drew ?_ | refine blk_alloc ?_ _)); exact BK284.out)) : gb293 ≠ gb284)); have n8_ := Aside0.mk ((by rw [hg]; exact Nat.ne_of_lt (blk_lt (g := gb285) (o := .cells #[.int .i64 0, .int .i64 0, .int .i64 0] 32 (0, 0)) (by (with_reducible repeat (first | refine blk_drewN ?_ _ | refine blk_drew ?_ | refine blk_alloc ?_ _)); exact BK285.out)) : gb285 ≠ gb293)); have n9_ := Aside0.mk ((by rw [hg]; exact Nat.ne_of_gt (blk_lt (g := gb285) (o := .cells #[.int .i64 0, .int .i64 0, .int .i64 0] 32 (0, 0)) (by (with_reducible repeat (first | refine blk_drewN ?_ _ | refine blk_drew ?_ | refine blk_alloc ?_ _)); exact BK285.out)) : gb293 ≠ gb285)); clear BK284; clear BK285; clear HB; have BK284 := n0_; have BK285 := n1_; have HB := n2_; have BK293 := n3_; have GW293 := n4_; have GE293 := n5_; have NB284_293 := n6_; have NB293_284 := n7_; have NB285_293 := n8_; have NB293_285 := n9_; clear n0_ n1_ n2_ n3_ n4_ n5_ n6_ n7_ n8_ n9_; clear hb hbox hg; have hnb17 := NB293_284.out; have hnc17 := NB284_293.out; have hnb18 := NB293_285.out; have hnc18 := NB285_293.out; have hcz19_0 : w16.cell? ⟨gb293, 0, none⟩ = some (.int .i64 0) := (blk_cell BK293.out 0).trans rfl; have hcz19_1 : w16.cell? ⟨gb293, 1, none⟩ = some (.int .i64 0) := (blk_cell BK293.out 1).trans rfl; have hcz19_2 : w16.cell? ⟨gb293, 2, none⟩ = some (.string (⟨#[]⟩ : ByteArray)) := (blk_cell BK293.out 2).trans rfl; have hcz19_3 : w16.cell? ⟨gb293, 3, none⟩ = some (.int .i64 0) := (blk_cell BK293.out 3).trans rfl; have hcz19_4 : w16.cell? ⟨gb293, 4, none⟩ = some (.string (⟨#[]⟩ : ByteArray)) := (blk_cell BK293.out 4).trans rfl; have hfz19_0 := blk_frozen BK293.out 0; have hfz19_1 := blk_frozen BK293.out 1; have hfz19_2 := blk_frozen BK293.out 2; have hfz19_3 := blk_frozen BK293.out 3; have hfz19_4 := blk_frozen BK293.out 4; have hcz20_0 : w16.cell? ⟨gb284, 0, none⟩ = some (.slice A0_0 l0_0.length c0_0) := (blk_cell BK284.out 0).trans rfl; have hcz20_1 : w16.cell? ⟨gb284, 1, none⟩ = some (.int .i64 a0_1) := (blk_cell BK284.out 1).trans rfl; have hfz20_0 := blk_frozen BK284.out 0; have hfz20_1 := blk_frozen BK284.out 1) | ((with_reducible refine gate_callee (f := 50) rfl ?_); refine goesL_ (some 34) rfl rfl Try.func50 (by kernel_rfl) rfl #[.agg #[.slice A0_0 l0_0.length c0_0, .int .i64 a0_1], .int .i64 t286] rfl (by (try simp only [List.map_toArray, List.map_cons, List.map_nil]); first | done | rfl | (simp only [List.length_drop, List.length_take]; rfl)) ?_; (with_reducible refine (linhayref07_List.calls k _ _ l0_0 a0_1 t286 t294 _ ?side1 ?side2 A8.out).mono ?_); (case side1 => exact Kd.C_below HR0_0.out (by repeat (first | (with_reducible first | exact HB.out | apply below_alloc | apply pw_below_drewN | apply below_drew1 | refine below_set ?_ GE284.out | refine below_set ?_ GE285.out | refine below_set ?_ GE293.out) | exact HB.out))); (case side2 => exact HC0_0.out); rintro e w21 ⟨v295, rfl, ho0, hb⟩; refine ⟨_, rfl, ?_⟩; have n0_ := Aside0.mk (Kd.R_lower ho0 (below_size (by repeat (first | (with_reducible first | exact HB.out | apply below_alloc | apply pw_below_drewN | apply below_drew1 | refine below_set ?_ GE284.out | refine below_set ?_ GE285.out | refine below_set ?_ GE293.out) | exact HB.out)))); have n1_ := Aside0.mk (blk_below (g := gb284) (o := .cells #[.slice A0_0 l0_0.length c0_0, .int .i64 a0_1] 28 (0, 0)) (by (with_reducible repeat (first | refine blk_drewN ?_ _ | refine blk_drew ?_ | refine blk_alloc ?_ _)); refine blk_far ?_ NB284_293.out _; (with_reducible repeat (first | refine blk_drewN ?_ _ | refine blk_drew ?_ | refine blk_alloc ?_ _)); refine blk_far ?_ NB284_293.out _; (with_reducible repeat (first | refine blk_drewN ?_ _ | refine blk_drew ?_ | refine blk_alloc ?_ _)); refine blk_far ?_ NB284_293.out _; (with_reducible repeat (first | refine blk_drewN ?_ _ | refine blk_drew ?_ | refine blk_alloc ?_ _)); refine blk_far ?_ NB284_293.out _; (with_reducible repeat (first | refine blk_drewN ?_ _ | refine blk_drew ?_ | refine blk_alloc ?_ _)); refine blk_far ?_ NB284_293.out _; (with_reducible repeat (first | refine blk_drewN ?_ _ | refine blk_drew ?_ | refine blk_alloc ?_ _)); exact BK284.out) hb); have n2_ := Aside0.mk (blk_below (g := gb285) (o := .cells #[.int .i64 0, .int .i64 0, .int .i64 0] 32 (0, 0)) (by (with_reducible repeat (first | refine blk_drewN ?_ _ | refine blk_drew ?_ | refine blk_alloc ?_ _)); refine blk_far ?_ NB285_293.out _; (with_reducible repeat (first | refine blk_drewN ?_ _ | refine blk_drew ?_ | refine blk_alloc ?_ _)); refine blk_far ?_ NB285_293.out _; (with_reducible repeat (first | refine blk_drewN ?_ _ | refine blk_drew ?_ | refine blk_alloc ?_ _)); refine blk_far ?_ NB285_293.out _; (with_reducible repeat (first | refine blk_drewN ?_ _ | refine blk_drew ?_ | refine blk_alloc ?_ _)); refine blk_far ?_ NB285_293.out _; (with_reducible repeat (first | refine blk_drewN ?_ _ | refine blk_drew ?_ | refine blk_alloc ?_ _)); refine blk_far ?_ NB285_293.out _; (with_reducible repeat (first | refine blk_drewN ?_ _ | refine blk_drew ?_ | refine blk_alloc ?_ _)); exact BK285.out) hb); have n3_ := Aside0.mk (blk_below (g := gb293) (o := .cells #[.int .i64 t288, .int .i64 t289, .string t290, .int .i64 t291, .string t292] 97 (0, 0)) (by (with_reducible repeat (first | refine blk_drewN ?_ _ | refine blk_drew ?_ | refine blk_alloc ?_ _)); refine blk_put (cs := #[.int .i64 t288, .int .i64 t289, .string t290, .int .i64 t291, .string (⟨#[]⟩ : ByteArray)]) ?_ 4 _ rfl; (with_reducible repeat (first | refine blk_drewN ?_ _ | refine blk_drew ?_ | refine blk_alloc ?_ _)); refine blk_put (cs := #[.int .i64 t288, .int .i64 t289, .string t290, .int .i64 0, .string (⟨#[]⟩ : ByteArray)]) ?_ 3 _ rfl; (with_reducible repeat (first | refine blk_drewN ?_ _ | refine blk_drew ?_ | refine blk_alloc ?_ _)); refine blk_put (cs := #[.int .i64 t288, .int .i64 t289, .string (⟨#[]⟩ : ByteArray), .int .i64 0, .string (⟨#[]⟩ : ByteArray)]) ?_ 2 _ rfl; (with_reducible repeat (first | refine blk_drewN ?_ _ | refine blk_drew ?_ | refine blk_alloc ?_ _)); refine blk_put (cs := #[.int .i64 t288, .int .i64 0, .string (⟨#[]⟩ : ByteArray), .int .i64 0, .string (⟨#[]⟩ : ByteArray)]) ?_ 1 _ rfl; (with_reducible repeat (first | refine blk_drewN ?_ _ | refine blk_drew ?_ | refine blk_alloc ?_ _)); refine blk_put (cs := #[.int .i64 0, .int .i64 0, .string (⟨#[]⟩ : ByteArray), .int .i64 0, .string (⟨#[]⟩ : ByteArray)]) ?_ 0 _ rfl; (with_reducible repeat (first | refine blk_drewN ?_ _ | refine blk_drew ?_ | refine blk_alloc ?_ _)); exact BK293.out) hb); have n4_ := Aside0.mk (below_step (by repeat (first | (with_reducible first | exact HB.out | apply below_alloc | apply pw_below_drewN | apply below_drew1 | refine below_set ?_ GE284.out | refine below_set ?_ GE285.out | refine below_set ?_ GE293.out) | exact HB.out)) hb); clear BK284; clear BK285; clear BK293; clear HB; have HO296 := n0_; have BK284 := n1_; have BK285 := n2_; have BK293 := n3_; have HB := n4_; clear n0_ n1_ n2_ n3_ n4_; (try clear hb); (try clear hb2); (try clear hk); (try clear hi); (try clear ho0); obtain ⟨Ao22, co22, eo22⟩ := Kd.R_slice HO296.out; subst eo22; have hcz23_0 : w21.cell? ⟨gb293, 0, none⟩ = some (.int .i64 t288) := (blk_cell BK293.out 0).trans rfl; have hcz23_1 : w21.cell? ⟨gb293, 1, none⟩ = some (.int .i64 t289) := (blk_cell BK293.out 1).trans rfl; have hcz23_2 : w21.cell? ⟨gb293, 2, none⟩ = some (.string t290) := (blk_cell BK293.out 2).trans rfl; have hcz23_3 : w21.cell? ⟨gb293, 3, none⟩ = some (.int .i64 t291) := (blk_cell BK293.out 3).trans rfl; have hcz23_4 : w21.cell? ⟨gb293, 4, none⟩ = some (.string t292) := (blk_cell BK293.out 4).trans rfl; have hfz23_0 := blk_frozen BK293.out 0; have hfz23_1 := blk_frozen BK293.out 1; have hfz23_2 := blk_frozen BK293.out 2; have hfz23_3 := blk_frozen BK293.out 3; have hfz23_4 := blk_frozen BK293.out 4; have hcz24_0 : w21.cell? ⟨gb285, 0, none⟩ = some (.int .i64 0) := (blk_cell BK285.out 0).trans rfl; have hcz24_1 : w21.cell? ⟨gb285, 1, none⟩ = some (.int .i64 0) := (blk_cell BK285.out 1).trans rfl; have hcz24_2 : w21.cell? ⟨gb285, 2, none⟩ = some (.int .i64 0) := (blk_cell BK285.out 2).trans rfl; have hfz24_0 := blk_frozen BK285.out 0; have hfz24_1 := blk_frozen BK285.out 1; have hfz24_2 := blk_frozen BK285.out 2))
   refine bodyPost_ret (results_ct rfl _ _ gb285 32 #[.int .i64 t286, .int .i64 t291, .int .i64 (t294.length : Int)] (0, 0) _ rfl (by (with_reducible repeat (first | refine blk_drewN ?_ _ | refine blk_drew ?_ | refine blk_alloc ?_ _)); refine blk_put (cs := #[.int .i64 t286, .int .i64 t291, .int .i64 0]) ?_ 2 _ rfl; (with_reducible repeat (first | refine blk_drewN ?_ _ | refine blk_drew ?_ | refine blk_alloc ?_ _)); refine blk_put (cs := #[.int .i64 t286, .int .i64 0, .int .i64 0]) ?_ 1 _ rfl; (with_reducible repeat (first | refine blk_drewN ?_ _ | refine blk_drew ?_ | refine blk_alloc ?_ _)); refine blk_put (cs := #[.int .i64 0, .int .i64 0, .int .i64 0]) ?_ 0 _ rfl; (with_reducible repeat (first | refine blk_drewN ?_ _ | refine blk_drew ?_ | refine blk_alloc ?_ _)); exact BK285.out) Try.underlying32 rfl (by kernel_rfl)) rfl ?_
   exact ⟨by first | rfl | (simp [errW_none, errW_some] <;> rfl) | (simp [*, errW_none, errW_some] <;> rfl) | (simp [errW_none, errW_some, bne_nil]; done) | (simp [*, bne_nil]; done) | (simp [bne]; done), by repeat (first | (with_reducible first | exact HB.out | apply below_alloc | apply pw_below_drewN | apply below_drew1 | refine below_set ?_ GE284.out | refine below_set ?_ GE285.out | refine below_set ?_ GE293.out) | exact HB.out)⟩
  ·
   rw [if_neg c7] at H
   have c7b0 : (t291 == 1) = false := beq_eq_false_iff_ne.mpr c7
   have c7b1 : (t291 != 1) = true := bne_iff_ne.mpr c7
   simp only [Option.some.injEq, Prod.mk.injEq] at H
   obtain ⟨rfl, rfl, rfl, rfl⟩ := H
   go_enter Try.func14, Try.ntmps14
   go_wp2_with (first | ((with_reducible refine gate_dst (N := 3) rfl ?_); refine box_event ?hg (N := 3) ?hd (cs := #[.slice A0_0 l0_0.length c0_0, .int .i64 a0_1]) (t := 28) ?hr ?_; (case hd => rfl); (case hg => rfl); (case hr => first | (go_simp; done) | (go_simp; rfl)); intro gb284 hg w25 hbox hb; have n0_ := Aside0.mk (below_step (by repeat (first | (with_reducible first | exact HB.out | apply below_alloc | apply pw_below_drewN | apply below_drew1) | exact HB.out)) hb); have n1_ := Aside0.mk (hbox); have n2_ := Aside0.mk ((by rw [hg]; exact (below_size (by repeat (first | (with_reducible first | exact HB.out | apply below_alloc | apply pw_below_drewN | apply below_drew1) | exact HB.out))) : w.heap.size ≤ gb284)); have n3_ := Aside0.mk ((by rw [hg]; exact (below_size (by repeat (first | (with_reducible first | exact HB.out | apply below_alloc | apply pw_below_drewN | apply below_drew1) | exact HB.out))) : w.heap.size ≤ gb284)); clear HB; have HB := n0_; have BK284 := n1_; have GW284 := n2_; have GE284 := n3_; clear n0_ n1_ n2_ n3_; clear hb hbox hg) | ((with_reducible refine gate_dst (N := 6) rfl ?_); refine box_event ?hg (N := 6) ?hd (cs := #[.int .i64 0, .int .i64 0, .int .i64 0]) (t := 32) ?hr ?_; (case hd => rfl); (case hg => rfl); (case hr => first | (go_simp; done) | (go_simp; rfl)); intro gb285 hg w26 hbox hb; have n0_ := Aside0.mk (blk_below (g := gb284) (o := .cells #[.slice A0_0 l0_0.length c0_0, .int .i64 a0_1] 28 (0, 0)) (by (with_reducible repeat (first | refine blk_drewN ?_ _ | refine blk_drew ?_ | refine blk_alloc ?_ _)); exact BK284.out) hb); have n1_ := Aside0.mk (below_step (by repeat (first | (with_reducible first | exact HB.out | apply below_alloc | apply pw_below_drewN | apply below_drew1 | refine below_set ?_ GE284.out) | exact HB.out)) hb); have n2_ := Aside0.mk (hbox); have n3_ := Aside0.mk ((by rw [hg]; exact (below_size (by repeat (first | (with_reducible first | exact HB.out | apply below_alloc | apply pw_below_drewN | apply below_drew1 | refine below_set ?_ GE284.out) | exact HB.out))) : w.heap.size ≤ gb285)); have n4_ := Aside0.mk ((by rw [hg]; exact (below_size (by repeat (first | (with_reducible first | exact HB.out | apply below_alloc | apply pw_below_drewN | apply below_drew1 | refine below_set ?_ GE284.out) | exact HB.out))) : w.heap.size ≤ gb285)); have n5_ := Aside0.mk ((by rw [hg]; exact Nat.ne_of_lt (blk_lt (g := gb284) (o := .cells #[.slice A0_0 l0_0.length c0_0, .int .i64 a0_1] 28 (0, 0)) (by (with_reducible repeat (first | refine blk_drewN ?_ _ | refine blk_drew ?_ | refine blk_alloc ?_ _)); exact BK284.out)) : gb284 ≠ gb285)); have n6_ := Aside0.mk ((by rw [hg]; exact Nat.ne_of_gt (blk_lt (g := gb284) (o := .cells #[.slice A0_0 l0_0.length c0_0, .int .i64 a0_1] 28 (0, 0)) (by (with_reducible repeat (first | refine blk_drewN ?_ _ | refine blk_drew ?_ | refine blk_alloc ?_ _)); exact BK284.out)) : gb285 ≠ gb284)); clear BK284; clear HB; have BK284 := n0_; have HB := n1_; have BK285 := n2_; have GW285 := n3_; have GE285 := n4_; have NB284_285 := n5_; have NB285_284 := n6_; clear n0_ n1_ n2_ n3_ n4_ n5_ n6_; clear hb hbox hg; have hnb27 := NB284_285.out; have hnc27 := NB285_284.out; have hcz28_0 : w26.cell? ⟨gb284, 0, none⟩ = some (.slice A0_0 l0_0.length c0_0) := (blk_cell BK284.out 0).trans rfl; have hcz28_1 : w26.cell? ⟨gb284, 1, none⟩ = some (.int .i64 a0_1) := (blk_cell BK284.out 1).trans rfl; have hfz28_0 := blk_frozen BK284.out 0; have hfz28_1 := blk_frozen BK284.out 1) | ((with_reducible refine gate_callee (f := 25) rfl ?_); refine goesL_ (some 16) rfl rfl Try.func25 (by kernel_rfl) rfl #[.agg #[.slice A0_0 l0_0.length c0_0, .int .i64 a0_1], .string a1, .bool a2] rfl (by (try simp only [List.map_toArray, List.map_cons, List.map_nil]); first | done | rfl | (simp only [List.length_drop, List.length_take]; rfl)) ?_; (with_reducible refine (linhayref08_Find.calls k _ _ l0_0 a0_1 a1 a2 t286 t287 _ ?side1 ?side2 A4.out).mono ?_); (case side1 => repeat (first | exact (Kd.C_below HR0_0.out HB.out) | (with_reducible refine Kd.C_alloc ?_ _) | (with_reducible refine Kd.C_drewN ?_ _) | (with_reducible refine Kd.C_drew ?_))); (case side2 => exact HC0_0.out); rintro e w29 ⟨rfl, hb⟩; refine ⟨_, rfl, ?_⟩; have n0_ := Aside0.mk (blk_below (g := gb284) (o := .cells #[.slice A0_0 l0_0.length c0_0, .int .i64 a0_1] 28 (0, 0)) (by (with_reducible repeat (first | refine blk_drewN ?_ _ | refine blk_drew ?_ | refine blk_alloc ?_ _)); exact BK284.out) hb); have n1_ := Aside0.mk (blk_below (g := gb285) (o := .cells #[.int .i64 0, .int .i64 0, .int .i64 0] 32 (0, 0)) (by (with_reducible repeat (first | refine blk_drewN ?_ _ | refine blk_drew ?_ | refine blk_alloc ?_ _)); exact BK285.out) hb); have n2_ := Aside0.mk (below_step (by repeat (first | (with_reducible first | exact HB.out | apply below_alloc | apply pw_below_drewN | apply below_drew1 | refine below_set ?_ GE284.out | refine below_set ?_ GE285.out) | exact HB.out)) hb); clear BK284; clear BK285; clear HB; have BK284 := n0_; have BK285 := n1_; have HB := n2_; clear n0_ n1_ n2_; (try clear hb); (try clear hb2); (try clear hk); (try clear hi); have hcz30_0 : w29.cell? ⟨gb284, 0, none⟩ = some (.slice A0_0 l0_0.length c0_0) := (blk_cell BK284.out 0).trans rfl; have hcz30_1 : w29.cell? ⟨gb284, 1, none⟩ = some (.int .i64 a0_1) := (blk_cell BK284.out 1).trans rfl; have hfz30_0 := blk_frozen BK284.out 0; have hfz30_1 := blk_frozen BK284.out 1) | ((with_reducible refine gate_callee (f := 49) rfl ?_); refine goesL_ (some 25) rfl rfl Try.func49 (by kernel_rfl) rfl #[.agg #[.slice A0_0 l0_0.length c0_0, .int .i64 a0_1], .int .i64 t286] rfl (by (try simp only [List.map_toArray, List.map_cons, List.map_nil]); first | done | rfl | (simp only [List.length_drop, List.length_take]; rfl)) ?_; (with_reducible refine (linhayref07_At.calls k _ _ l0_0 a0_1 t286 t288 t289 t290 t291 t292 _ ?side1 ?side2 A6.out).mono ?_); (case side1 => repeat (first | exact (Kd.C_below HR0_0.out HB.out) | (with_reducible refine Kd.C_alloc ?_ _) | (with_reducible refine Kd.C_drewN ?_ _) | (with_reducible refine Kd.C_drew ?_))); (case side2 => exact HC0_0.out); rintro e w31 ⟨rfl, hb⟩; refine ⟨_, rfl, ?_⟩; have n0_ := Aside0.mk (blk_below (g := gb284) (o := .cells #[.slice A0_0 l0_0.length c0_0, .int .i64 a0_1] 28 (0, 0)) (by (with_reducible repeat (first | refine blk_drewN ?_ _ | refine blk_drew ?_ | refine blk_alloc ?_ _)); exact BK284.out) hb); have n1_ := Aside0.mk (blk_below (g := gb285) (o := .cells #[.int .i64 0, .int .i64 0, .int .i64 0] 32 (0, 0)) (by (with_reducible repeat (first | refine blk_drewN ?_ _ | refine blk_drew ?_ | refine blk_alloc ?_ _)); exact BK285.out) hb); have n2_ := Aside0.mk (below_step (by repeat (first | (with_reducible first | exact HB.out | apply below_alloc | apply pw_below_drewN | apply below_drew1 | refine below_set ?_ GE284.out | refine below_set ?_ GE285.out) | exact HB.out)) hb); clear BK284; clear BK285; clear HB; have BK284 := n0_; have BK285 := n1_; have HB := n2_; clear n0_ n1_ n2_; (try clear hb); (try clear hb2); (try clear hk); (try clear hi)) | ((with_reducible refine gate_dst (N := 10) rfl ?_); refine box_event ?hg (N := 10) ?hd (cs := #[.int .i64 0, .int .i64 0, .string (⟨#[]⟩ : ByteArray), .int .i64 0, .string (⟨#[]⟩ : ByteArray)]) (t := 97) ?hr ?_; (case hd => rfl); (case hg => rfl); (case hr => first | (go_simp; done) | (go_simp; rfl)); intro gb293 hg w32 hbox hb; have n0_ := Aside0.mk (blk_below (g := gb284) (o := .cells #[.slice A0_0 l0_0.length c0_0, .int .i64 a0_1] 28 (0, 0)) (by (with_reducible repeat (first | refine blk_drewN ?_ _ | refine blk_drew ?_ | refine blk_alloc ?_ _)); exact BK284.out) hb); have n1_ := Aside0.mk (blk_below (g := gb285) (o := .cells #[.int .i64 0, .int .i64 0, .int .i64 0] 32 (0, 0)) (by (with_reducible repeat (first | refine blk_drewN ?_ _ | refine blk_drew ?_ | refine blk_alloc ?_ _)); exact BK285.out) hb); have n2_ := Aside0.mk (below_step (by repeat (first | (with_reducible first | exact HB.out | apply below_alloc | apply pw_below_drewN | apply below_drew1 | refine below_set ?_ GE284.out | refine below_set ?_ GE285.out) | exact HB.out)) hb); have n3_ := Aside0.mk (hbox); have n4_ := Aside0.mk ((by rw [hg]; exact (below_size (by repeat (first | (with_reducible first | exact HB.out | apply below_alloc | apply pw_below_drewN | apply below_drew1 | refine below_set ?_ GE284.out | refine below_set ?_ GE285.out) | exact HB.out))) : w.heap.size ≤ gb293)); have n5_ := Aside0.mk ((by rw [hg]; exact (below_size (by repeat (first | (with_reducible first | exact HB.out | apply below_alloc | apply pw_below_drewN | apply below_drew1 | refine below_set ?_ GE284.out | refine below_set ?_ GE285.out) | exact HB.out))) : w.heap.size ≤ gb293)); have n6_ := Aside0.mk ((by rw [hg]; exact Nat.ne_of_lt (blk_lt (g := gb284) (o := .cells #[.slice A0_0 l0_0.length c0_0, .int .i64 a0_1] 28 (0, 0)) (by (with_reducible repeat (first | refine blk_drewN ?_ _ | refine blk_drew ?_ | refine blk_alloc ?_ _)); exact BK284.out)) : gb284 ≠ gb293)); have n7_ := Aside0.mk ((by rw [hg]; exact Nat.ne_of_gt (blk_lt (g := gb284) (o := .cells #[.slice A0_0 l0_0.length c0_0, .int .i64 a0_1] 28 (0, 0)) (by (with_reducible repeat (first | refine blk_drewN ?_ _ | refine blk_drew ?_ | refine blk_alloc ?_ _)); exact BK284.out)) : gb293 ≠ gb284)); have n8_ := Aside0.mk ((by rw [hg]; exact Nat.ne_of_lt (blk_lt (g := gb285) (o := .cells #[.int .i64 0, .int .i64 0, .int .i64 0] 32 (0, 0)) (by (with_reducible repeat (first | refine blk_drewN ?_ _ | refine blk_drew ?_ | refine blk_alloc ?_ _)); exact BK285.out)) : gb285 ≠ gb293)); have n9_ := Aside0.mk ((by rw [hg]; exact Nat.ne_of_gt (blk_lt (g := gb285) (o := .cells #[.int .i64 0, .int .i64 0, .int .i64 0] 32 (0, 0)) (by (with_reducible repeat (first | refine blk_drewN ?_ _ | refine blk_drew ?_ | refine blk_alloc ?_ _)); exact BK285.out)) : gb293 ≠ gb285)); clear BK284; clear BK285; clear HB; have BK284 := n0_; have BK285 := n1_; have HB := n2_; have BK293 := n3_; have GW293 := n4_; have GE293 := n5_; have NB284_293 := n6_; have NB293_284 := n7_; have NB285_293 := n8_; have NB293_285 := n9_; clear n0_ n1_ n2_ n3_ n4_ n5_ n6_ n7_ n8_ n9_; clear hb hbox hg; have hnb33 := NB293_284.out; have hnc33 := NB284_293.out; have hnb34 := NB293_285.out; have hnc34 := NB285_293.out; have hcz35_0 : w32.cell? ⟨gb293, 0, none⟩ = some (.int .i64 0) := (blk_cell BK293.out 0).trans rfl; have hcz35_1 : w32.cell? ⟨gb293, 1, none⟩ = some (.int .i64 0) := (blk_cell BK293.out 1).trans rfl; have hcz35_2 : w32.cell? ⟨gb293, 2, none⟩ = some (.string (⟨#[]⟩ : ByteArray)) := (blk_cell BK293.out 2).trans rfl; have hcz35_3 : w32.cell? ⟨gb293, 3, none⟩ = some (.int .i64 0) := (blk_cell BK293.out 3).trans rfl; have hcz35_4 : w32.cell? ⟨gb293, 4, none⟩ = some (.string (⟨#[]⟩ : ByteArray)) := (blk_cell BK293.out 4).trans rfl; have hfz35_0 := blk_frozen BK293.out 0; have hfz35_1 := blk_frozen BK293.out 1; have hfz35_2 := blk_frozen BK293.out 2; have hfz35_3 := blk_frozen BK293.out 3; have hfz35_4 := blk_frozen BK293.out 4; have hcz36_0 : w32.cell? ⟨gb285, 0, none⟩ = some (.int .i64 0) := (blk_cell BK285.out 0).trans rfl; have hcz36_1 : w32.cell? ⟨gb285, 1, none⟩ = some (.int .i64 0) := (blk_cell BK285.out 1).trans rfl; have hcz36_2 : w32.cell? ⟨gb285, 2, none⟩ = some (.int .i64 0) := (blk_cell BK285.out 2).trans rfl; have hfz36_0 := blk_frozen BK285.out 0; have hfz36_1 := blk_frozen BK285.out 1; have hfz36_2 := blk_frozen BK285.out 2))
   refine bodyPost_ret (results_ct rfl _ _ gb285 32 #[.int .i64 t286, .int .i64 t291, .int .i64 (t292.size : Int)] (0, 0) _ rfl (by (with_reducible repeat (first | refine blk_drewN ?_ _ | refine blk_drew ?_ | refine blk_alloc ?_ _)); refine blk_put (cs := #[.int .i64 t286, .int .i64 t291, .int .i64 0]) ?_ 2 _ rfl; (with_reducible repeat (first | refine blk_drewN ?_ _ | refine blk_drew ?_ | refine blk_alloc ?_ _)); refine blk_put (cs := #[.int .i64 t286, .int .i64 0, .int .i64 0]) ?_ 1 _ rfl; (with_reducible repeat (first | refine blk_drewN ?_ _ | refine blk_drew ?_ | refine blk_alloc ?_ _)); refine blk_put (cs := #[.int .i64 0, .int .i64 0, .int .i64 0]) ?_ 0 _ rfl; (with_reducible repeat (first | refine blk_drewN ?_ _ | refine blk_drew ?_ | refine blk_alloc ?_ _)); refine blk_far ?_ NB285_293.out _; (with_reducible repeat (first | refine blk_drewN ?_ _ | refine blk_drew ?_ | refine blk_alloc ?_ _)); refine blk_far ?_ NB285_293.out _; (with_reducible repeat (first | refine blk_drewN ?_ _ | refine blk_drew ?_ | refine blk_alloc ?_ _)); refine blk_far ?_ NB285_293.out _; (with_reducible repeat (first | refine blk_drewN ?_ _ | refine blk_drew ?_ | refine blk_alloc ?_ _)); refine blk_far ?_ NB285_293.out _; (with_reducible repeat (first | refine blk_drewN ?_ _ | refine blk_drew ?_ | refine blk_alloc ?_ _)); refine blk_far ?_ NB285_293.out _; (with_reducible repeat (first | refine blk_drewN ?_ _ | refine blk_drew ?_ | refine blk_alloc ?_ _)); exact BK285.out) Try.underlying32 rfl (by kernel_rfl)) rfl ?_
   exact ⟨by first | rfl | (simp [errW_none, errW_some] <;> rfl) | (simp [*, errW_none, errW_some] <;> rfl) | (simp [errW_none, errW_some, bne_nil]; done) | (simp [*, bne_nil]; done) | (simp [bne]; done), by repeat (first | (with_reducible first | exact HB.out | apply below_alloc | apply pw_below_drewN | apply below_drew1 | refine below_set ?_ GE284.out | refine below_set ?_ GE285.out | refine below_set ?_ GE293.out) | exact HB.out)⟩
 ·
  rw [if_neg c5] at H
  have c5b0 : (t287 == 0) = false := beq_eq_false_iff_ne.mpr c5
  have c5b1 : (t287 != 0) = true := bne_iff_ne.mpr c5
  simp only [Option.some.injEq, Prod.mk.injEq] at H
  obtain ⟨rfl, rfl, rfl, rfl⟩ := H
  go_enter Try.func14, Try.ntmps14
  go_wp2_with (first | ((with_reducible refine gate_dst (N := 3) rfl ?_); refine box_event ?hg (N := 3) ?hd (cs := #[.slice A0_0 l0_0.length c0_0, .int .i64 a0_1]) (t := 28) ?hr ?_; (case hd => rfl); (case hg => rfl); (case hr => first | (go_simp; done) | (go_simp; rfl)); intro gb284 hg w37 hbox hb; have n0_ := Aside0.mk (below_step (by repeat (first | (with_reducible first | exact HB.out | apply below_alloc | apply pw_below_drewN | apply below_drew1) | exact HB.out)) hb); have n1_ := Aside0.mk (hbox); have n2_ := Aside0.mk ((by rw [hg]; exact (below_size (by repeat (first | (with_reducible first | exact HB.out | apply below_alloc | apply pw_below_drewN | apply below_drew1) | exact HB.out))) : w.heap.size ≤ gb284)); have n3_ := Aside0.mk ((by rw [hg]; exact (below_size (by repeat (first | (with_reducible first | exact HB.out | apply below_alloc | apply pw_below_drewN | apply below_drew1) | exact HB.out))) : w.heap.size ≤ gb284)); clear HB; have HB := n0_; have BK284 := n1_; have GW284 := n2_; have GE284 := n3_; clear n0_ n1_ n2_ n3_; clear hb hbox hg) | ((with_reducible refine gate_dst (N := 6) rfl ?_); refine box_event ?hg (N := 6) ?hd (cs := #[.int .i64 0, .int .i64 0, .int .i64 0]) (t := 32) ?hr ?_; (case hd => rfl); (case hg => rfl); (case hr => first | (go_simp; done) | (go_simp; rfl)); intro gb285 hg w38 hbox hb; have n0_ := Aside0.mk (blk_below (g := gb284) (o := .cells #[.slice A0_0 l0_0.length c0_0, .int .i64 a0_1] 28 (0, 0)) (by (with_reducible repeat (first | refine blk_drewN ?_ _ | refine blk_drew ?_ | refine blk_alloc ?_ _)); exact BK284.out) hb); have n1_ := Aside0.mk (below_step (by repeat (first | (with_reducible first | exact HB.out | apply below_alloc | apply pw_below_drewN | apply below_drew1 | refine below_set ?_ GE284.out) | exact HB.out)) hb); have n2_ := Aside0.mk (hbox); have n3_ := Aside0.mk ((by rw [hg]; exact (below_size (by repeat (first | (with_reducible first | exact HB.out | apply below_alloc | apply pw_below_drewN | apply below_drew1 | refine below_set ?_ GE284.out) | exact HB.out))) : w.heap.size ≤ gb285)); have n4_ := Aside0.mk ((by rw [hg]; exact (below_size (by repeat (first | (with_reducible first | exact HB.out | apply below_alloc | apply pw_below_drewN | apply below_drew1 | refine below_set ?_ GE284.out) | exact HB.out))) : w.heap.size ≤ gb285)); have n5_ := Aside0.mk ((by rw [hg]; exact Nat.ne_of_lt (blk_lt (g := gb284) (o := .cells #[.slice A0_0 l0_0.length c0_0, .int .i64 a0_1] 28 (0, 0)) (by (with_reducible repeat (first | refine blk_drewN ?_ _ | refine blk_drew ?_ | refine blk_alloc ?_ _)); exact BK284.out)) : gb284 ≠ gb285)); have n6_ := Aside0.mk ((by rw [hg]; exact Nat.ne_of_gt (blk_lt (g := gb284) (o := .cells #[.slice A0_0 l0_0.length c0_0, .int .i64 a0_1] 28 (0, 0)) (by (with_reducible repeat (first | refine blk_drewN ?_ _ | refine blk_drew ?_ | refine blk_alloc ?_ _)); exact BK284.out)) : gb285 ≠ gb284)); clear BK284; clear HB; have BK284 := n0_; have HB := n1_; have BK285 := n2_; have GW285 := n3_; have GE285 := n4_; have NB284_285 := n5_; have NB285_284 := n6_; clear n0_ n1_ n2_ n3_ n4_ n5_ n6_; clear hb hbox hg; have hnb39 := NB284_285.out; have hnc39 := NB285_284.out; have hcz40_0 : w38.cell? ⟨gb284, 0, none⟩ = some (.slice A0_0 l0_0.length c0_0) := (blk_cell BK284.out 0).trans rfl; have hcz40_1 : w38.cell? ⟨gb284, 1, none⟩ = some (.int .i64 a0_1) := (blk_cell BK284.out 1).trans rfl; have hfz40_0 := blk_frozen BK284.out 0; have hfz40_1 := blk_frozen BK284.out 1) | ((with_reducible refine gate_callee (f := 25) rfl ?_); refine goesL_ (some 16) rfl rfl Try.func25 (by kernel_rfl) rfl #[.agg #[.slice A0_0 l0_0.length c0_0, .int .i64 a0_1], .string a1, .bool a2] rfl (by (try simp only [List.map_toArray, List.map_cons, List.map_nil]); first | done | rfl | (simp only [List.length_drop, List.length_take]; rfl)) ?_; (with_reducible refine (linhayref08_Find.calls k _ _ l0_0 a0_1 a1 a2 t286 t287 _ ?side1 ?side2 A4.out).mono ?_); (case side1 => repeat (first | exact (Kd.C_below HR0_0.out HB.out) | (with_reducible refine Kd.C_alloc ?_ _) | (with_reducible refine Kd.C_drewN ?_ _) | (with_reducible refine Kd.C_drew ?_))); (case side2 => exact HC0_0.out); rintro e w41 ⟨rfl, hb⟩; refine ⟨_, rfl, ?_⟩; have n0_ := Aside0.mk (blk_below (g := gb284) (o := .cells #[.slice A0_0 l0_0.length c0_0, .int .i64 a0_1] 28 (0, 0)) (by (with_reducible repeat (first | refine blk_drewN ?_ _ | refine blk_drew ?_ | refine blk_alloc ?_ _)); exact BK284.out) hb); have n1_ := Aside0.mk (blk_below (g := gb285) (o := .cells #[.int .i64 0, .int .i64 0, .int .i64 0] 32 (0, 0)) (by (with_reducible repeat (first | refine blk_drewN ?_ _ | refine blk_drew ?_ | refine blk_alloc ?_ _)); exact BK285.out) hb); have n2_ := Aside0.mk (below_step (by repeat (first | (with_reducible first | exact HB.out | apply below_alloc | apply pw_below_drewN | apply below_drew1 | refine below_set ?_ GE284.out | refine below_set ?_ GE285.out) | exact HB.out)) hb); clear BK284; clear BK285; clear HB; have BK284 := n0_; have BK285 := n1_; have HB := n2_; clear n0_ n1_ n2_; (try clear hb); (try clear hb2); (try clear hk); (try clear hi); have hcz42_0 : w41.cell? ⟨gb285, 0, none⟩ = some (.int .i64 0) := (blk_cell BK285.out 0).trans rfl; have hcz42_1 : w41.cell? ⟨gb285, 1, none⟩ = some (.int .i64 0) := (blk_cell BK285.out 1).trans rfl; have hcz42_2 : w41.cell? ⟨gb285, 2, none⟩ = some (.int .i64 0) := (blk_cell BK285.out 2).trans rfl; have hfz42_0 := blk_frozen BK285.out 0; have hfz42_1 := blk_frozen BK285.out 1; have hfz42_2 := blk_frozen BK285.out 2))
  refine bodyPost_ret (results_ct rfl _ _ gb285 32 #[.int .i64 0, .int .i64 0, .int .i64 0] (0, 0) _ rfl (by (with_reducible repeat (first | refine blk_drewN ?_ _ | refine blk_drew ?_ | refine blk_alloc ?_ _)); refine blk_put (cs := #[.int .i64 0, .int .i64 0, .int .i64 0]) ?_ 2 _ rfl; (with_reducible repeat (first | refine blk_drewN ?_ _ | refine blk_drew ?_ | refine blk_alloc ?_ _)); refine blk_put (cs := #[.int .i64 0, .int .i64 0, .int .i64 0]) ?_ 1 _ rfl; (with_reducible repeat (first | refine blk_drewN ?_ _ | refine blk_drew ?_ | refine blk_alloc ?_ _)); refine blk_put (cs := #[.int .i64 0, .int .i64 0, .int .i64 0]) ?_ 0 _ rfl; (with_reducible repeat (first | refine blk_drewN ?_ _ | refine blk_drew ?_ | refine blk_alloc ?_ _)); exact BK285.out) Try.underlying32 rfl (by kernel_rfl)) rfl ?_
  exact ⟨by first | rfl | (simp [errW_none, errW_some] <;> rfl) | (simp [*, errW_none, errW_some] <;> rfl) | (simp [errW_none, errW_some, bne_nil]; done) | (simp [*, bne_nil]; done) | (simp [bne]; done), by repeat (first | (with_reducible first | exact HB.out | apply below_alloc | apply pw_below_drewN | apply below_drew1 | refine below_set ?_ GE284.out | refine below_set ?_ GE285.out) | exact HB.out)⟩

def linhayref09_Data.f (k : Nat) (l0_0 : List (S97)) (a0_1 : Int) (a1 : ByteArray) (a2 : Bool) (a3 : Int) (a4 : Int) : Option (ByteArray × Int) := (linhayref09_Stat.f k l0_0 a0_1 a1 a2).bind fun bt298 => (if bt298.2.2.2 = 0 then (if bt298.2.1 = a3 then ((linhayref07_At.f k l0_0 a0_1 bt298.1).bind fun bt303 => (some (bt303.2.2.2.2, 0))) else (some ((⟨#[]⟩ : ByteArray), a4))) else (some ((⟨#[]⟩ : ByteArray), bt298.2.2.2)))
set_option maxHeartbeats 8000000 in
set_option maxRecDepth 100000 in
theorem linhayref09_Data.calls (k : Nat) (A0_0 : Option Addr) (c0_0 : Nat) (l0_0 : List (S97)) (a0_1 : Int) (a1 : ByteArray) (a2 : Bool) (a3 : Int) (a4 : Int) (r1 : ByteArray) (r2 : Int) (w : World) (hr0_0 : Kd.C k97 w A0_0 l0_0.length l0_0) (hc0_0 : l0_0.length ≤ c0_0) (h : linhayref09_Data.f k l0_0 a0_1 a1 a2 a3 a4 = some (r1, r2)) :
  Calls Try.prog 17 #[.agg #[.slice A0_0 l0_0.length c0_0, .int .i64 a0_1], .string a1, .bool a2, .int .i64 a3, .int .i64 a4] w fun e w' => e = .returned (.tuple #[.string r1, .int .i64 r2]) ∧ Below w.heap.size w w' := by
 have hu75 := Try.underlying75
 have hu76 := Try.underlying76
 have hu89 := Try.underlying89
 have hu97 := Try.underlying97
 have hu108 := Try.underlying108
 have hu28 := Try.underlying28
 have hu32 := Try.underlying32
 have HR0_0 := Aside0.mk hr0_0
 have HC0_0 := Aside0.mk hc0_0
 clear hr0_0 hc0_0
 have HB := Aside0.mk (Below.refl w.heap.size w)
 have H : ((linhayref09_Stat.f k l0_0 a0_1 a1 a2).bind fun bt298 => (if bt298.2.2.2 = 0 then (if bt298.2.1 = a3 then ((linhayref07_At.f k l0_0 a0_1 bt298.1).bind fun bt303 => (some (bt303.2.2.2.2, 0))) else (some ((⟨#[]⟩ : ByteArray), a4))) else (some ((⟨#[]⟩ : ByteArray), bt298.2.2.2)))) = some (r1, r2) := h
 clear h
 replace H := Option.bind_eq_some_iff.mp H
 obtain ⟨⟨t298, t299, t300, t301⟩, A60, H⟩ := H
 replace H : (if t301 = 0 then (if t299 = a3 then ((linhayref07_At.f k l0_0 a0_1 t298).bind fun bt303 => (some (bt303.2.2.2.2, 0))) else (some ((⟨#[]⟩ : ByteArray), a4))) else (some ((⟨#[]⟩ : ByteArray), t301))) = some (r1, r2) := H
 have A6 := Aside0.mk A60
 clear A60
 by_cases c7 : t301 = 0
 ·
  rw [if_pos c7] at H
  have c7b0 : (t301 == 0) = true := beq_iff_eq.mpr c7
  have c7b1 : (t301 != 0) = false := bne_eq_false_iff_eq.mpr c7
  clear c7
  by_cases c8 : t299 = a3
  ·
   rw [if_pos c8] at H
   have c8b0 : (t299 == a3) = true := beq_iff_eq.mpr c8
   have c8b1 : (t299 != a3) = false := bne_eq_false_iff_eq.mpr c8
   clear c8
   replace H := Option.bind_eq_some_iff.mp H
   obtain ⟨⟨t303, t304, t305, t306, t307⟩, A90, H⟩ := H
   replace H : (some (t307, 0)) = some (r1, r2) := H
   have A9 := Aside0.mk A90
   clear A90
   simp only [Option.some.injEq, Prod.mk.injEq] at H
   obtain ⟨rfl, rfl⟩ := H
   go_enter Try.func17, Try.ntmps17
   go_wp2_with (first | ((with_reducible refine gate_dst (N := 5) rfl ?_); refine box_event ?hg (N := 5) ?hd (cs := #[.slice A0_0 l0_0.length c0_0, .int .i64 a0_1]) (t := 28) ?hr ?_; (case hd => rfl); (case hg => rfl); (case hr => first | (go_simp; done) | (go_simp; rfl)); intro gb297 hg w10 hbox hb; have n0_ := Aside0.mk (below_step (by repeat (first | (with_reducible first | exact HB.out | apply below_alloc | apply pw_below_drewN | apply below_drew1) | exact HB.out)) hb); have n1_ := Aside0.mk (hbox); have n2_ := Aside0.mk ((by rw [hg]; exact (below_size (by repeat (first | (with_reducible first | exact HB.out | apply below_alloc | apply pw_below_drewN | apply below_drew1) | exact HB.out))) : w.heap.size ≤ gb297)); have n3_ := Aside0.mk ((by rw [hg]; exact (below_size (by repeat (first | (with_reducible first | exact HB.out | apply below_alloc | apply pw_below_drewN | apply below_drew1) | exact HB.out))) : w.heap.size ≤ gb297)); clear HB; have HB := n0_; have BK297 := n1_; have GW297 := n2_; have GE297 := n3_; clear n0_ n1_ n2_ n3_; clear hb hbox hg; have hcz11_0 : w10.cell? ⟨gb297, 0, none⟩ = some (.slice A0_0 l0_0.length c0_0) := (blk_cell BK297.out 0).trans rfl; have hcz11_1 : w10.cell? ⟨gb297, 1, none⟩ = some (.int .i64 a0_1) := (blk_cell BK297.out 1).trans rfl; have hfz11_0 := blk_frozen BK297.out 0; have hfz11_1 := blk_frozen BK297.out 1) | ((with_reducible refine gate_callee (f := 14) rfl ?_); refine goesL_ (some 18) rfl rfl Try.func14 (by kernel_rfl) rfl #[.agg #[.slice A0_0 l0_0.length c0_0, .int .i64 a0_1], .string a1, .bool a2] rfl (by (try simp only [List.map_toArray, List.map_cons, List.map_nil]); first | done | rfl | (simp only [List.length_drop, List.length_take]; rfl)) ?_; (with_reducible refine (linhayref09_Stat.calls k _ _ l0_0 a0_1 a1 a2 t298 t299 t300 t301 _ ?side1 ?side2 A6.out).mono ?_); (case side1 => repeat (first | exact (Kd.C_below HR0_0.out HB.out) | (with_reducible refine Kd.C_alloc ?_ _) | (with_reducible refine Kd.C_drewN ?_ _) | (with_reducible refine Kd.C_drew ?_))); (case side2 => exact HC0_0.out); rintro e w12 ⟨rfl, hb⟩; refine ⟨_, rfl, ?_⟩; have n0_ := Aside0.mk (blk_below (g := gb297) (o := .cells #[.slice A0_0 l0_0.length c0_0, .int .i64 a0_1] 28 (0, 0)) (by (with_reducible repeat (first | refine blk_drewN ?_ _ | refine blk_drew ?_ | refine blk_alloc ?_ _)); exact BK297.out) hb); have n1_ := Aside0.mk (below_step (by repeat (first | (with_reducible first | exact HB.out | apply below_alloc | apply pw_below_drewN | apply below_drew1 | refine below_set ?_ GE297.out) | exact HB.out)) hb); clear BK297; clear HB; have BK297 := n0_; have HB := n1_; clear n0_ n1_; (try clear hb); (try clear hb2); (try clear hk); (try clear hi)) | ((with_reducible refine gate_dst (N := 12) rfl ?_); refine box_event ?hg (N := 12) ?hd (cs := #[.int .i64 0, .int .i64 0, .int .i64 0]) (t := 32) ?hr ?_; (case hd => rfl); (case hg => rfl); (case hr => first | (go_simp; done) | (go_simp; rfl)); intro gb302 hg w13 hbox hb; have n0_ := Aside0.mk (blk_below (g := gb297) (o := .cells #[.slice A0_0 l0_0.length c0_0, .int .i64 a0_1] 28 (0, 0)) (by (with_reducible repeat (first | refine blk_drewN ?_ _ | refine blk_drew ?_ | refine blk_alloc ?_ _)); exact BK297.out) hb); have n1_ := Aside0.mk (below_step (by repeat (first | (with_reducible first | exact HB.out | apply below_alloc | apply pw_below_drewN | apply below_drew1 | refine below_set ?_ GE297.out) | exact HB.out)) hb); have n2_ := Aside0.mk (hbox); have n3_ := Aside0.mk ((by rw [hg]; exact (below_size (by repeat (first | (with_reducible first | exact HB.out | apply below_alloc | apply pw_below_drewN | apply below_drew1 | refine below_set ?_ GE297.out) | exact HB.out))) : w.heap.size ≤ gb302)); have n4_ := Aside0.mk ((by rw [hg]; exact (below_size (by repeat (first | (with_reducible first | exact HB.out | apply below_alloc | apply pw_below_drewN | apply below_drew1 | refine below_set ?_ GE297.out) | exact HB.out))) : w.heap.size ≤ gb302)); have n5_ := Aside0.mk ((by rw [hg]; exact Nat.ne_of_lt (blk_lt (g := gb297) (o := .cells #[.slice A0_0 l0_0.length c0_0, .int .i64 a0_1] 28 (0, 0)) (by (with_reducible repeat (first | refine blk_drewN ?_ _ | refine blk_drew ?_ | refine blk_alloc ?_ _)); exact BK297.out)) : gb297 ≠ gb302)); have n6_ := Aside0.mk ((by rw [hg]; exact Nat.ne_of_gt (blk_lt (g := gb297) (o := .cells #[.slice A0_0 l0_0.length c0_0, .int .i64 a0_1] 28 (0, 0)) (by (with_reducible repeat (first | refine blk_drewN ?_ _ | refine blk_drew ?_ | refine blk_alloc ?_ _)); exact BK297.out)) : gb302 ≠ gb297)); clear BK297; clear HB; have BK297 := n0_; have HB := n1_; have BK302 := n2_; have GW302 := n3_; have GE302 := n4_; have NB297_302 := n5_; have NB302_297 := n6_; clear n0_ n1_ n2_ n3_ n4_ n5_ n6_; clear hb hbox hg; have hnb14 := NB302_297.out; have hnc14 := NB297_302.out; have hcz15_0 : w13.cell? ⟨gb302, 0, none⟩ = some (.int .i64 0) := (blk_cell BK302.out 0).trans rfl; have hcz15_1 : w13.cell? ⟨gb302, 1, none⟩ = some (.int .i64 0) := (blk_cell BK302.out 1).trans rfl; have hcz15_2 : w13.cell? ⟨gb302, 2, none⟩ = some (.int .i64 0) := (blk_cell BK302.out 2).trans rfl; have hfz15_0 := blk_frozen BK302.out 0; have hfz15_1 := blk_frozen BK302.out 1; have hfz15_2 := blk_frozen BK302.out 2; have hcz16_0 : w13.cell? ⟨gb297, 0, none⟩ = some (.slice A0_0 l0_0.length c0_0) := (blk_cell BK297.out 0).trans rfl; have hcz16_1 : w13.cell? ⟨gb297, 1, none⟩ = some (.int .i64 a0_1) := (blk_cell BK297.out 1).trans rfl; have hfz16_0 := blk_frozen BK297.out 0; have hfz16_1 := blk_frozen BK297.out 1) | ((with_reducible refine gate_callee (f := 49) rfl ?_); refine goesL_ (some 32) rfl rfl Try.func49 (by kernel_rfl) rfl #[.agg #[.slice A0_0 l0_0.length c0_0, .int .i64 a0_1], .int .i64 t298] rfl (by (try simp only [List.map_toArray, List.map_cons, List.map_nil]); first | done | rfl | (simp only [List.length_drop, List.length_take]; rfl)) ?_; (with_reducible refine (linhayref07_At.calls k _ _ l0_0 a0_1 t298 t303 t304 t305 t306 t307 _ ?side1 ?side2 A9.out).mono ?_); (case side1 => exact Kd.C_below HR0_0.out (by repeat (first | (with_reducible first | exact HB.out | apply below_alloc | apply pw_below_drewN | apply below_drew1 | refine below_set ?_ GE297.out | refine below_set ?_ GE302.out) | exact HB.out))); (case side2 => exact HC0_0.out); rintro e w17 ⟨rfl, hb⟩; refine ⟨_, rfl, ?_⟩; have n0_ := Aside0.mk (blk_below (g := gb297) (o := .cells #[.slice A0_0 l0_0.length c0_0, .int .i64 a0_1] 28 (0, 0)) (by (with_reducible repeat (first | refine blk_drewN ?_ _ | refine blk_drew ?_ | refine blk_alloc ?_ _)); refine blk_far ?_ NB297_302.out _; (with_reducible repeat (first | refine blk_drewN ?_ _ | refine blk_drew ?_ | refine blk_alloc ?_ _)); refine blk_far ?_ NB297_302.out _; (with_reducible repeat (first | refine blk_drewN ?_ _ | refine blk_drew ?_ | refine blk_alloc ?_ _)); refine blk_far ?_ NB297_302.out _; (with_reducible repeat (first | refine blk_drewN ?_ _ | refine blk_drew ?_ | refine blk_alloc ?_ _)); exact BK297.out) hb); have n1_ := Aside0.mk (blk_below (g := gb302) (o := .cells #[.int .i64 t298, .int .i64 t299, .int .i64 t300] 32 (0, 0)) (by (with_reducible repeat (first | refine blk_drewN ?_ _ | refine blk_drew ?_ | refine blk_alloc ?_ _)); refine blk_put (cs := #[.int .i64 t298, .int .i64 t299, .int .i64 0]) ?_ 2 _ rfl; (with_reducible repeat (first | refine blk_drewN ?_ _ | refine blk_drew ?_ | refine blk_alloc ?_ _)); refine blk_put (cs := #[.int .i64 t298, .int .i64 0, .int .i64 0]) ?_ 1 _ rfl; (with_reducible repeat (first | refine blk_drewN ?_ _ | refine blk_drew ?_ | refine blk_alloc ?_ _)); refine blk_put (cs := #[.int .i64 0, .int .i64 0, .int .i64 0]) ?_ 0 _ rfl; (with_reducible repeat (first | refine blk_drewN ?_ _ | refine blk_drew ?_ | refine blk_alloc ?_ _)); exact BK302.out) hb); have n2_ := Aside0.mk (below_step (by repeat (first | (with_reducible first | exact HB.out | apply below_alloc | apply pw_below_drewN | apply below_drew1 | refine below_set ?_ GE297.out | refine below_set ?_ GE302.out) | exact HB.out)) hb); clear BK297; clear BK302; clear HB; have BK297 := n0_; have BK302 := n1_; have HB := n2_; clear n0_ n1_ n2_; (try clear hb); (try clear hb2); (try clear hk); (try clear hi)))
   go_ret2
   exact ⟨by first | rfl | (simp [errW_none, errW_some] <;> rfl) | (simp [*, errW_none, errW_some] <;> rfl) | (simp [errW_none, errW_some, bne_nil]; done) | (simp [*, bne_nil]; done) | (simp [bne]; done), by repeat (first | (with_reducible first | exact HB.out | apply below_alloc | apply pw_below_drewN | apply below_drew1 | refine below_set ?_ GE297.out | refine below_set ?_ GE302.out) | exact HB.out)⟩
  ·
   rw [if_neg c8] at H
   have c8b0 : (t299 == a3) = false := beq_eq_false_iff_ne.mpr c8
   have c8b1 : (t299 != a3) = true := bne_iff_ne.mpr c8
   simp only [Option.some.injEq, Prod.mk.injEq] at H
   obtain ⟨rfl, rfl⟩ := H
   go_enter Try.func17, Try.ntmps17
   go_wp2_with (first | ((with_reducible refine gate_dst (N := 5) rfl ?_); refine box_event ?hg (N := 5) ?hd (cs := #[.slice A0_0 l0_0.length c0_0, .int .i64 a0_1]) (t := 28) ?hr ?_; (case hd => rfl); (case hg => rfl); (case hr => first | (go_simp; done) | (go_simp; rfl)); intro gb297 hg w18 hbox hb; have n0_ := Aside0.mk (below_step (by repeat (first | (with_reducible first | exact HB.out | apply below_alloc | apply pw_below_drewN | apply below_drew1) | exact HB.out)) hb); have n1_ := Aside0.mk (hbox); have n2_ := Aside0.mk ((by rw [hg]; exact (below_size (by repeat (first | (with_reducible first | exact HB.out | apply below_alloc | apply pw_below_drewN | apply below_drew1) | exact HB.out))) : w.heap.size ≤ gb297)); have n3_ := Aside0.mk ((by rw [hg]; exact (below_size (by repeat (first | (with_reducible first | exact HB.out | apply below_alloc | apply pw_below_drewN | apply below_drew1) | exact HB.out))) : w.heap.size ≤ gb297)); clear HB; have HB := n0_; have BK297 := n1_; have GW297 := n2_; have GE297 := n3_; clear n0_ n1_ n2_ n3_; clear hb hbox hg; have hcz19_0 : w18.cell? ⟨gb297, 0, none⟩ = some (.slice A0_0 l0_0.length c0_0) := (blk_cell BK297.out 0).trans rfl; have hcz19_1 : w18.cell? ⟨gb297, 1, none⟩ = some (.int .i64 a0_1) := (blk_cell BK297.out 1).trans rfl; have hfz19_0 := blk_frozen BK297.out 0; have hfz19_1 := blk_frozen BK297.out 1) | ((with_reducible refine gate_callee (f := 14) rfl ?_); refine goesL_ (some 18) rfl rfl Try.func14 (by kernel_rfl) rfl #[.agg #[.slice A0_0 l0_0.length c0_0, .int .i64 a0_1], .string a1, .bool a2] rfl (by (try simp only [List.map_toArray, List.map_cons, List.map_nil]); first | done | rfl | (simp only [List.length_drop, List.length_take]; rfl)) ?_; (with_reducible refine (linhayref09_Stat.calls k _ _ l0_0 a0_1 a1 a2 t298 t299 t300 t301 _ ?side1 ?side2 A6.out).mono ?_); (case side1 => repeat (first | exact (Kd.C_below HR0_0.out HB.out) | (with_reducible refine Kd.C_alloc ?_ _) | (with_reducible refine Kd.C_drewN ?_ _) | (with_reducible refine Kd.C_drew ?_))); (case side2 => exact HC0_0.out); rintro e w20 ⟨rfl, hb⟩; refine ⟨_, rfl, ?_⟩; have n0_ := Aside0.mk (blk_below (g := gb297) (o := .cells #[.slice A0_0 l0_0.length c0_0, .int .i64 a0_1] 28 (0, 0)) (by (with_reducible repeat (first | refine blk_drewN ?_ _ | refine blk_drew ?_ | refine blk_alloc ?_ _)); exact BK297.out) hb); have n1_ := Aside0.mk (below_step (by repeat (first | (with_reducible first | exact HB.out | apply below_alloc | apply pw_below_drewN | apply below_drew1 | refine below_set ?_ GE297.out) | exact HB.out)) hb); clear BK297; clear HB; have BK297 := n0_; have HB := n1_; clear n0_ n1_; (try clear hb); (try clear hb2); (try clear hk); (try clear hi)) | ((with_reducible refine gate_dst (N := 12) rfl ?_); refine box_event ?hg (N := 12) ?hd (cs := #[.int .i64 0, .int .i64 0, .int .i64 0]) (t := 32) ?hr ?_; (case hd => rfl); (case hg => rfl); (case hr => first | (go_simp; done) | (go_simp; rfl)); intro gb302 hg w21 hbox hb; have n0_ := Aside0.mk (blk_below (g := gb297) (o := .cells #[.slice A0_0 l0_0.length c0_0, .int .i64 a0_1] 28 (0, 0)) (by (with_reducible repeat (first | refine blk_drewN ?_ _ | refine blk_drew ?_ | refine blk_alloc ?_ _)); exact BK297.out) hb); have n1_ := Aside0.mk (below_step (by repeat (first | (with_reducible first | exact HB.out | apply below_alloc | apply pw_below_drewN | apply below_drew1 | refine below_set ?_ GE297.out) | exact HB.out)) hb); have n2_ := Aside0.mk (hbox); have n3_ := Aside0.mk ((by rw [hg]; exact (below_size (by repeat (first | (with_reducible first | exact HB.out | apply below_alloc | apply pw_below_drewN | apply below_drew1 | refine below_set ?_ GE297.out) | exact HB.out))) : w.heap.size ≤ gb302)); have n4_ := Aside0.mk ((by rw [hg]; exact (below_size (by repeat (first | (with_reducible first | exact HB.out | apply below_alloc | apply pw_below_drewN | apply below_drew1 | refine below_set ?_ GE297.out) | exact HB.out))) : w.heap.size ≤ gb302)); have n5_ := Aside0.mk ((by rw [hg]; exact Nat.ne_of_lt (blk_lt (g := gb297) (o := .cells #[.slice A0_0 l0_0.length c0_0, .int .i64 a0_1] 28 (0, 0)) (by (with_reducible repeat (first | refine blk_drewN ?_ _ | refine blk_drew ?_ | refine blk_alloc ?_ _)); exact BK297.out)) : gb297 ≠ gb302)); have n6_ := Aside0.mk ((by rw [hg]; exact Nat.ne_of_gt (blk_lt (g := gb297) (o := .cells #[.slice A0_0 l0_0.length c0_0, .int .i64 a0_1] 28 (0, 0)) (by (with_reducible repeat (first | refine blk_drewN ?_ _ | refine blk_drew ?_ | refine blk_alloc ?_ _)); exact BK297.out)) : gb302 ≠ gb297)); clear BK297; clear HB; have BK297 := n0_; have HB := n1_; have BK302 := n2_; have GW302 := n3_; have GE302 := n4_; have NB297_302 := n5_; have NB302_297 := n6_; clear n0_ n1_ n2_ n3_ n4_ n5_ n6_; clear hb hbox hg; have hnb22 := NB302_297.out; have hnc22 := NB297_302.out; have hcz23_0 : w21.cell? ⟨gb302, 0, none⟩ = some (.int .i64 0) := (blk_cell BK302.out 0).trans rfl; have hcz23_1 : w21.cell? ⟨gb302, 1, none⟩ = some (.int .i64 0) := (blk_cell BK302.out 1).trans rfl; have hcz23_2 : w21.cell? ⟨gb302, 2, none⟩ = some (.int .i64 0) := (blk_cell BK302.out 2).trans rfl; have hfz23_0 := blk_frozen BK302.out 0; have hfz23_1 := blk_frozen BK302.out 1; have hfz23_2 := blk_frozen BK302.out 2))
   go_ret2
   exact ⟨by first | rfl | (simp [errW_none, errW_some] <;> rfl) | (simp [*, errW_none, errW_some] <;> rfl) | (simp [errW_none, errW_some, bne_nil]; done) | (simp [*, bne_nil]; done) | (simp [bne]; done), by repeat (first | (with_reducible first | exact HB.out | apply below_alloc | apply pw_below_drewN | apply below_drew1 | refine below_set ?_ GE297.out | refine below_set ?_ GE302.out) | exact HB.out)⟩
 ·
  rw [if_neg c7] at H
  have c7b0 : (t301 == 0) = false := beq_eq_false_iff_ne.mpr c7
  have c7b1 : (t301 != 0) = true := bne_iff_ne.mpr c7
  simp only [Option.some.injEq, Prod.mk.injEq] at H
  obtain ⟨rfl, rfl⟩ := H
  go_enter Try.func17, Try.ntmps17
  go_wp2_with (first | ((with_reducible refine gate_dst (N := 5) rfl ?_); refine box_event ?hg (N := 5) ?hd (cs := #[.slice A0_0 l0_0.length c0_0, .int .i64 a0_1]) (t := 28) ?hr ?_; (case hd => rfl); (case hg => rfl); (case hr => first | (go_simp; done) | (go_simp; rfl)); intro gb297 hg w24 hbox hb; have n0_ := Aside0.mk (below_step (by repeat (first | (with_reducible first | exact HB.out | apply below_alloc | apply pw_below_drewN | apply below_drew1) | exact HB.out)) hb); have n1_ := Aside0.mk (hbox); have n2_ := Aside0.mk ((by rw [hg]; exact (below_size (by repeat (first | (with_reducible first | exact HB.out | apply below_alloc | apply pw_below_drewN | apply below_drew1) | exact HB.out))) : w.heap.size ≤ gb297)); have n3_ := Aside0.mk ((by rw [hg]; exact (below_size (by repeat (first | (with_reducible first | exact HB.out | apply below_alloc | apply pw_below_drewN | apply below_drew1) | exact HB.out))) : w.heap.size ≤ gb297)); clear HB; have HB := n0_; have BK297 := n1_; have GW297 := n2_; have GE297 := n3_; clear n0_ n1_ n2_ n3_; clear hb hbox hg; have hcz25_0 : w24.cell? ⟨gb297, 0, none⟩ = some (.slice A0_0 l0_0.length c0_0) := (blk_cell BK297.out 0).trans rfl; have hcz25_1 : w24.cell? ⟨gb297, 1, none⟩ = some (.int .i64 a0_1) := (blk_cell BK297.out 1).trans rfl; have hfz25_0 := blk_frozen BK297.out 0; have hfz25_1 := blk_frozen BK297.out 1) | ((with_reducible refine gate_callee (f := 14) rfl ?_); refine goesL_ (some 18) rfl rfl Try.func14 (by kernel_rfl) rfl #[.agg #[.slice A0_0 l0_0.length c0_0, .int .i64 a0_1], .string a1, .bool a2] rfl (by (try simp only [List.map_toArray, List.map_cons, List.map_nil]); first | done | rfl | (simp only [List.length_drop, List.length_take]; rfl)) ?_; (with_reducible refine (linhayref09_Stat.calls k _ _ l0_0 a0_1 a1 a2 t298 t299 t300 t301 _ ?side1 ?side2 A6.out).mono ?_); (case side1 => repeat (first | exact (Kd.C_below HR0_0.out HB.out) | (with_reducible refine Kd.C_alloc ?_ _) | (with_reducible refine Kd.C_drewN ?_ _) | (with_reducible refine Kd.C_drew ?_))); (case side2 => exact HC0_0.out); rintro e w26 ⟨rfl, hb⟩; refine ⟨_, rfl, ?_⟩; have n0_ := Aside0.mk (blk_below (g := gb297) (o := .cells #[.slice A0_0 l0_0.length c0_0, .int .i64 a0_1] 28 (0, 0)) (by (with_reducible repeat (first | refine blk_drewN ?_ _ | refine blk_drew ?_ | refine blk_alloc ?_ _)); exact BK297.out) hb); have n1_ := Aside0.mk (below_step (by repeat (first | (with_reducible first | exact HB.out | apply below_alloc | apply pw_below_drewN | apply below_drew1 | refine below_set ?_ GE297.out) | exact HB.out)) hb); clear BK297; clear HB; have BK297 := n0_; have HB := n1_; clear n0_ n1_; (try clear hb); (try clear hb2); (try clear hk); (try clear hi)) | ((with_reducible refine gate_dst (N := 12) rfl ?_); refine box_event ?hg (N := 12) ?hd (cs := #[.int .i64 0, .int .i64 0, .int .i64 0]) (t := 32) ?hr ?_; (case hd => rfl); (case hg => rfl); (case hr => first | (go_simp; done) | (go_simp; rfl)); intro gb302 hg w27 hbox hb; have n0_ := Aside0.mk (blk_below (g := gb297) (o := .cells #[.slice A0_0 l0_0.length c0_0, .int .i64 a0_1] 28 (0, 0)) (by (with_reducible repeat (first | refine blk_drewN ?_ _ | refine blk_drew ?_ | refine blk_alloc ?_ _)); exact BK297.out) hb); have n1_ := Aside0.mk (below_step (by repeat (first | (with_reducible first | exact HB.out | apply below_alloc | apply pw_below_drewN | apply below_drew1 | refine below_set ?_ GE297.out) | exact HB.out)) hb); have n2_ := Aside0.mk (hbox); have n3_ := Aside0.mk ((by rw [hg]; exact (below_size (by repeat (first | (with_reducible first | exact HB.out | apply below_alloc | apply pw_below_drewN | apply below_drew1 | refine below_set ?_ GE297.out) | exact HB.out))) : w.heap.size ≤ gb302)); have n4_ := Aside0.mk ((by rw [hg]; exact (below_size (by repeat (first | (with_reducible first | exact HB.out | apply below_alloc | apply pw_below_drewN | apply below_drew1 | refine below_set ?_ GE297.out) | exact HB.out))) : w.heap.size ≤ gb302)); have n5_ := Aside0.mk ((by rw [hg]; exact Nat.ne_of_lt (blk_lt (g := gb297) (o := .cells #[.slice A0_0 l0_0.length c0_0, .int .i64 a0_1] 28 (0, 0)) (by (with_reducible repeat (first | refine blk_drewN ?_ _ | refine blk_drew ?_ | refine blk_alloc ?_ _)); exact BK297.out)) : gb297 ≠ gb302)); have n6_ := Aside0.mk ((by rw [hg]; exact Nat.ne_of_gt (blk_lt (g := gb297) (o := .cells #[.slice A0_0 l0_0.length c0_0, .int .i64 a0_1] 28 (0, 0)) (by (with_reducible repeat (first | refine blk_drewN ?_ _ | refine blk_drew ?_ | refine blk_alloc ?_ _)); exact BK297.out)) : gb302 ≠ gb297)); clear BK297; clear HB; have BK297 := n0_; have HB := n1_; have BK302 := n2_; have GW302 := n3_; have GE302 := n4_; have NB297_302 := n5_; have NB302_297 := n6_; clear n0_ n1_ n2_ n3_ n4_ n5_ n6_; clear hb hbox hg; have hnb28 := NB302_297.out; have hnc28 := NB297_302.out; have hcz29_0 : w27.cell? ⟨gb302, 0, none⟩ = some (.int .i64 0) := (blk_cell BK302.out 0).trans rfl; have hcz29_1 : w27.cell? ⟨gb302, 1, none⟩ = some (.int .i64 0) := (blk_cell BK302.out 1).trans rfl; have hcz29_2 : w27.cell? ⟨gb302, 2, none⟩ = some (.int .i64 0) := (blk_cell BK302.out 2).trans rfl; have hfz29_0 := blk_frozen BK302.out 0; have hfz29_1 := blk_frozen BK302.out 1; have hfz29_2 := blk_frozen BK302.out 2))
  go_ret2
  exact ⟨by first | rfl | (simp [errW_none, errW_some] <;> rfl) | (simp [*, errW_none, errW_some] <;> rfl) | (simp [errW_none, errW_some, bne_nil]; done) | (simp [*, bne_nil]; done) | (simp [bne]; done), by repeat (first | (with_reducible first | exact HB.out | apply below_alloc | apply pw_below_drewN | apply below_drew1 | refine below_set ?_ GE297.out | refine below_set ?_ GE302.out) | exact HB.out)⟩

mutual
def linhayref09_List.j0 : Nat → Int → Bool → List (S97) → Int → Int → Int → Int → Option (List ByteArray × Int)
  | 0, _, _, _, _, _, _, _ => none
  | k + 1, x7, x23, x309000, x309001, x314000, x314001, x314002 => if x23 = true then (linhayref09_List.j1 k 7 x309000 x309001 x314000 x314001 x314002) else (linhayref09_List.j1 k x7 x309000 x309001 x314000 x314001 x314002)
def linhayref09_List.j1 : Nat → Int → List (S97) → Int → Int → Int → Int → Option (List ByteArray × Int)
  | 0, _, _, _, _, _, _ => none
  | k + 1, x7, x309000, x309001, x314000, x314001, x314002 => if x7 = 0 then ((linhayref07_List.f k x309000 x309001 x314000).bind fun t314 => (linhayref09_List.l0 k ([] : List ByteArray) t314 0)) else (some (([] : List ByteArray), x7))
def linhayref09_List.l0 : Nat → List ByteArray → List (S108) → Int → Option (List ByteArray × Int)
  | 0, _, _, _ => none
  | k + 1, x8, x9, x10 => if x10 < (x9.length : Int) then (if 0 ≤ x10 then (if x8.length < 8796093022208 then (linhayref09_List.l0 k (x8 ++ [(rd_T108 x9 x10).f0]) x9 (wrap64 (x10 + 1))) else (none)) else (none)) else (some (x8, 0))
end
def linhayref09_List.f (k : Nat) (l0_0 : List (S97)) (a0_1 : Int) (a1 : ByteArray) : Option (List ByteArray × Int) := (linhayref09_Stat.f k l0_0 a0_1 a1 true).bind fun bt309 => (if bt309.2.2.2 = 0 then (linhayref09_List.j0 k bt309.2.2.2 (bt309.2.1 != 1) l0_0 a0_1 bt309.1 bt309.2.1 bt309.2.2.1) else (linhayref09_List.j0 k bt309.2.2.2 false l0_0 a0_1 bt309.1 bt309.2.1 bt309.2.2.1))
set_option maxHeartbeats 8000000 in
set_option maxRecDepth 100000 in
theorem linhayref09_List.calls (k : Nat) (A0_0 : Option Addr) (c0_0 : Nat) (l0_0 : List (S97)) (a0_1 : Int) (a1 : ByteArray) (r1 : List ByteArray) (r2 : Int) (w : World) (hr0_0 : Kd.C k97 w A0_0 l0_0.length l0_0) (hc0_0 : l0_0.length ≤ c0_0) (h : linhayref09_List.f k l0_0 a0_1 a1 = some (r1, r2)) :
  Calls Try.prog 20 #[.agg #[.slice A0_0 l0_0.length c0_0, .int .i64 a0_1], .string a1] w fun e w' => ∃ v0_ : Value, e = .returned (.tuple #[v0_, .int .i64 r2]) ∧ Kd.R Kd.string 9 w' w.heap.size (fun _ => True) v0_ r1 ∧ Below w.heap.size w w' := by
 have hu75 := Try.underlying75
 have hu76 := Try.underlying76
 have hu89 := Try.underlying89
 have hu97 := Try.underlying97
 have hu108 := Try.underlying108
 have hu28 := Try.underlying28
 have hu32 := Try.underlying32
 have HR0_0 := Aside0.mk hr0_0
 have HC0_0 := Aside0.mk hc0_0
 clear hr0_0 hc0_0
 have HB := Aside0.mk (Below.refl w.heap.size w)
 have H : ((linhayref09_Stat.f k l0_0 a0_1 a1 true).bind fun bt309 => (if bt309.2.2.2 = 0 then (linhayref09_List.j0 k bt309.2.2.2 (bt309.2.1 != 1) l0_0 a0_1 bt309.1 bt309.2.1 bt309.2.2.1) else (linhayref09_List.j0 k bt309.2.2.2 false l0_0 a0_1 bt309.1 bt309.2.1 bt309.2.2.1))) = some (r1, r2) := h
 clear h
 replace H := Option.bind_eq_some_iff.mp H
 obtain ⟨⟨t309, t310, t311, t312⟩, A30, H⟩ := H
 replace H : (if t312 = 0 then (linhayref09_List.j0 k t312 (t310 != 1) l0_0 a0_1 t309 t310 t311) else (linhayref09_List.j0 k t312 false l0_0 a0_1 t309 t310 t311)) = some (r1, r2) := H
 have A3 := Aside0.mk A30
 clear A30
 have HC4 := Aside0.mk H
 clear H
 go_enter Try.func20, Try.ntmps20
 go_upto_region 2 with (first | ((with_reducible refine gate_dst (N := 2) rfl ?_); refine box_event ?hg (N := 2) ?hd (cs := #[.slice A0_0 l0_0.length c0_0, .int .i64 a0_1]) (t := 28) ?hr ?_; (case hd => rfl); (case hg => rfl); (case hr => first | (go_simp; done) | (go_simp; rfl)); intro gb308 hg w5 hbox hb; have n0_ := Aside0.mk (below_step (by repeat (first | (with_reducible first | exact HB.out | apply below_alloc | apply pw_below_drewN | apply below_drew1) | exact HB.out)) hb); have n1_ := Aside0.mk (hbox); have n2_ := Aside0.mk ((by rw [hg]; exact (below_size (by repeat (first | (with_reducible first | exact HB.out | apply below_alloc | apply pw_below_drewN | apply below_drew1) | exact HB.out))) : w.heap.size ≤ gb308)); have n3_ := Aside0.mk ((by rw [hg]; exact (below_size (by repeat (first | (with_reducible first | exact HB.out | apply below_alloc | apply pw_below_drewN | apply below_drew1) | exact HB.out))) : w.heap.size ≤ gb308)); clear HB; have HB := n0_; have BK308 := n1_; have GW308 := n2_; have GE308 := n3_; clear n0_ n1_ n2_ n3_; clear hb hbox hg; have hcz6_0 : w5.cell? ⟨gb308, 0, none⟩ = some (.slice A0_0 l0_0.length c0_0) := (blk_cell BK308.out 0).trans rfl; have hcz6_1 : w5.cell? ⟨gb308, 1, none⟩ = some (.int .i64 a0_1) := (blk_cell BK308.out 1).trans rfl; have hfz6_0 := blk_frozen BK308.out 0; have hfz6_1 := blk_frozen BK308.out 1) | ((with_reducible refine gate_callee (f := 14) rfl ?_); refine goesL_ (some 14) rfl rfl Try.func14 (by kernel_rfl) rfl #[.agg #[.slice A0_0 l0_0.length c0_0, .int .i64 a0_1], .string a1, .bool true] rfl (by (try simp only [List.map_toArray, List.map_cons, List.map_nil]); first | done | rfl | (simp only [List.length_drop, List.length_take]; rfl)) ?_; (with_reducible refine (linhayref09_Stat.calls k _ _ l0_0 a0_1 a1 true t309 t310 t311 t312 _ ?side1 ?side2 A3.out).mono ?_); (case side1 => repeat (first | exact (Kd.C_below HR0_0.out HB.out) | (with_reducible refine Kd.C_alloc ?_ _) | (with_reducible refine Kd.C_drewN ?_ _) | (with_reducible refine Kd.C_drew ?_))); (case side2 => exact HC0_0.out); rintro e w7 ⟨rfl, hb⟩; refine ⟨_, rfl, ?_⟩; have n0_ := Aside0.mk (blk_below (g := gb308) (o := .cells #[.slice A0_0 l0_0.length c0_0, .int .i64 a0_1] 28 (0, 0)) (by (with_reducible repeat (first | refine blk_drewN ?_ _ | refine blk_drew ?_ | refine blk_alloc ?_ _)); exact BK308.out) hb); have n1_ := Aside0.mk (below_step (by repeat (first | (with_reducible first | exact HB.out | apply below_alloc | apply pw_below_drewN | apply below_drew1 | refine below_set ?_ GE308.out) | exact HB.out)) hb); clear BK308; clear HB; have BK308 := n0_; have HB := n1_; clear n0_ n1_; (try clear hb); (try clear hb2); (try clear hk); (try clear hi)) | ((with_reducible refine gate_dst (N := 6) rfl ?_); refine box_event ?hg (N := 6) ?hd (cs := #[.int .i64 0, .int .i64 0, .int .i64 0]) (t := 32) ?hr ?_; (case hd => rfl); (case hg => rfl); (case hr => first | (go_simp; done) | (go_simp; rfl)); intro gb313 hg w8 hbox hb; have n0_ := Aside0.mk (blk_below (g := gb308) (o := .cells #[.slice A0_0 l0_0.length c0_0, .int .i64 a0_1] 28 (0, 0)) (by (with_reducible repeat (first | refine blk_drewN ?_ _ | refine blk_drew ?_ | refine blk_alloc ?_ _)); exact BK308.out) hb); have n1_ := Aside0.mk (below_step (by repeat (first | (with_reducible first | exact HB.out | apply below_alloc | apply pw_below_drewN | apply below_drew1 | refine below_set ?_ GE308.out) | exact HB.out)) hb); have n2_ := Aside0.mk (hbox); have n3_ := Aside0.mk ((by rw [hg]; exact (below_size (by repeat (first | (with_reducible first | exact HB.out | apply below_alloc | apply pw_below_drewN | apply below_drew1 | refine below_set ?_ GE308.out) | exact HB.out))) : w.heap.size ≤ gb313)); have n4_ := Aside0.mk ((by rw [hg]; exact (below_size (by repeat (first | (with_reducible first | exact HB.out | apply below_alloc | apply pw_below_drewN | apply below_drew1 | refine below_set ?_ GE308.out) | exact HB.out))) : w.heap.size ≤ gb313)); have n5_ := Aside0.mk ((by rw [hg]; exact Nat.ne_of_lt (blk_lt (g := gb308) (o := .cells #[.slice A0_0 l0_0.length c0_0, .int .i64 a0_1] 28 (0, 0)) (by (with_reducible repeat (first | refine blk_drewN ?_ _ | refine blk_drew ?_ | refine blk_alloc ?_ _)); exact BK308.out)) : gb308 ≠ gb313)); have n6_ := Aside0.mk ((by rw [hg]; exact Nat.ne_of_gt (blk_lt (g := gb308) (o := .cells #[.slice A0_0 l0_0.length c0_0, .int .i64 a0_1] 28 (0, 0)) (by (with_reducible repeat (first | refine blk_drewN ?_ _ | refine blk_drew ?_ | refine blk_alloc ?_ _)); exact BK308.out)) : gb313 ≠ gb308)); clear BK308; clear HB; have BK308 := n0_; have HB := n1_; have BK313 := n2_; have GW313 := n3_; have GE313 := n4_; have NB308_313 := n5_; have NB313_308 := n6_; clear n0_ n1_ n2_ n3_ n4_ n5_ n6_; clear hb hbox hg; have hnb9 := NB313_308.out; have hnc9 := NB308_313.out; have hcz10_0 : w8.cell? ⟨gb313, 0, none⟩ = some (.int .i64 0) := (blk_cell BK313.out 0).trans rfl; have hcz10_1 : w8.cell? ⟨gb313, 1, none⟩ = some (.int .i64 0) := (blk_cell BK313.out 1).trans rfl; have hcz10_2 : w8.cell? ⟨gb313, 2, none⟩ = some (.int .i64 0) := (blk_cell BK313.out 2).trans rfl; have hfz10_0 := blk_frozen BK313.out 0; have hfz10_1 := blk_frozen BK313.out 1; have hfz10_2 := blk_frozen BK313.out 2))
 (try simp only [Act.put, List.setIfInBounds_toArray, List.set_cons_zero, List.set_cons_succ])
 go_cut [23] (fun v23 wc => ∃ (kq : Nat) (x23_3 : Bool), v23 = .bool x23_3 ∧ Aside0 (linhayref09_List.j0 kq t312 x23_3 l0_0 a0_1 t309 t310 t311 = some (r1, r2)) ∧ Aside0 (kq ≤ k) ∧ Aside0 (wc.heap[gb308]? = some (.cells #[(.slice A0_0 l0_0.length c0_0), .int .i64 a0_1] 28 (0, 0))) ∧ Aside0 (wc.heap[gb313]? = some (.cells #[.int .i64 t309, .int .i64 t310, .int .i64 t311] 32 (0, 0))) ∧ Aside0 (Below w.heap.size w wc))
 case first =>
  have H := HC4.out
  clear HC4
  by_cases c11 : t312 = 0
  ·
   rw [if_pos c11] at H
   have c11b0 : (t312 == 0) = true := beq_iff_eq.mpr c11
   have c11b1 : (t312 != 0) = false := bne_eq_false_iff_eq.mpr c11
   clear c11
   (first | rw [c11b0] | (simp only [i64_w, i32_w]; rw [c11b0]) | skip)
   have H' := Aside0.mk H
   clear H
   have hnb12 := NB313_308.out
   have hnc12 := NB308_313.out
   have hcz13_0 : w8.cell? ⟨gb313, 0, none⟩ = some (.int .i64 0) := (blk_cell BK313.out 0).trans rfl
   have hcz13_1 : w8.cell? ⟨gb313, 1, none⟩ = some (.int .i64 0) := (blk_cell BK313.out 1).trans rfl
   have hcz13_2 : w8.cell? ⟨gb313, 2, none⟩ = some (.int .i64 0) := (blk_cell BK313.out 2).trans rfl
   have hfz13_0 := blk_frozen BK313.out 0
   have hfz13_1 := blk_frozen BK313.out 1
   have hfz13_2 := blk_frozen BK313.out 2
   go_wp2
   go_meet
   case rel => exact ⟨_, ((t310 != 1)), (by first | rfl | (simp; done) | (simp [*]; done) | (simp [bne_nil]; done)), H', ⟨by first | omega | exact Nat.le_refl _⟩, ⟨by (with_reducible repeat (first | refine blk_drewN ?_ _ | refine blk_drew ?_ | refine blk_alloc ?_ _)); refine blk_far ?_ NB308_313.out _; (with_reducible repeat (first | refine blk_drewN ?_ _ | refine blk_drew ?_ | refine blk_alloc ?_ _)); refine blk_far ?_ NB308_313.out _; (with_reducible repeat (first | refine blk_drewN ?_ _ | refine blk_drew ?_ | refine blk_alloc ?_ _)); refine blk_far ?_ NB308_313.out _; (with_reducible repeat (first | refine blk_drewN ?_ _ | refine blk_drew ?_ | refine blk_alloc ?_ _)); exact BK308.out⟩, ⟨by (with_reducible repeat (first | refine blk_drewN ?_ _ | refine blk_drew ?_ | refine blk_alloc ?_ _)); refine blk_put (cs := #[.int .i64 t309, .int .i64 t310, .int .i64 0]) ?_ 2 _ rfl; (with_reducible repeat (first | refine blk_drewN ?_ _ | refine blk_drew ?_ | refine blk_alloc ?_ _)); refine blk_put (cs := #[.int .i64 t309, .int .i64 0, .int .i64 0]) ?_ 1 _ rfl; (with_reducible repeat (first | refine blk_drewN ?_ _ | refine blk_drew ?_ | refine blk_alloc ?_ _)); refine blk_put (cs := #[.int .i64 0, .int .i64 0, .int .i64 0]) ?_ 0 _ rfl; (with_reducible repeat (first | refine blk_drewN ?_ _ | refine blk_drew ?_ | refine blk_alloc ?_ _)); exact BK313.out⟩, ⟨by repeat (first | (with_reducible first | exact HB.out | apply below_alloc | apply pw_below_drewN | apply below_drew1 | refine below_set ?_ GE308.out | refine below_set ?_ GE313.out) | exact HB.out)⟩⟩
  ·
   rw [if_neg c11] at H
   have c11b0 : (t312 == 0) = false := beq_eq_false_iff_ne.mpr c11
   have c11b1 : (t312 != 0) = true := bne_iff_ne.mpr c11
   (first | rw [c11b0] | (simp only [i64_w, i32_w]; rw [c11b0]) | skip)
   have H' := Aside0.mk H
   clear H
   go_wp2
   go_meet
   case rel => exact ⟨_, (false), (by first | rfl | (simp; done) | (simp [*]; done) | (simp [bne_nil]; done)), H', ⟨by first | omega | exact Nat.le_refl _⟩, ⟨by (with_reducible repeat (first | refine blk_drewN ?_ _ | refine blk_drew ?_ | refine blk_alloc ?_ _)); refine blk_far ?_ NB308_313.out _; (with_reducible repeat (first | refine blk_drewN ?_ _ | refine blk_drew ?_ | refine blk_alloc ?_ _)); refine blk_far ?_ NB308_313.out _; (with_reducible repeat (first | refine blk_drewN ?_ _ | refine blk_drew ?_ | refine blk_alloc ?_ _)); refine blk_far ?_ NB308_313.out _; (with_reducible repeat (first | refine blk_drewN ?_ _ | refine blk_drew ?_ | refine blk_alloc ?_ _)); exact BK308.out⟩, ⟨by (with_reducible repeat (first | refine blk_drewN ?_ _ | refine blk_drew ?_ | refine blk_alloc ?_ _)); refine blk_put (cs := #[.int .i64 t309, .int .i64 t310, .int .i64 0]) ?_ 2 _ rfl; (with_reducible repeat (first | refine blk_drewN ?_ _ | refine blk_drew ?_ | refine blk_alloc ?_ _)); refine blk_put (cs := #[.int .i64 t309, .int .i64 0, .int .i64 0]) ?_ 1 _ rfl; (with_reducible repeat (first | refine blk_drewN ?_ _ | refine blk_drew ?_ | refine blk_alloc ?_ _)); refine blk_put (cs := #[.int .i64 0, .int .i64 0, .int .i64 0]) ?_ 0 _ rfl; (with_reducible repeat (first | refine blk_drewN ?_ _ | refine blk_drew ?_ | refine blk_alloc ?_ _)); exact BK313.out⟩, ⟨by repeat (first | (with_reducible first | exact HB.out | apply below_alloc | apply pw_below_drewN | apply below_drew1 | refine below_set ?_ GE308.out | refine below_set ?_ GE313.out) | exact HB.out)⟩⟩
 case rest =>
  clear HC4
  try clear c1
  try clear c2
  try clear p2
  try clear c9
  try clear c11
  try clear c11b0
  try clear c11b1
  try clear c12
  try clear hcz10_0
  try clear hcz10_1
  try clear hcz10_2
  try clear hcz13_0
  try clear hcz13_1
  try clear hcz13_2
  try clear hcz6_0
  try clear hcz6_1
  try clear hfz10_0
  try clear hfz10_1
  try clear hfz10_2
  try clear hfz13_0
  try clear hfz13_1
  try clear hfz13_2
  try clear hfz6_0
  try clear hfz6_1
  obtain ⟨kq, x23_3, rfl, HA, HJ3, BK308, BK313, HB⟩ := hcut
  cases kq with
  | zero => exact absurd HA.out (by simp [linhayref09_List.j0])
  | succ kj3 =>
   have H := HA.out
   clear HA
   simp only [linhayref09_List.j0] at H
   have HC14 := Aside0.mk H
   clear H
   go_upto_if 23 with (fail)
   go_cut [7] (fun v7 wc => ∃ (kq : Nat) (x7_13 : Int), v7 = .int .i64 x7_13 ∧ Aside0 (linhayref09_List.j1 kq x7_13 l0_0 a0_1 t309 t310 t311 = some (r1, r2)) ∧ Aside0 (kq ≤ kj3) ∧ Aside0 (wc.heap[gb308]? = some (.cells #[(.slice A0_0 l0_0.length c0_0), .int .i64 a0_1] 28 (0, 0))) ∧ Aside0 (wc.heap[gb313]? = some (.cells #[.int .i64 t309, .int .i64 t310, .int .i64 t311] 32 (0, 0))) ∧ Aside0 (Below w.heap.size w wc))
   case first =>
    have H := HC14.out
    clear HC14
    by_cases c15 : x23_3 = true
    ·
     subst c15
     have H1 : (linhayref09_List.j1 kj3 7 l0_0 a0_1 t309 t310 t311) = some (r1, r2) := by rw [if_pos rfl] at H; exact H
     clear H
     have H := H1
     clear H1
     have H' := Aside0.mk H
     clear H
     go_wp2
     go_meet
     case rel => exact ⟨_, (7), (by first | rfl | (simp; done) | (simp [*]; done) | (simp [bne_nil]; done)), H', ⟨by have := HJ3.out; first | omega | exact Nat.le_refl _⟩, ⟨by (with_reducible repeat (first | refine blk_drewN ?_ _ | refine blk_drew ?_ | refine blk_alloc ?_ _)); exact BK308.out⟩, ⟨by (with_reducible repeat (first | refine blk_drewN ?_ _ | refine blk_drew ?_ | refine blk_alloc ?_ _)); exact BK313.out⟩, ⟨by repeat (first | (with_reducible first | exact HB.out | apply below_alloc | apply pw_below_drewN | apply below_drew1 | refine below_set ?_ GE308.out | refine below_set ?_ GE313.out) | exact HB.out)⟩⟩
    ·
     replace c15 := Bool.eq_false_iff.mpr c15
     subst c15
     have H1 : (linhayref09_List.j1 kj3 t312 l0_0 a0_1 t309 t310 t311) = some (r1, r2) := by rw [if_neg (show ¬ (false = true) by decide)] at H; exact H
     clear H
     have H := H1
     clear H1
     have H' := Aside0.mk H
     clear H
     go_wp2
     go_meet
     case rel => exact ⟨_, (t312), (by first | rfl | (simp; done) | (simp [*]; done) | (simp [bne_nil]; done)), H', ⟨by have := HJ3.out; first | omega | exact Nat.le_refl _⟩, ⟨by (with_reducible repeat (first | refine blk_drewN ?_ _ | refine blk_drew ?_ | refine blk_alloc ?_ _)); exact BK308.out⟩, ⟨by (with_reducible repeat (first | refine blk_drewN ?_ _ | refine blk_drew ?_ | refine blk_alloc ?_ _)); exact BK313.out⟩, ⟨by repeat (first | (with_reducible first | exact HB.out | apply below_alloc | apply pw_below_drewN | apply below_drew1 | refine below_set ?_ GE308.out | refine below_set ?_ GE313.out) | exact HB.out)⟩⟩
   case rest =>
    clear HC14
    try clear c1
    try clear c2
    try clear p2
    try clear c9
    try clear c11
    try clear c11b0
    try clear c11b1
    try clear c12
    try clear c14
    try clear c15
    try clear hcz10_0
    try clear hcz10_1
    try clear hcz10_2
    try clear hcz13_0
    try clear hcz13_1
    try clear hcz13_2
    try clear hcz6_0
    try clear hcz6_1
    try clear hfz10_0
    try clear hfz10_1
    try clear hfz10_2
    try clear hfz13_0
    try clear hfz13_1
    try clear hfz13_2
    try clear hfz6_0
    try clear hfz6_1
    try clear p2
    obtain ⟨kq, x7_13, rfl, HA, HJ13, BK308, BK313, HB⟩ := hcut
    cases kq with
    | zero => exact absurd HA.out (by simp [linhayref09_List.j1])
    | succ kj13 =>
     have H := HA.out
     clear HA
     simp only [linhayref09_List.j1] at H
     by_cases c16 : x7_13 = 0
     ·
      rw [if_pos c16] at H
      have c16b0 : (x7_13 == 0) = true := beq_iff_eq.mpr c16
      have c16b1 : (x7_13 != 0) = false := bne_eq_false_iff_eq.mpr c16
      clear c16
      replace H := Option.bind_eq_some_iff.mp H
      obtain ⟨t314, A170, H⟩ := H
      replace H : (linhayref09_List.l0 kj13 ([] : List ByteArray) t314 0) = some (r1, r2) := H
      have A17 := Aside0.mk A170
      clear A170
      have H' := Aside0.mk H
      clear H
      have hnb18 := NB308_313.out
      have hnc18 := NB313_308.out
      have hcz19_0 : wc.cell? ⟨gb308, 0, none⟩ = some (.slice A0_0 l0_0.length c0_0) := (blk_cell BK308.out 0).trans rfl
      have hcz19_1 : wc.cell? ⟨gb308, 1, none⟩ = some (.int .i64 a0_1) := (blk_cell BK308.out 1).trans rfl
      have hfz19_0 := blk_frozen BK308.out 0
      have hfz19_1 := blk_frozen BK308.out 1
      have hcz20_0 : wc.cell? ⟨gb313, 0, none⟩ = some (.int .i64 t309) := (blk_cell BK313.out 0).trans rfl
      have hcz20_1 : wc.cell? ⟨gb313, 1, none⟩ = some (.int .i64 t310) := (blk_cell BK313.out 1).trans rfl
      have hcz20_2 : wc.cell? ⟨gb313, 2, none⟩ = some (.int .i64 t311) := (blk_cell BK313.out 2).trans rfl
      have hfz20_0 := blk_frozen BK313.out 0
      have hfz20_1 := blk_frozen BK313.out 1
      have hfz20_2 := blk_frozen BK313.out 2
      go_wp2_with (first | ((with_reducible refine gate_callee (f := 50) rfl ?_); refine goesL_ (some 30) rfl rfl Try.func50 (by kernel_rfl) rfl #[.agg #[.slice A0_0 l0_0.length c0_0, .int .i64 a0_1], .int .i64 t309] rfl (by (try simp only [List.map_toArray, List.map_cons, List.map_nil]); first | done | rfl | (simp only [List.length_drop, List.length_take]; rfl)) ?_; (with_reducible refine (linhayref07_List.calls kj13 _ _ l0_0 a0_1 t309 t314 _ ?side1 ?side2 A17.out).mono ?_); (case side1 => repeat (first | exact (Kd.C_below HR0_0.out HB.out) | (with_reducible refine Kd.C_alloc ?_ _) | (with_reducible refine Kd.C_drewN ?_ _) | (with_reducible refine Kd.C_drew ?_))); (case side2 => exact HC0_0.out); rintro e w21 ⟨v315, rfl, ho0, hb⟩; refine ⟨_, rfl, ?_⟩; have n0_ := Aside0.mk (Kd.R_lower ho0 (below_size (by repeat (first | (with_reducible first | exact HB.out | apply below_alloc | apply pw_below_drewN | apply below_drew1 | refine below_set ?_ GE308.out | refine below_set ?_ GE313.out) | exact HB.out)))); have n1_ := Aside0.mk (blk_below (g := gb308) (o := .cells #[.slice A0_0 l0_0.length c0_0, .int .i64 a0_1] 28 (0, 0)) (by (with_reducible repeat (first | refine blk_drewN ?_ _ | refine blk_drew ?_ | refine blk_alloc ?_ _)); exact BK308.out) hb); have n2_ := Aside0.mk (blk_below (g := gb313) (o := .cells #[.int .i64 t309, .int .i64 t310, .int .i64 t311] 32 (0, 0)) (by (with_reducible repeat (first | refine blk_drewN ?_ _ | refine blk_drew ?_ | refine blk_alloc ?_ _)); exact BK313.out) hb); have n3_ := Aside0.mk (below_step (by repeat (first | (with_reducible first | exact HB.out | apply below_alloc | apply pw_below_drewN | apply below_drew1 | refine below_set ?_ GE308.out | refine below_set ?_ GE313.out) | exact HB.out)) hb); clear BK308; clear BK313; clear HB; have HO316 := n0_; have BK308 := n1_; have BK313 := n2_; have HB := n3_; clear n0_ n1_ n2_ n3_; (try clear hb); (try clear hb2); (try clear hk); (try clear hi); (try clear ho0)))
      go_loopg [8, 10] kj13 (fun kq v8 v10 w' => ∃ (x8_3 : List ByteArray) (x10_3 : Int), v10 = .int .i64 x10_3 ∧ Aside0 (linhayref09_List.l0 kq x8_3 t314 x10_3 = some (r1, r2)) ∧ Aside0 (kq ≤ kj13) ∧ Aside0 (Kd.R Kd.string 9 w' w.heap.size (fun _ => True) v8 x8_3) ∧ Aside0 (Kd.R k108 108 w' w.heap.size (fun _ => True) v315 t314) ∧ Aside0 (w'.heap[gb308]? = some (.cells #[(.slice A0_0 l0_0.length c0_0), .int .i64 a0_1] 28 (0, 0))) ∧ Aside0 (w'.heap[gb313]? = some (.cells #[.int .i64 t309, .int .i64 t310, .int .i64 t311] 32 (0, 0))) ∧ Aside0 (Below w.heap.size w w'))
      case atStart => exact ⟨(([] : List ByteArray)), (0), (by first | rfl | (simp; done) | (simp [*]; done) | (simp [bne_nil]; done)), H', ⟨Nat.le_refl _⟩, ⟨by first | exact Kd.R_nil _ _ _ _ _ | exact Kd.N_nil _ _ _ _ _ | exact Kd.V_nil _ _ _ _ _ | exact Kd.Q_nil _ _ _ _ _ | exact Kd.S_nil _ _ _ _ _⟩, ⟨by (with_reducible repeat (first | apply Kd.R_alloc | apply Kd.R_drewN | apply Kd.R_drew)); first | exact HO316.out | exact own_cut HO316.out⟩, ⟨by (with_reducible repeat (first | refine blk_drewN ?_ _ | refine blk_drew ?_ | refine blk_alloc ?_ _)); exact BK308.out⟩, ⟨by (with_reducible repeat (first | refine blk_drewN ?_ _ | refine blk_drew ?_ | refine blk_alloc ?_ _)); exact BK313.out⟩, ⟨by repeat (first | (with_reducible first | exact HB.out | apply below_alloc | apply pw_below_drewN | apply below_drew1 | refine below_set ?_ GE308.out | refine below_set ?_ GE313.out) | exact HB.out)⟩⟩
      case round =>
       clear H'
       try clear c1
       try clear c2
       try clear p2
       try clear c5
       try clear c9
       try clear c11
       try clear c11b0
       try clear c11b1
       try clear c12
       try clear c14
       try clear c15
       try clear c16
       try clear c16b0
       try clear c16b1
       try clear c18
       try clear c20
       try clear hcz10_0
       try clear hcz10_1
       try clear hcz10_2
       try clear hcz13_0
       try clear hcz13_1
       try clear hcz13_2
       try clear hcz19_0
       try clear hcz19_1
       try clear hcz20_0
       try clear hcz20_1
       try clear hcz20_2
       try clear hcz6_0
       try clear hcz6_1
       try clear hfz10_0
       try clear hfz10_1
       try clear hfz10_2
       try clear hfz13_0
       try clear hfz13_1
       try clear hfz13_2
       try clear hfz19_0
       try clear hfz19_1
       try clear hfz20_0
       try clear hfz20_1
       try clear hfz20_2
       try clear hfz6_0
       try clear hfz6_1
       try clear p2
       obtain ⟨x8_3, x10_3, rfl, HA, HK3, HO_8, HO_9, BK308, BK313, HB⟩ := hrel
       cases gk with
       | zero => exact absurd HA.out (by simp [linhayref09_List.l0])
       | succ k3 =>
        have H := HA.out
        clear HA
        simp only [linhayref09_List.l0] at H
        by_cases c22 : x10_3 < (t314.length : Int)
        ·
         rw [if_pos c22] at H
         have c22b0 : decide (x10_3 < (t314.length : Int)) = true := decide_eq_true c22
         clear c22
         by_cases c23 : 0 ≤ x10_3
         ·
          rw [if_pos c23] at H
          have c23b0 : decide (0 ≤ x10_3) = true := decide_eq_true c23
          clear c23
          by_cases c24 : x8_3.length < 8796093022208
          ·
           rw [if_pos c24] at H
           have LMc24 := Aside0.mk c24
           clear c24
           obtain ⟨y318, hy318⟩ : ∃ y_ : List ByteArray, y_ = (x8_3 ++ [(rd_T108 t314 x10_3).f0]) := ⟨_, rfl⟩
           replace H : (linhayref09_List.l0 k3 y318 t314 (wrap64 (x10_3 + 1))) = some (r1, r2) := by first | (rw [hy318]; with_reducible exact H) | (have H2_ := (Option.bind_some _ _).symm.trans H; rw [hy318]; with_reducible exact H2_) | (have H2_ := (Option.bind_some _ _).symm.trans H; with_reducible exact H2_) | with_reducible exact H | (rw [hy318]; exact H) | exact H
           have Ny318 := Aside0.mk hy318
           clear hy318
           have H' := Aside0.mk H
           clear H
           obtain ⟨Ao25, co25, eo25⟩ := Kd.R_slice HO_9.out
           subst eo25
           have p317 : 0 ≤ (x10_3 : Int) := of_decide_eq_true (by first | (with_reducible assumption) | assumption)
           have q317 : x10_3 < (t314.length : Int) := of_decide_eq_true (by first | (with_reducible assumption) | assumption)
           obtain ⟨ad317, e317, hx317_0, hx317_1⟩ := at_T108 (Kd.R_reads' HO_9.out).2.2 x10_3 p317 q317
           cases e317
           replace p317 := eq_true p317
           replace q317 := eq_true q317
           go_wp2_with (first | ((with_reducible refine gate_builtin (b := .append) (xs := #[.tmp 37, .tmp 43]) rfl ?_); at_builtin; refine Kd.R_append Kd.string (w0 := w) w.heap.size rfl (.tmp 37) (.tmp 43) 42 9 (.string ⟨#[]⟩) 16 rfl Try.underlying42 info9 rfl (by decide) (by omega) u8 x8_3 ((rd_T108 t314 x10_3).f0) [.string ((rd_T108 t314 x10_3).f0)] (fun _ => True) (fun _ => False) rfl rfl ?aP (fun _ hk => hk.elim) ?aF ?aO ?aB ?aS ?aL ?_; (case aP => exact rfl); (case aB => exact (by repeat (first | (with_reducible first | exact HB.out | apply below_alloc | apply pw_below_drewN | apply below_drew1 | refine below_set ?_ GE308.out | refine below_set ?_ GE313.out) | exact HB.out))); (case aF => exact (fun _ _ => trivial)); (case aO => exact (by (with_reducible repeat (first | apply Kd.R_alloc | apply Kd.R_drewN | apply Kd.R_drew)); exact HO_8.out)); (case aS => exact (below_size (by repeat (first | (with_reducible first | exact HB.out | apply below_alloc | apply pw_below_drewN | apply below_drew1 | refine below_set ?_ GE308.out | refine below_set ?_ GE313.out) | exact HB.out)))); (case aL => have := LMc24.out; omega); intro v319 w26 ho hb hg hat; rw [← Ny318.out] at ho; have n0_ := Aside0.mk (Kd.R_over' (by (with_reducible repeat (first | apply Kd.R_alloc | apply Kd.R_drewN | apply Kd.R_drew)); exact HO_9.out) (Kd.R_typed (by (with_reducible repeat (first | apply Kd.R_alloc | apply Kd.R_drewN | apply Kd.R_drew)); exact HO_8.out)) (by decide) hg); have n1_ := Aside0.mk (blk_grown (g := gb308) (o := .cells #[.slice A0_0 l0_0.length c0_0, .int .i64 a0_1] 28 (0, 0)) (by (with_reducible repeat (first | refine blk_drewN ?_ _ | refine blk_drew ?_ | refine blk_alloc ?_ _)); exact BK308.out) hg (Kd.R_ne HO_8.out BK308.out (by decide))); have n2_ := Aside0.mk (blk_grown (g := gb313) (o := .cells #[.int .i64 t309, .int .i64 t310, .int .i64 t311] 32 (0, 0)) (by (with_reducible repeat (first | refine blk_drewN ?_ _ | refine blk_drew ?_ | refine blk_alloc ?_ _)); exact BK313.out) hg (Kd.R_ne HO_8.out BK313.out (by decide))); have n3_ := Aside0.mk (hb); have n4_ := Aside0.mk (ho); clear HO_9; clear BK308; clear BK313; clear HB; clear HO_8; have HO_9 := n0_; have BK308 := n1_; have BK313 := n2_; have HB := n3_; have HO320 := n4_; clear n0_ n1_ n2_ n3_ n4_; clear ho hb hg hat))
           go_roundg k3
           case measure => have := HJ3.out; have := HJ13.out; have := HK3.out; omega
           case rel => exact ⟨(y318), (wrap64 (x10_3 + 1)), (by first | rfl | (simp; done) | (simp [*]; done) | (simp [bne_nil]; done)), H', ⟨by have := HJ3.out; have := HJ13.out; have := HK3.out; omega⟩, ⟨by (with_reducible repeat (first | apply Kd.R_alloc | apply Kd.R_drewN | apply Kd.R_drew)); first | exact HO320.out | exact own_cut HO320.out⟩, ⟨by (with_reducible repeat (first | apply Kd.R_alloc | apply Kd.R_drewN | apply Kd.R_drew)); first | exact HO_9.out | exact own_cut HO_9.out⟩, ⟨by (with_reducible repeat (first | refine blk_drewN ?_ _ | refine blk_drew ?_ | refine blk_alloc ?_ _)); exact BK308.out⟩, ⟨by (with_reducible repeat (first | refine blk_drewN ?_ _ | refine blk_drew ?_ | refine blk_alloc ?_ _)); exact BK313.out⟩, ⟨by repeat (first | (with_reducible first | exact HB.out | apply below_alloc | apply pw_below_drewN | apply below_drew1 | refine below_set ?_ GE308.out | refine below_set ?_ GE313.out) | exact HB.out)⟩⟩
          ·
           rw [if_neg c24] at H
           exact absurd H (by simp)
         ·
          rw [if_neg c23] at H
          exact absurd H (by simp)
        ·
         rw [if_neg c22] at H
         have c22b0 : decide (x10_3 < (t314.length : Int)) = false := decide_eq_false c22
         clear c22
         simp only [Option.some.injEq, Prod.mk.injEq] at H
         obtain ⟨rfl, rfl⟩ := H
         obtain ⟨Ao27, co27, eo27⟩ := Kd.R_slice HO_9.out
         subst eo27
         go_wp2
         go_ret2
         exact ⟨_, by first | rfl | (simp [errW_none, errW_some] <;> rfl) | (simp [*, errW_none, errW_some] <;> rfl) | (simp [errW_none, errW_some, bne_nil]; done) | (simp [*, bne_nil]; done) | (simp [bne]; done), by (with_reducible repeat (first | apply Kd.R_alloc | apply Kd.R_drewN | apply Kd.R_drew)); exact HO_8.out, by repeat (first | (with_reducible first | exact HB.out | apply below_alloc | apply pw_below_drewN | apply below_drew1 | refine below_set ?_ GE308.out | refine below_set ?_ GE313.out) | exact HB.out)⟩
     ·
      rw [if_neg c16] at H
      have c16b0 : (x7_13 == 0) = false := beq_eq_false_iff_ne.mpr c16
      have c16b1 : (x7_13 != 0) = true := bne_iff_ne.mpr c16
      simp only [Option.some.injEq, Prod.mk.injEq] at H
      obtain ⟨rfl, rfl⟩ := H
      go_wp2
      go_ret2
      exact ⟨_, by first | rfl | (simp [errW_none, errW_some] <;> rfl) | (simp [*, errW_none, errW_some] <;> rfl) | (simp [errW_none, errW_some, bne_nil]; done) | (simp [*, bne_nil]; done) | (simp [bne]; done), by first | exact Kd.R_nil _ _ _ _ _ | exact Kd.N_nil _ _ _ _ _ | exact Kd.V_nil _ _ _ _ _ | exact Kd.Q_nil _ _ _ _ _ | exact Kd.S_nil _ _ _ _ _, by repeat (first | (with_reducible first | exact HB.out | apply below_alloc | apply pw_below_drewN | apply below_drew1 | refine below_set ?_ GE308.out | refine below_set ?_ GE313.out) | exact HB.out)⟩

-- NOT PRINTED: function 77 (linhayref45_Go)

-- NOT PRINTED: function 36 (linhayref45_Of)

end Go.Proofs.Ytjfigngmpagloaa.X

namespace Go.Proofs.Ytjfigngmpagloaa.Ext
end Go.Proofs.Ytjfigngmpagloaa.Ext
namespace Go.Proofs.Ytjfigngmpagloaa.X
open Go.RowKit Go.Proofs.YtjfigngmpagloaaW.PrintWords Go.Proofs.YtjfigngmpagloaaW.PrintLast Go.Proofs.YtjfigngmpagloaaW.PrintMore Go.Proofs.Ytjfigngmpagloaa.Ext
attribute [local go_sem] max2_int min2_int max_two min_two max_three min_three max_four min_four   -- for this text's walks alone
set_option linter.unusedVariables false
set_option linter.unusedSimpArgs false

def linhayref02_Same.l0 : Nat → List ByteArray → List ByteArray → Int → Option (Bool)
  | 0, _, _, _ => none
  | k + 1, x0, x1, x5 => if x5 < (x0.length : Int) then (if 0 ≤ x5 then (if x5 < (x1.length : Int) then (if (rdOf ByteArray.empty x0 x5).toList = (rdOf ByteArray.empty x1 x5).toList then (linhayref02_Same.l0 k x0 x1 (wrap64 (x5 + 1))) else (some false)) else (none)) else (none)) else (some true)
def linhayref02_Same.f (k : Nat) (l0 : List ByteArray) (l1 : List ByteArray) : Option (Bool) := if (l0.length : Int) = (l1.length : Int) then (linhayref02_Same.l0 k l0 l1 0) else (some false)
set_option maxHeartbeats 8000000 in
set_option maxRecDepth 100000 in
theorem linhayref02_Same.calls (k : Nat) (A0 : Option Addr) (c0 : Nat) (l0 : List ByteArray) (A1 : Option Addr) (c1 : Nat) (l1 : List ByteArray) (r : Bool) (w : World) (hr0 : Kd.C Kd.string w A0 l0.length l0) (hc0 : l0.length ≤ c0) (hr1 : Kd.C Kd.string w A1 l1.length l1) (hc1 : l1.length ≤ c1) (h : linhayref02_Same.f k l0 l1 = some r) :
  Calls Try.prog 21 #[.slice A0 l0.length c0, .slice A1 l1.length c1] w fun e w' => e = .returned (.bool r) ∧ Drawn0 w w' := by
 have hu75 := Try.underlying75
 have hu76 := Try.underlying76
 have hu89 := Try.underlying89
 have hu97 := Try.underlying97
 have hu108 := Try.underlying108
 have HR0 := Aside0.mk hr0
 have HC0 := Aside0.mk hc0
 clear hr0 hc0
 have HR1 := Aside0.mk hr1
 have HC1 := Aside0.mk hc1
 clear hr1 hc1
 have H : (if (l0.length : Int) = (l1.length : Int) then (linhayref02_Same.l0 k l0 l1 0) else (some false)) = some r := h
 clear h
 by_cases c3 : (l0.length : Int) = (l1.length : Int)
 ·
  rw [if_pos c3] at H
  have c3b0 : ((l0.length : Int) == (l1.length : Int)) = true := beq_iff_eq.mpr c3
  have c3b1 : ((l0.length : Int) != (l1.length : Int)) = false := bne_eq_false_iff_eq.mpr c3
  have c3b2 : (l0.length == l1.length) = true := by first | simpa using c3 | (simp at c3 ⊢; omega)
  clear c3
  have H' := Aside0.mk H
  clear H
  go_enter Try.func21, Try.ntmps21
  go_wp2
  repeat (go_quiet (fail); try go_wp2)
  go_loopg [5] k (fun kq v5 w' => ∃ (x5_1 : Int), v5 = .int .i64 x5_1 ∧ Aside0 (linhayref02_Same.l0 kq l0 l1 x5_1 = some r) ∧ Aside0 (kq ≤ k) ∧ Drawn0 w w')
  case atStart => exact ⟨(0), (by first | rfl | (simp; done) | (simp [*]; done) | (simp [bne_nil]; done)), H', ⟨Nat.le_refl _⟩, by repeat (first | exact Drawn0.refl _ | apply Drawn0.step)⟩
  case round =>
   clear H'
   try clear c1
   try clear c2
   try clear p2
   try clear c3
   try clear c3b0
   try clear c3b1
   try clear c3b2
   obtain ⟨x5_1, rfl, HA, HK1, ⟨m1, rfl⟩⟩ := hrel
   cases gk with
   | zero => exact absurd HA.out (by simp [linhayref02_Same.l0])
   | succ k1 =>
    have H := HA.out
    clear HA
    simp only [linhayref02_Same.l0] at H
    by_cases c4 : x5_1 < (l0.length : Int)
    ·
     rw [if_pos c4] at H
     have c4b0 : decide (x5_1 < (l0.length : Int)) = true := decide_eq_true c4
     clear c4
     by_cases c5 : 0 ≤ x5_1
     ·
      rw [if_pos c5] at H
      have c5b0 : decide (0 ≤ x5_1) = true := decide_eq_true c5
      clear c5
      by_cases c6 : x5_1 < (l1.length : Int)
      ·
       rw [if_pos c6] at H
       have c6b0 : decide (x5_1 < (l1.length : Int)) = true := decide_eq_true c6
       clear c6
       by_cases c7 : (rdOf ByteArray.empty l0 x5_1).toList = (rdOf ByteArray.empty l1 x5_1).toList
       ·
        rw [if_pos c7] at H
        have c7b0 : ((rdOf ByteArray.empty l0 x5_1).toList == (rdOf ByteArray.empty l1 x5_1).toList) = true := beq_iff_eq.mpr c7
        have c7b1 : ((rdOf ByteArray.empty l0 x5_1).toList != (rdOf ByteArray.empty l1 x5_1).toList) = false := bne_eq_false_iff_eq.mpr c7
        clear c7
        have H' := Aside0.mk H
        clear H
        have p407 : 0 ≤ (x5_1 : Int) := of_decide_eq_true (by first | (with_reducible assumption) | assumption)
        have q407 : x5_1 < (l0.length : Int) := of_decide_eq_true (by first | (with_reducible assumption) | assumption)
        obtain ⟨ad407, e407, hx407_0⟩ := Kd.at_string HR0.out x5_1 p407 q407
        cases e407
        replace p407 := eq_true p407
        replace q407 := eq_true q407
        have p408 : 0 ≤ (x5_1 : Int) := of_decide_eq_true (by first | (with_reducible assumption) | assumption)
        have q408 : x5_1 < (l1.length : Int) := of_decide_eq_true (by first | (with_reducible assumption) | assumption)
        obtain ⟨ad408, e408, hx408_0⟩ := Kd.at_string HR1.out x5_1 p408 q408
        cases e408
        replace p408 := eq_true p408
        replace q408 := eq_true q408
        go_wp2
        repeat (go_quiet (fail); try go_wp2)
        go_roundg k1
        case measure => have := HK1.out; omega
        case rel => exact ⟨(wrap64 (x5_1 + 1)), (by first | rfl | (simp; done) | (simp [*]; done) | (simp [bne_nil]; done)), H', ⟨by have := HK1.out; omega⟩, by repeat (first | exact Drawn0.refl _ | apply Drawn0.step)⟩
       ·
        rw [if_neg c7] at H
        have c7b0 : ((rdOf ByteArray.empty l0 x5_1).toList == (rdOf ByteArray.empty l1 x5_1).toList) = false := beq_eq_false_iff_ne.mpr c7
        have c7b1 : ((rdOf ByteArray.empty l0 x5_1).toList != (rdOf ByteArray.empty l1 x5_1).toList) = true := bne_iff_ne.mpr c7
        obtain rfl := Option.some.inj H
        have p407 : 0 ≤ (x5_1 : Int) := of_decide_eq_true (by first | (with_reducible assumption) | assumption)
        have q407 : x5_1 < (l0.length : Int) := of_decide_eq_true (by first | (with_reducible assumption) | assumption)
        obtain ⟨ad407, e407, hx407_0⟩ := Kd.at_string HR0.out x5_1 p407 q407
        cases e407
        replace p407 := eq_true p407
        replace q407 := eq_true q407
        have p408 : 0 ≤ (x5_1 : Int) := of_decide_eq_true (by first | (with_reducible assumption) | assumption)
        have q408 : x5_1 < (l1.length : Int) := of_decide_eq_true (by first | (with_reducible assumption) | assumption)
        obtain ⟨ad408, e408, hx408_0⟩ := Kd.at_string HR1.out x5_1 p408 q408
        cases e408
        replace p408 := eq_true p408
        replace q408 := eq_true q408
        go_wp2
        repeat (go_quiet (fail); try go_wp2)
        go_ret
        exact ⟨by first | rfl | (simp; done) | (simp [*]; done), by repeat (first | exact Drawn0.refl _ | apply Drawn0.step)⟩
      ·
       rw [if_neg c6] at H
       exact absurd H (by simp)
     ·
      rw [if_neg c5] at H
      exact absurd H (by simp)
    ·
     rw [if_neg c4] at H
     have c4b0 : decide (x5_1 < (l0.length : Int)) = false := decide_eq_false c4
     clear c4
     obtain rfl := Option.some.inj H
     go_wp2
     repeat (go_quiet (fail); try go_wp2)
     go_ret
     exact ⟨by first | rfl | (simp; done) | (simp [*]; done), by repeat (first | exact Drawn0.refl _ | apply Drawn0.step)⟩
 ·
  rw [if_neg c3] at H
  have c3b0 : ((l0.length : Int) == (l1.length : Int)) = false := beq_eq_false_iff_ne.mpr c3
  have c3b1 : ((l0.length : Int) != (l1.length : Int)) = true := bne_iff_ne.mpr c3
  have c3b2 : (l0.length == l1.length) = false := by first | simpa using c3 | (simp at c3 ⊢; omega)
  obtain rfl := Option.some.inj H
  go_enter Try.func21, Try.ntmps21
  go_wp2
  repeat (go_quiet (fail); try go_wp2)
  go_ret
  exact ⟨by first | rfl | (simp; done) | (simp [*]; done), by repeat (first | exact Drawn0.refl _ | apply Drawn0.step)⟩

end Go.Proofs.Ytjfigngmpagloaa.X

namespace Go.Proofs.Ytjfigngmpagloaa.Tw
open Go Go.RowKit Go.Proofs Go.Proofs.Ytjfigngmpagloaa Go.Proofs.YtjfigngmpagloaaW.PrintWords Go.Proofs.Ytjfigngmpagloaa.Ext Go.Proofs.Ytjfigngmpagloaa.X Go.Proofs.Ytjfigngmpagloaa.Pu
set_option linter.unusedVariables false
set_option linter.unusedSimpArgs false
theorem rdE_get {l : List En} {i : Nat} (h : i < l.length) : rd_T108 l (i : Int) = l[i] := by simp [rd_T108, h]
theorem right6_ev (l : List En) (hl : l.length < 4294967296) (hr : Rt l) : Ev (fun k => linhayref06_Right.f k l) true := by
  have key : ∀ (d i : Nat), i + d = l.length → Ev (fun k => linhayref06_Right.l0 k l (i : Int)) true := by
    intro d
    induction d with
    | zero =>
      intro i hi
      refine Ev.step (fun k => by rw [linhayref06_Right.l0]) ?_
      rw [w1 (by omega)]
      exact ev_neg (by omega) (Ev.now _)
    | succ d ih =>
      intro i hi
      refine Ev.step (fun k => by rw [linhayref06_Right.l0]) ?_
      rw [w1 (by omega)]
      by_cases h : i + 1 < l.length
      · refine ev_pos (by omega) (ev_pos (by omega) (ev_pos (by omega) (ev_pos (by omega) (ev_pos ?_ (ih (i + 1) (by omega))))))
        rw [rdE_get (by omega), rdE_get h]
        exact List.pairwise_iff_getElem.1 hr i (i + 1) (by omega) h (by omega)
      · exact ev_neg (by omega) (Ev.now _)
  exact key l.length 0 (by omega)
theorem all6_ev (l : List En) (hl : l.length < 4294967296) (hr : Rt l) : Ev (fun k => linhayref06_all.f k l) l := by
  have hf : (fun k => linhayref06_all.f k l) = fun k => (linhayref06_Right.f k l).bind fun t => if t = true then some l else some ([] : List En) := rfl
  rw [hf]
  exact ev_bind (right6_ev l hl hr) (ev_pos rfl (Ev.now _))
theorem snocE (acc : List En) (q : En) (l : List En) : acc ++ [(⟨q.f0, q.f1⟩ : En)] ++ l = acc ++ q :: l := by rw [List.append_assoc]; rfl
theorem cut6_ev (l : List En) (s : ByteArray) (hl : l.length < 4294967296) (hr : Rt l) (hn : ∀ e ∈ l, e.f0 ≠ s) : Ev (fun k => linhayref06_Cut.f k l s) l := by
  have key : ∀ (d i : Nat) (acc : List En), i + d = l.length → acc.length + d ≤ 4294967296 → Ev (fun k => linhayref06_Cut.l0 k l s acc (i : Int)) (acc ++ l.drop i) := by
    intro d
    induction d with
    | zero =>
      intro i acc hi ha
      rw [List.drop_eq_nil_of_le (by omega), List.append_nil]
      refine Ev.step (fun k => by rw [linhayref06_Cut.l0]) ?_
      exact ev_neg (by omega) (Ev.now _)
    | succ d ih =>
      intro i acc hi ha
      have hlt : i < l.length := by omega
      refine Ev.step (fun k => by rw [linhayref06_Cut.l0]) (ev_pos (by omega) (ev_pos (by omega) ?_))
      rw [rdE_get hlt, w1 (by omega), List.drop_eq_getElem_cons hlt]
      refine ev_neg (fun e => hn _ (List.getElem_mem hlt) (toL_inj.1 e)) (ev_pos (by omega) ?_)
      have := ih (i + 1) (acc ++ [(⟨l[i].f0, l[i].f1⟩ : En)]) (by omega) (by simp; omega)
      rw [snocE] at this
      exact this
  have hf : (fun k => linhayref06_Cut.f k l s) = fun k => (linhayref06_all.f k l).bind fun t => linhayref06_Cut.l0 k t s ([] : List En) 0 := rfl
  rw [hf]
  refine ev_bind (all6_ev l hl hr) ?_
  have := key l.length 0 [] (by omega) (by simp; omega)
  simpa using this
theorem filt_ins (x : En) : ∀ l : List En, Rt l → (∀ e ∈ l, e.f0 ≠ x.f0) → l.filter (fun e => bl e.f0 x.f0) ++ x :: l.filter (fun e => bl x.f0 e.f0) = insE l x
  | [], _, _ => rfl
  | a :: l, hr, hn => by
    obtain ⟨h1, h2⟩ := List.pairwise_cons.1 hr
    have ih := filt_ins x l h2 (fun e he => hn e (List.mem_cons_of_mem _ he))
    unfold insE
    rw [List.filter_cons, List.filter_cons]
    by_cases h : bl a.f0 x.f0 = true
    · rw [if_pos h, if_pos h, if_neg (by rw [bl_asym h]; simp), List.cons_append, ih]
    · rw [if_neg h, if_neg h]
      have h3 : bl x.f0 a.f0 = true := by
        have h6 : (bl x.f0 a.f0 || x.f0.toList == a.f0.toList) = true := less_tot _ _ (show bl a.f0 x.f0 = false by simpa using h)
        rcases Bool.or_eq_true_iff.1 h6 with h7 | h7
        · exact h7
        · exact absurd (toL_inj.1 (by simpa using h7)).symm (hn a List.mem_cons_self)
      have e1 : l.filter (fun e => bl e.f0 x.f0) = [] := by
        rw [List.filter_eq_nil_iff]
        intro e he
        rw [bl_asym (bl_trans h3 (h1 e he))]
        simp
      have e2 : l.filter (fun e => bl x.f0 e.f0) = l := by
        rw [List.filter_eq_self]
        intro e he
        exact bl_trans h3 (h1 e he)
      rw [if_pos h3, e1, e2]
      rfl
theorem put6_ev (l : List En) (x : En) (hl : l.length < 1000000) (hr : Rt l) (hn : ∀ e ∈ l, e.f0 ≠ x.f0) : Ev (fun k => linhayref06_Put.f k l x.f0 x.f1) (insE l x) := by
  have k1 : ∀ (d i : Nat) (acc : List En), i + d = l.length → acc.length + d ≤ 4294967296 → Ev (fun k => linhayref06_Put.l1 k l acc (i : Int) x.f0 x.f1) (acc ++ (l.drop i).filter (fun e => bl x.f0 e.f0)) := by
    intro d
    induction d with
    | zero =>
      intro i acc hi ha
      rw [List.drop_eq_nil_of_le (by omega), List.filter_nil, List.append_nil]
      refine Ev.step (fun k => by rw [linhayref06_Put.l1]) ?_
      exact ev_neg (by omega) (Ev.now _)
    | succ d ih =>
      intro i acc hi ha
      have hlt : i < l.length := by omega
      refine Ev.step (fun k => by rw [linhayref06_Put.l1]) (ev_pos (by omega) (ev_pos (by omega) ?_))
      rw [rdE_get hlt, w1 (by omega), List.drop_eq_getElem_cons hlt, List.filter_cons]
      by_cases h : bl x.f0 l[i].f0 = true
      · rw [if_pos h]
        refine ev_pos h (ev_pos (by omega) ?_)
        have := ih (i + 1) (acc ++ [(⟨l[i].f0, l[i].f1⟩ : En)]) (by omega) (by simp; omega)
        rw [snocE] at this
        exact this
      · rw [if_neg h]
        exact ev_neg h (ih (i + 1) acc (by omega) (by omega))
  have k0 : ∀ (d i : Nat) (acc : List En), i + d = l.length → acc.length + d ≤ 2000000 → Ev (fun k => linhayref06_Put.l0 k l acc (i : Int) x.f0 x.f1) (acc ++ (l.drop i).filter (fun e => bl e.f0 x.f0) ++ x :: l.filter (fun e => bl x.f0 e.f0)) := by
    intro d
    induction d with
    | zero =>
      intro i acc hi ha
      rw [List.drop_eq_nil_of_le (by omega), List.filter_nil, List.append_nil]
      refine Ev.step (fun k => by rw [linhayref06_Put.l0]) ?_
      refine ev_neg (by omega) (ev_pos (by omega) ?_)
      have := k1 l.length 0 (acc ++ [(⟨x.f0, x.f1⟩ : En)]) (by omega) (by simp; omega)
      rw [snocE, List.drop_zero] at this
      exact this
    | succ d ih =>
      intro i acc hi ha
      have hlt : i < l.length := by omega
      refine Ev.step (fun k => by rw [linhayref06_Put.l0]) (ev_pos (by omega) (ev_pos (by omega) ?_))
      rw [rdE_get hlt, w1 (by omega), List.drop_eq_getElem_cons hlt, List.filter_cons]
      by_cases h : bl l[i].f0 x.f0 = true
      · rw [if_pos h]
        refine ev_pos h (ev_pos (by omega) ?_)
        have := ih (i + 1) (acc ++ [(⟨l[i].f0, l[i].f1⟩ : En)]) (by omega) (by simp; omega)
        rw [snocE] at this
        exact this
      · rw [if_neg h]
        exact ev_neg h (ih (i + 1) acc (by omega) (by omega))
  have hf : (fun k => linhayref06_Put.f k l x.f0 x.f1) = fun k => (linhayref06_Cut.f k l x.f0).bind fun t => linhayref06_Put.l0 k t ([] : List En) 0 x.f0 x.f1 := rfl
  rw [hf]
  refine ev_bind (cut6_ev l x.f0 (by omega) hr hn) ?_
  have := k0 l.length 0 [] (by omega) (by simp; omega)
  rw [List.nil_append, List.drop_zero, filt_ins x l hr hn] at this
  exact this
theorem list7_ev {L : List RN} {last : Int} (hG : GoodL L last) (n : Int) : Ev (fun k => linhayref07_List.f k L last n) (entsOf L n) := by
  have hl := hG.len
  have key : ∀ (d i : Nat), i + d = L.length → Ev (fun k => linhayref07_List.l0 k n (entsOf (L.take i) n) (i : Int) L last) (entsOf L n) := by
    intro d
    induction d with
    | zero =>
      intro i hi
      rw [List.take_of_length_le (by omega)]
      refine Ev.step (fun k => by rw [linhayref07_List.l0]) ?_
      exact ev_neg (by omega) (Ev.now _)
    | succ d ih =>
      intro i hi
      have hlt : i < L.length := by omega
      refine Ev.step (fun k => by rw [linhayref07_List.l0]) (ev_pos (by omega) (ev_pos (by omega) ?_))
      have hI := ih (i + 1) (by omega)
      rw [List.take_succ_eq_append_getElem hlt, entsOf_snoc] at hI
      rw [rd_get hlt, w1 (by omega)]
      by_cases h1 : L[i].f1 = n
      · by_cases h2 : L[i].f0 = 1
        · rw [if_neg (fun h => (isIn_iff.1 h).2 h2)] at hI
          exact ev_pos h1 (ev_pos h2 hI)
        · rw [if_pos (isIn_iff.2 ⟨h1, h2⟩)] at hI
          refine ev_pos h1 (ev_neg h2 (ev_bind (put6_ev (entsOf (L.take i) n) ⟨L[i].f2, L[i].f0⟩ ?_ ?_ ?_) hI))
          · have := ents_len (L.take i) n
            rw [List.length_take] at this
            omega
          · exact fold_rt n (L.take i) [] List.Pairwise.nil (by simp) (hG.names.sublist (List.take_sublist i L))
          · intro e he
            obtain ⟨r, hr, hi2, rfl⟩ := mem_ents.1 he
            obtain ⟨i1, i2⟩ := isIn_iff.1 hi2
            obtain ⟨j, hj, rfl⟩ := List.mem_iff_getElem.1 hr
            rw [List.length_take] at hj
            rw [List.getElem_take] at i1 i2 ⊢
            exact List.pairwise_iff_getElem.1 hG.names j i (by omega) hlt (by omega) (i1.trans h1.symm) i2 h2
      · rw [if_neg (fun h => h1 (isIn_iff.1 h).1)] at hI
        exact ev_neg h1 hI
  exact key L.length 0 (by omega)
end Go.Proofs.Ytjfigngmpagloaa.Tw

namespace Go.Proofs.Ytjfigngmpagloaa.Tw
open Go Go.RowKit Go.Proofs Go.Proofs.Ytjfigngmpagloaa Go.Proofs.YtjfigngmpagloaaW.PrintWords Go.Proofs.Ytjfigngmpagloaa.Ext Go.Proofs.Ytjfigngmpagloaa.X Go.Proofs.Ytjfigngmpagloaa.Pu
set_option linter.unusedVariables false
set_option linter.unusedSimpArgs false
theorem walk_rng {L : List RN} {last : Int} (hG : GoodL L last) (hM : GoodM L) (lst : Bool) : ∀ (k : Nat) (a h : Int) (l : List ByteArray) (R : Int × Int), walkF (trOf L last) lst k a h l = some R → (atR L a).f3 ≠ 0 → R.2 = 0 → (atR L R.1).f3 ≠ 0 := by
  intro k
  induction k with
  | zero => intro a h l R hw; cases hw
  | succ k ih =>
    intro a h l R hw ha hR
    cases l with
    | nil =>
      rw [walk_nil] at hw
      obtain rfl := Option.some.inj hw
      exact ha
    | cons s l =>
      rw [walk_cons, node_of hG a] at hw
      simp only [] at hw
      split at hw
      · obtain rfl := Option.some.inj hw; cases hR
      rename_i hk
      have hk1 : (atR L a).f3 = 1 := by simpa using hk
      split at hw
      · obtain ⟨r, hr, _, hat⟩ := at_kind ha
        refine ih _ _ _ _ hw ?_ hR
        rw [hat, hG.up r hr]
        decide
      split at hw
      · rename_i h3
        obtain rfl := Option.some.inj hw
        exact absurd hR h3
      rename_i h3
      have hd : (atR L (downT (trOf L last) a s).1).f3 ≠ 0 := by
        rw [downT_of hG] at h3 ⊢
        split at h3
        · rename_i hc
          rw [if_pos hc]
          split at h3
          · simp at h3
          · rename_i h0
            rw [if_neg h0]
            obtain ⟨r, hr, _, _, _, _, hat⟩ := inR_mem hG h0
            rw [show (inR L a s, (0 : Int)).1 = inR L a s from rfl, hat]
            have := hM.kind r hr
            omega
        · rename_i hc
          simp at h3
          exact absurd h3 hc
      split at hw
      · exact ih _ _ _ _ hw hd hR
      split at hw
      · obtain rfl := Option.some.inj hw; cases hR
      refine ih _ _ _ _ hw ?_ hR
      split
      · obtain ⟨r, hr, h1, _, h2⟩ := hG.root
        rw [← h1, at_mem hG hr, h2]
        decide
      · exact ha
theorem find_rng {L : List RN} {last : Int} (hG : GoodL L last) (hM : GoodM L) {lst : Bool} {k : Nat} {s : ByteArray} {R : Int × Int} (h : findF (trOf L last) lst k s = some R) : (R.2 = 0 → 1 ≤ R.1 ∧ R.1 ≤ last) ∧ (R.2 ≠ 0 → R.1 = 0) := by
  have hroot : (atR L 1).f3 ≠ 0 := by
    obtain ⟨r, hr, h1, _, h2⟩ := hG.root
    rw [← h1, at_mem hG hr, h2]
    decide
  unfold findF at h
  split at h
  · obtain ⟨q, hq, hr⟩ := Option.bind_eq_some_iff.1 h
    split at hr
    · rename_i h0
      obtain rfl := Option.some.inj hr
      refine ⟨fun _ => ?_, fun h => absurd rfl h⟩
      obtain ⟨r, hr, h1, _⟩ := at_kind (walk_rng hG hM lst k 1 0 (partsB s) q hq hroot h0)
      have := hG.num r hr
      omega
    · rename_i h0
      obtain rfl := Option.some.inj hr
      exact ⟨fun h => absurd h h0, fun _ => rfl⟩
  · rename_i h0
    obtain rfl := Option.some.inj h
    exact ⟨fun h => absurd h h0, fun _ => rfl⟩
theorem find_wf {L : List RN} {last : Int} (hG : GoodL L last) (hM : GoodM L) (hla : last ≤ 1000000) {lst : Bool} {k : Nat} {s : ByteArray} {R : Int × Int} (h : findF (trOf L last) lst k s = some R) : wf R.1 := by
  obtain ⟨h1, h2⟩ := find_rng hG hM h
  by_cases h0 : R.2 = 0
  · have := h1 h0
    exact wf_of (by omega)
  · rw [h2 h0]
    exact wf0
theorem dir_data {L : List RN} (hM : GoodM L) {n : Int} (h : (atR L n).f3 = 1) : (atR L n).f4.size = 0 := by
  obtain ⟨r, hr, _, hat⟩ := at_kind (L := L) (n := n) (by rw [h]; decide)
  rw [hat] at h ⊢
  exact hM.dirs r hr h
theorem ents_dir {L : List RN} {last : Int} (hG : GoodL L last) {n : Int} (h : (atR L n).f3 ≠ 1) : entsOf L n = [] := by
  cases he : entsOf L n with
  | nil => rfl
  | cons e l =>
    obtain ⟨r, hr, hi, _⟩ := mem_ents.1 (show e ∈ entsOf L n by rw [he]; exact List.mem_cons_self)
    obtain ⟨i1, i2⟩ := isIn_iff.1 hi
    have := hG.up r hr
    rw [i1] at this
    exact absurd this h
section
variable {L : List RN} {last : Int} {s : ByteArray} {lst : Bool} {R : Int × Int}
theorem stat9_ev (hG : GoodL L last) (hM : GoodM L) (hF : Ev (fun k => linhayref08_Find.f k L last s lst) R) :
    Ev (fun k => linhayref09_Stat.f k L last s lst) ((stT (trOf L last) R).1, (stT (trOf L last) R).2.1, (stT (trOf L last) R).2.2, R.2) := by
  have hl := hG.len
  unfold linhayref09_Stat.f stT sizeT
  refine ev_bind hF ?_
  by_cases h0 : R.2 = 0
  · rw [if_pos h0, node_of hG R.1, h0]
    refine ev_pos rfl (ev_bind (r07_at L R.1 last (by omega)) ?_)
    by_cases h1 : (atR L R.1).f3 = 1
    · refine ev_pos h1 (ev_bind (list7_ev hG R.1) ?_)
      simp only [dir_data hM h1]
      simp only [Int.ofNat_zero, Int.natCast_zero, Int.zero_add]
      exact Ev.now _
    · refine ev_neg h1 ?_
      simp only [ents_dir hG h1, List.length_nil]
      simp only [Int.ofNat_zero, Int.natCast_zero, Int.add_zero]
      exact Ev.now _
  · rw [if_neg h0]
    exact ev_neg h0 (Ev.now _)
theorem data9_ev (hG : GoodL L last) (hM : GoodM L) (hF : Ev (fun k => linhayref08_Find.f k L last s lst) R) (kind other : Int) :
    Ev (fun k => linhayref09_Data.f k L last s lst kind other) ((askD (trOf L last) R kind other).1, (askD (trOf L last) R kind other).2) := by
  have hl := hG.len
  have hS := stat9_ev hG hM hF
  unfold linhayref09_Data.f askD
  refine ev_bind hS ?_
  by_cases h0 : R.2 = 0
  · rw [if_neg (by simpa using h0), node_of hG R.1, show stT (trOf L last) R = (R.1, (atR L R.1).f3, sizeT (trOf L last) R.1) by unfold stT; rw [if_pos h0, node_of hG R.1]]
    refine ev_pos h0 ?_
    by_cases h1 : (atR L R.1).f3 = kind
    · rw [if_pos h1]
      exact ev_pos h1 (ev_bind (r07_at L R.1 last (by omega)) (Ev.now _))
    · rw [if_neg h1]
      exact ev_neg h1 (Ev.now _)
  · rw [if_pos h0]
    exact ev_neg h0 (Ev.now _)
theorem list9_ev (hG : GoodL L last) (hM : GoodM L) (hF : Ev (fun k => linhayref08_Find.f k L last s true) R) :
    Ev (fun k => linhayref09_List.f k L last s) ((askL (trOf L last) R).1, (askL (trOf L last) R).2) := by
  have hl := hG.len
  have hS := stat9_ev hG hM hF
  have hel := ents_len L R.1
  have loop : ∀ (l : List En), l.length ≤ 1000000 → ∀ (d i : Nat) (acc : List ByteArray), i + d = l.length → acc.length + d ≤ 2000000 → Ev (fun k => linhayref09_List.l0 k acc l (i : Int)) (acc ++ (l.drop i).map (·.f0), 0) := by
    intro l hl d
    induction d with
    | zero =>
      intro i acc hi ha
      rw [List.drop_eq_nil_of_le (by omega), List.map_nil, List.append_nil]
      refine Ev.step (fun k => by rw [linhayref09_List.l0]) ?_
      exact ev_neg (by omega) (Ev.now _)
    | succ d ih =>
      intro i acc hi ha
      have hlt : i < l.length := by omega
      refine Ev.step (fun k => by rw [linhayref09_List.l0]) (ev_pos (by omega) (ev_pos (by omega) (ev_pos (by omega) ?_)))
      rw [rdE_get hlt, w1 (by omega), List.drop_eq_getElem_cons hlt, List.map_cons]
      have := ih (i + 1) (acc ++ [l[i].f0]) (by omega) (by simp; omega)
      rw [List.append_assoc, List.singleton_append] at this
      exact this
  unfold linhayref09_List.f askL
  refine ev_bind hS ?_
  by_cases h0 : R.2 = 0
  · rw [if_neg (by simpa using h0), node_of hG R.1, show stT (trOf L last) R = (R.1, (atR L R.1).f3, sizeT (trOf L last) R.1) by unfold stT; rw [if_pos h0, node_of hG R.1]]
    refine ev_pos h0 ?_
    by_cases h1 : (atR L R.1).f3 = 1
    · rw [if_pos h1]
      simp only [h1, h0]
      rw [show ((1 : Int) != 1) = false from rfl]
      refine Ev.step (fun k => by rw [linhayref09_List.j0]) (ev_neg (by simp) ?_)
      refine Ev.step (fun k => by rw [linhayref09_List.j1]) (ev_pos rfl (ev_bind (list7_ev hG R.1) ?_))
      have := loop (entsOf L R.1) (by omega) (entsOf L R.1).length 0 [] (by omega) (by simp; omega)
      simpa using this
    · rw [if_neg h1]
      simp only [h0]
      rw [show ((atR L R.1).f3 != 1) = true from bne_iff_ne.2 h1]
      refine Ev.step (fun k => by rw [linhayref09_List.j0]) (ev_pos rfl ?_)
      refine Ev.step (fun k => by rw [linhayref09_List.j1]) (ev_neg (by decide) (Ev.now _))
  · rw [if_pos h0]
    refine ev_neg h0 ?_
    refine Ev.step (fun k => by rw [linhayref09_List.j0]) (ev_neg (by simp) ?_)
    refine Ev.step (fun k => by rw [linhayref09_List.j1]) (ev_neg h0 (Ev.now _))
end
theorem same2_ev (l : List ByteArray) (hl : l.length < 4294967296) : Ev (fun k => linhayref02_Same.f k l l) true := by
  have key : ∀ (d i : Nat), i + d = l.length → Ev (fun k => linhayref02_Same.l0 k l l (i : Int)) true := by
    intro d
    induction d with
    | zero =>
      intro i hi
      refine Ev.step (fun k => by rw [linhayref02_Same.l0]) ?_
      exact ev_neg (by omega) (Ev.now _)
    | succ d ih =>
      intro i hi
      refine Ev.step (fun k => by rw [linhayref02_Same.l0]) (ev_pos (by omega) (ev_pos (by omega) (ev_pos (by omega) (ev_pos rfl ?_))))
      rw [w1 (by omega)]
      exact ih (i + 1) (by omega)
  unfold linhayref02_Same.f
  exact ev_pos rfl (key l.length 0 (by omega))
end Go.Proofs.Ytjfigngmpagloaa.Tw

namespace Go.Proofs.Ytjfigngmpagloaa.Tw
open Go Go.RowKit Go.Shelf Go.Proofs Go.Proofs.Ytjfigngmpagloaa Go.Proofs.YtjfigngmpagloaaW.PrintWords Go.Proofs.Ytjfigngmpagloaa.Ext Go.Proofs.Ytjfigngmpagloaa.X Go.Proofs.Ytjfigngmpagloaa.Pu
set_option linter.unusedVariables false
set_option linter.unusedSimpArgs false
set_option maxHeartbeats 2000000 in
set_option maxRecDepth 1000000 in
theorem write_new (p B : Nat) (L : List RN) (last : Int) (path data s : ByteArray) (n d : Int) (k1 k2 : Nat) (w : World) (h : TreeB w p B (trOf L last)) (hG : GoodL L last) (hla : last < 1000000) (hw : wf n) (hd : wf d) (hs : s.size < 4294967281) (hF : findF (trOf L last) true k1 path = some (n, 5)) (hS : spotF (trOf L last) k2 path = some (d, s, 0)) (hN : inR L d s = 0) :
    Calls Try.prog 44 #[pT p, .string path, .string data] w fun e w' => e = .returned (.int .i64 (putRE L d s 2 data)) ∧ TreeB w' p B (trOf (putL L last d s 2 data) (putN L last d s 2 data)) ∧ Frm w w' p B := by
  have hO := trOK hG (by omega)
  have HS := Lib.hid (fun W h => pstat_calls p (trOf L last) path k1 (n, 5) W h hO hw hF)
  rw [show stT (trOf L last) (n, 5) = (0, 0, 0) from rfl] at HS
  have HP := Lib.hid (fun W h => spot_calls p (trOf L last) path k2 (d, s, 0) W h hO hS)
  have HL := Lib.hid (fun W h => list_calls p (trOf L last) d W h hd (hO.small.node d))
  have HE := Lib.hid (fun A c W h hc => find_calls A c ((trOf L last).node d).ents s W h hc (hO.small.node d) (node_rt hO d))
  rw [node_of hG d] at HE HL
  simp only [find_ents hG d s, hN] at HE
  rw [show decide ((0 : Int) < 0) = false from rfl] at HE
  simp only [] at HL
  generalize entsOf L d = es at HE HL
  have HU := Lib.hid (fun W h => tput_calls p B L last d s 2 data W h hG hd hs hla)
  have HT := Lib.hid h
  have HTA := Lib.hid (fun W (hb : Below w.heap.size w W) => (h.below hb).at_)
  have hu := Try.underlying32
  generalize putRE L d s 2 data = pe at HU ⊢
  generalize putA L last d s 2 data = pa at HU
  generalize trOf (putL L last d s 2 data) (putN L last d s 2 data) = T2 at HU ⊢
  generalize trOf L last = T1 at *
  clear h hO hG hla hw hd hs hF hS hN
  go_enter Try.func44, Try.ntmps44
  go_wp2_with (first
    | (go_at_call 15; refine (HS.out _ HT.out.at_).mono ?_; rintro e w2 ⟨rfl, hb2⟩; have HB2 := Lib.hid (hb2.alloc hb2.size (.cells #[.int .i64 0, .int .i64 0, .int .i64 0] 32)); clear hb2)
    | (go_at_call 26; refine (HP.out _ (HTA.out _ HB2.out)).mono ?_; rintro e w3 ⟨rfl, hb3⟩; have HB3 := Lib.hid (HB2.out.trans (hb3.mono HB2.out.size)); clear hb3)
    | (go_at_call 40; refine (HL.out _ (HTA.out _ HB3.out)).mono ?_; rintro e w4 ⟨v, rfl, hv, hb4⟩; obtain ⟨A4, c4, rfl, hl4, hC4⟩ := Kd.R_reads hv; have HB4 := Lib.hid (HB3.out.trans (hb4.mono HB3.out.size)); have HC4 := Lib.hid hC4; clear hv hb4 hC4)
    | (go_at_call 39; refine (HE.out _ _ _ HC4.out hl4).mono ?_; rintro e w5 ⟨rfl, hb5⟩; have HB5 := Lib.hid (HB4.out.trans (hb5.mono HB4.out.size)); clear hb5)
    | (go_at_call 46; refine (HU.out _ (HT.out.below HB5.out)).mono ?_; rintro e w6 ⟨rfl, hT6, hf6⟩))
  go_ret
  exact ⟨rfl, hT6, (Frm.ofBelow HB5.out).trans hf6⟩
abbrev nodesB : List MN := [⟨-1, ⟨#[97]⟩, 1, ⟨#[]⟩⟩, ⟨-1, ⟨#[108]⟩, 3, ⟨#[97]⟩⟩]
abbrev nodesC : List MN := [⟨-1, ⟨#[97]⟩, 1, ⟨#[]⟩⟩, ⟨-1, ⟨#[108]⟩, 3, ⟨#[97]⟩⟩, ⟨0, ⟨#[102]⟩, 2, ⟨#[120]⟩⟩]
abbrev rowsB : List RN := [⟨1, 1, ⟨#[]⟩, 1, ⟨#[]⟩⟩, ⟨2, 1, ⟨#[97]⟩, 1, ⟨#[]⟩⟩, ⟨3, 1, ⟨#[108]⟩, 3, ⟨#[97]⟩⟩]
abbrev rowsC : List RN := [⟨1, 1, ⟨#[]⟩, 1, ⟨#[]⟩⟩, ⟨2, 1, ⟨#[97]⟩, 1, ⟨#[]⟩⟩, ⟨3, 1, ⟨#[108]⟩, 3, ⟨#[97]⟩⟩, ⟨4, 2, ⟨#[102]⟩, 2, ⟨#[120]⟩⟩]
theorem madeB : madeF nodesB = ⟨rowsB, 3, [2, 3]⟩ := by
  simp [madeF, made0, madeStep, dirAt, putL, putN, putA, putRE, dirE, atR, inR, inQ, toL, mayE, Sp.check, ByteArray.size]
theorem madeC : madeF nodesC = ⟨rowsC, 4, [2, 3, 4]⟩ := by
  simp [madeF, made0, madeStep, dirAt, putL, putN, putA, putRE, dirE, atR, inR, inQ, toL, mayE, Sp.check, ByteArray.size]
theorem goodB : GoodL rowsB 3 ∧ GoodM rowsB := by
  have h := made_good nodesB
  rw [madeB] at h
  exact ⟨h.1, h.2.1⟩
theorem goodC : GoodL rowsC 4 ∧ GoodM rowsC := by
  have h := made_good nodesC
  rw [madeC] at h
  exact ⟨h.1, h.2.1⟩
theorem findB : ∃ k, findF (trOf rowsB 3) true k ⟨#[108, 47, 102]⟩ = some (0, 5) := by
  have hG := goodB.1
  refine ⟨10, ?_⟩
  simp [findF, beginE, toL, ByteArray.size, partsB, bs, Sp.parts, Sp.go, Sp.keep, walk_cons, walk_nil, node_of hG, downT_of hG, atR, inR, inQ, Sp.check, slashB, Lib.hasPrefix, Sp.mk]
theorem spotB : ∃ k, spotF (trOf rowsB 3) k ⟨#[108, 47, 102]⟩ = some (2, ⟨#[102]⟩, 0) := by
  have hG := goodB.1
  refine ⟨10, ?_⟩
  simp [spotF, beginE, toL, ByteArray.size, partsB, bs, Sp.parts, Sp.go, Sp.keep, walk_cons, walk_nil, node_of hG, downT_of hG, atR, inR, inQ, Sp.check, slashB, Lib.hasPrefix, Sp.mk]
theorem findC : ∃ k, findF (trOf rowsC 4) true k ⟨#[47, 97, 47, 102]⟩ = some (4, 0) := by
  have hG := goodC.1
  refine ⟨10, ?_⟩
  simp [findF, beginE, toL, ByteArray.size, partsB, bs, Sp.parts, Sp.go, Sp.keep, walk_cons, walk_nil, node_of hG, downT_of hG, atR, inR, inQ, Sp.check, slashB, Lib.hasPrefix, Sp.mk]
theorem putB : putRE rowsB 2 ⟨#[102]⟩ 2 ⟨#[120]⟩ = 0 ∧ putL rowsB 3 2 ⟨#[102]⟩ 2 ⟨#[120]⟩ = rowsC ∧ putN rowsB 3 2 ⟨#[102]⟩ 2 ⟨#[120]⟩ = 4 := by
  simp [putL, putN, putRE, dirE, atR, inR, inQ, toL, mayE, Sp.check, ByteArray.size]
theorem made_B (g : Nat) (W : World) (h : W.heap[g]? = some (.cells (nodesB.flatMap cellsN).toArray 89 (0, 0))) :
    Calls Try.prog 12 #[.slice (some ⟨g, 0, none⟩) 2 2] W fun e w' => ∃ p B v, e = .returned (.tuple #[pT p, v]) ∧ TreeB w' p B (trOf rowsB 3) ∧ RAt w' v rowsB 3 ∧ Below W.heap.size W w' ∧ W.heap.size ≤ p ∧ W.heap.size ≤ B := by
  have := made_calls (some ⟨g, 0, none⟩) 2 nodesB W (litN W g nodesB _ h (by decide)) (by decide) (by decide) (by intro x hx; simp only [nodesB, List.mem_cons, List.not_mem_nil, or_false] at hx; rcases hx with rfl | rfl <;> decide)
  rw [madeB] at this
  exact this
theorem write_B (p B : Nat) (W : World) (h : TreeB W p B (trOf rowsB 3)) :
    Calls Try.prog 44 #[pT p, .string ⟨#[108, 47, 102]⟩, .string ⟨#[120]⟩] W fun e w' => e = .returned (.int .i64 0) ∧ TreeB w' p B (trOf rowsC 4) ∧ Frm W w' p B := by
  obtain ⟨k1, h1⟩ := findB
  obtain ⟨k2, h2⟩ := spotB
  obtain ⟨e1, e2, e3⟩ := putB
  have := write_new p B rowsB 3 ⟨#[108, 47, 102]⟩ ⟨#[120]⟩ ⟨#[102]⟩ 0 2 k1 k2 W h goodB.1 (by decide) wf0 (wf_of (by decide)) (by decide) h1 h2 (by simp [inR, inQ, toL])
  rw [e1, e2, e3] at this
  exact this
theorem read_C (p : Nat) (W : World) (h : TreeAt W p (trOf rowsC 4)) :
    Calls Try.prog 18 #[pT p, .string ⟨#[47, 97, 47, 102]⟩] W fun e w' => e = .returned (.tuple #[.string ⟨#[120]⟩, .int .i64 0]) ∧ Below W.heap.size W w' := by
  obtain ⟨k, hk⟩ := findC
  have hG := goodC.1
  have := pread_calls p (trOf rowsC 4) ⟨#[47, 97, 47, 102]⟩ k (4, 0) W h (trOK hG (by decide)) (wf_of (by decide)) hk
  rw [show askD (trOf rowsC 4) (4, 0) 2 8 = (⟨#[120]⟩, 0) by simp [askD, node_of hG, atR]] at this
  exact this
set_option maxHeartbeats 1000000 in
set_option maxRecDepth 1000000 in
theorem lives09_calls (w : World) : Calls Try.prog 11 #[] w fun e w' => e = .returned (.bool true) ∧ Below w.heap.size w w' := by
  have HBX := Lib.hid (heap_alloc_new w (.cells (nodesB.flatMap cellsN).toArray 89))
  have HB0 := Lib.hid ((Below.refl w.heap.size w).alloc (Nat.le_refl _) (.cells (nodesB.flatMap cellsN).toArray 89))
  have hsz : (w.alloc (.cells (nodesB.flatMap cellsN).toArray 89)).heap.size = w.heap.size + 1 := Array.size_push _
  have HSZ := Lib.hid hsz
  have HM := Lib.hid (made_B w.heap.size)
  have HW := Lib.hid write_B
  have HR := Lib.hid read_C
  clear hsz
  go_enter Try.func11, Try.ntmps11
  go_wp2_with (first
    | (go_at_call 12; refine (HM.out _ HBX.out).mono ?_; rintro e w2 ⟨p, B, v, rfl, hT2, ⟨A2, c2, rfl, _, _⟩, hb2, hp2, hB2⟩; have HT2 := Lib.hid hT2; have HB2 := Lib.hid (HB0.out.trans (hb2.mono HB0.out.size)); have HPB := Lib.hid (show w.heap.size ≤ p ∧ w.heap.size ≤ B by have := HSZ.out; omega); clear hT2 hb2 hp2 hB2)
    | (go_at_call 44; refine (HW.out _ _ _ (HT2.out.below ((Below.refl _ w2).alloc (Nat.le_refl _) _))).mono ?_; rintro e w3 ⟨rfl, hT3, hf3⟩; have HT3 := Lib.hid hT3; have HB3 := Lib.hid ((HB2.out.alloc HB2.out.size _).trans (hf3.below (HB2.out.alloc HB2.out.size _).size HPB.out.1 HPB.out.2)); clear hT3 hf3)
    | (go_at_call 18; refine (HR.out _ _ HT3.out.at_).mono ?_; rintro e w4 ⟨rfl, hb4⟩))
  go_ret
  exact ⟨rfl, HB3.out.trans (hb4.mono HB3.out.size)⟩
end Go.Proofs.Ytjfigngmpagloaa.Tw

namespace Go.Proofs.Ytjfigngmpagloaa.Tw
open Go Go.RowKit Go.Shelf Go.Proofs Go.Proofs.Ytjfigngmpagloaa Go.Proofs.YtjfigngmpagloaaW.PrintWords Go.Proofs.Ytjfigngmpagloaa.Ext Go.Proofs.Ytjfigngmpagloaa.X Go.Proofs.Ytjfigngmpagloaa.Pu
set_option linter.unusedVariables false
set_option linter.unusedSimpArgs false
theorem len_bulk : ∀ l : List MN, l.length ≤ (l.map bulkN).sum := by
  intro l
  induction l with
  | nil => simp
  | cons x l ih =>
    rw [List.map_cons, List.sum_cons, List.length_cons]
    have : 1 ≤ bulkN x := by unfold bulkN; omega
    omega
theorem st_cell {W W' : World} {g : Nat} {a b c : Int} (h : W.heap[g]? = some (.cells #[.int .i64 a, .int .i64 b, .int .i64 c] 32 (0, 0))) (hb : Below W.heap.size W W') :
    W'.cell? ⟨g, 0, none⟩ = some (.int .i64 a) ∧ W'.cell? ⟨g, 1, none⟩ = some (.int .i64 b) ∧ W'.cell? ⟨g, 2, none⟩ = some (.int .i64 c) := by
  have h5 := (hb.block _ (blk_lt h)).trans h
  exact ⟨by rw [blk_cell h5]; rfl, by rw [blk_cell h5]; rfl, by rw [blk_cell h5]; rfl⟩
theorem st_nodes {T : Tr} {R : Int × Int} : (R.2 = 0 → (stT T R).1 = R.1) ∧ (R.2 ≠ 0 → (stT T R).1 = 0) := by
  unfold stT
  exact ⟨fun h => by rw [if_pos h], fun h => by rw [if_neg h]⟩
set_option maxHeartbeats 4000000 in
set_option maxRecDepth 1000000 in
theorem posixAsks_calls (A : Option Addr) (c : Nat) (l : List MN) (s q : ByteArray) (w : World) (hC : Kd.C k89 w A l.length l) (hc : l.length ≤ c) (hb : (l.map bulkN).sum + 1 ≤ 1048576) (ho : ∀ x ∈ l, (Lit.int .i64 x.f0).wf = true ∧ True ∧ (Lit.int .i64 x.f2).wf = true ∧ True) (hs : s.size ≤ 1048576) (hq : q.size ≤ 1048576) :
    Calls Try.prog 3 #[.slice A l.length c, .string s, .string q] w fun e w' => e = .returned (.bool true) ∧ Below w.heap.size w w' := by
  have hsz : ∀ x ∈ l, x.f1.size < 4294967281 := fun x hx => by
    have h1 := sum_in8 bulkN hx
    have h2 : x.f1.size ≤ bulkN x := by unfold bulkN; omega
    omega
  obtain ⟨b, hfew, hb60⟩ := few_ev l (by have := len_bulk l; omega)
  obtain ⟨kf, hkf⟩ := Ev.rounds hfew
  have HF := Lib.hid (fun W h => linhaylaw08_Few.calls kf A c l b W h hc hkf)
  have HC := Lib.hid hC
  have HLV := Lib.hid lives09_calls
  clear hC hfew hkf hb ho
  cases b with
  | false =>
    clear hb60
    go_enter Try.func3, Try.ntmps3
    go_wp2_with (first | (go_at_call 10; refine (HF.out _ HC.out).mono ?_; rintro e w2 ⟨rfl, hd2⟩) | (go_at_call 11; refine (HLV.out _).mono ?_; rintro e w7 ⟨rfl, hb7⟩))
    go_ret
    exact ⟨rfl, hd2.below.trans (hb7.mono hd2.below.size)⟩
  | true =>
    have h60 := hb60 rfl
    by_cases hz : (2000 : Int) < (s.size : Int)
    · clear hb60
      go_enter Try.func3, Try.ntmps3
      go_wp2_with (first | (go_at_call 10; refine (HF.out _ HC.out).mono ?_; rintro e w2 ⟨rfl, hd2⟩) | (go_at_call 11; refine (HLV.out _).mono ?_; rintro e w7 ⟨rfl, hb7⟩))
      go_ret
      exact ⟨rfl, hd2.below.trans (hb7.mono hd2.below.size)⟩
    by_cases hz2 : (2000 : Int) < (q.size : Int)
    · clear hb60
      go_enter Try.func3, Try.ntmps3
      go_wp2_with (first | (go_at_call 10; refine (HF.out _ HC.out).mono ?_; rintro e w2 ⟨rfl, hd2⟩) | (go_at_call 11; refine (HLV.out _).mono ?_; rintro e w7 ⟨rfl, hb7⟩))
      go_ret
      exact ⟨rfl, hd2.below.trans (hb7.mono hd2.below.size)⟩
    obtain ⟨hG, hM, hla, hln⟩ := made_good l
    have hO := trOK hG (by omega)
    obtain ⟨kL, RL, hRL, hEL⟩ := find_both hG hM false s
    obtain ⟨kS, RS, hRS, hES⟩ := find_both hG hM true s
    obtain ⟨kQ, RQ, hRQ, hEQ⟩ := find_both hG hM true q
    have hwL := find_wf hG hM (by omega) hRL
    have hwS := find_wf hG hM (by omega) hRS
    have hwQ := find_wf hG hM (by omega) hRQ
    have HRNG := Lib.hid (find_rng hG hM hRS).1
    have HNS := Lib.hid (st_nodes (T := trOf (madeF l).L (madeF l).last) (R := RS))
    have HNQ := Lib.hid (st_nodes (T := trOf (madeF l).L (madeF l).last) (R := RQ))
    obtain ⟨k1, hk1⟩ := Ev.rounds (stat9_ev hG hM hEL)
    obtain ⟨k2, hk2⟩ := Ev.rounds (stat9_ev hG hM hES)
    obtain ⟨k3, hk3⟩ := Ev.rounds (data9_ev hG hM hEL 3 13)
    obtain ⟨k4, hk4⟩ := Ev.rounds (data9_ev hG hM hES 2 8)
    obtain ⟨k5, hk5⟩ := Ev.rounds (list9_ev hG hM hES)
    have hal : (askL (trOf (madeF l).L (madeF l).last) RS).1.length < 4294967296 := by
      have h1 := ents_len (madeF l).L RS.1
      have h2 := hG.len
      unfold askL
      rw [node_of hG]
      split
      · simp
      · split
        · simp only [List.length_map]; omega
        · simp
    obtain ⟨k6, hk6⟩ := Ev.rounds (same2_ev _ hal)
    have HM := Lib.hid (fun W h => made_calls A c l W h hc h60 hsz)
    have HA1 := Lib.hid (fun p W h => lstat_calls p (trOf (madeF l).L (madeF l).last) s kL RL W h hO hwL hRL)
    have HR1 := Lib.hid (fun A c W h1 h2 => linhayref09_Stat.calls k1 A c (madeF l).L (madeF l).last s false _ _ _ _ W h1 h2 hk1)
    have HA2 := Lib.hid (fun p W h => pstat_calls p (trOf (madeF l).L (madeF l).last) s kS RS W h hO hwS hRS)
    have HR2 := Lib.hid (fun A c W h1 h2 => linhayref09_Stat.calls k2 A c (madeF l).L (madeF l).last s true _ _ _ _ W h1 h2 hk2)
    have HA3 := Lib.hid (fun p W h => readlink_calls p (trOf (madeF l).L (madeF l).last) s kL RL W h hO hwL hRL)
    have HR3 := Lib.hid (fun A c W h1 h2 => linhayref09_Data.calls k3 A c (madeF l).L (madeF l).last s false 3 13 _ _ W h1 h2 hk3)
    have HA4 := Lib.hid (fun p W h => pread_calls p (trOf (madeF l).L (madeF l).last) s kS RS W h hO hwS hRS)
    have HR4 := Lib.hid (fun A c W h1 h2 => linhayref09_Data.calls k4 A c (madeF l).L (madeF l).last s true 2 8 _ _ W h1 h2 hk4)
    have HA5 := Lib.hid (fun p W h => plist_calls p (trOf (madeF l).L (madeF l).last) s kS RS W h hO hwS hRS)
    have HR5 := Lib.hid (fun A c W h1 h2 => linhayref09_List.calls k5 A c (madeF l).L (madeF l).last s _ _ W h1 h2 hk5)
    have HR6 := Lib.hid (fun A1 c1 A2 c2 W h1 h2 h3 h4 => linhayref02_Same.calls k6 A1 c1 _ A2 c2 _ true W h1 h2 h3 h4 hk6)
    have HA7 := Lib.hid (fun p W h => pstat_calls p (trOf (madeF l).L (madeF l).last) q kQ RQ W h hO hwQ hRQ)
    have HA8 := Lib.hid (fun p W h => psame_calls p (trOf (madeF l).L (madeF l).last) s q kS kQ RS RQ W h hO hwS hwQ hRS hRQ)
    clear hk1 hk2 hk3 hk4 hk5 hk6 hal hRL hEL hRS hES hRQ hEQ hwL hwS hwQ hO
    generalize stT (trOf (madeF l).L (madeF l).last) RL = stL at *
    generalize stT (trOf (madeF l).L (madeF l).last) RS = stS at *
    generalize stT (trOf (madeF l).L (madeF l).last) RQ = stQ at *
    generalize askD (trOf (madeF l).L (madeF l).last) RL 3 13 = dL at *
    generalize askD (trOf (madeF l).L (madeF l).last) RS 2 8 = dS at *
    generalize askL (trOf (madeF l).L (madeF l).last) RS = nS at *
    generalize (madeF l).L = L at *
    generalize (madeF l).last = la at *
    obtain ⟨nL, eL⟩ := RL
    obtain ⟨mS, eS⟩ := RS
    obtain ⟨mQ, eQ⟩ := RQ
    obtain ⟨a0, a1, a2⟩ := stL
    obtain ⟨c0, c1, c2⟩ := stS
    obtain ⟨x0, x1, x2⟩ := stQ
    obtain ⟨dl, fl⟩ := dL
    obtain ⟨ds, fs⟩ := dS
    obtain ⟨ns, fn⟩ := nS
    simp only [] at HA1 HR1 HA2 HR2 HA3 HR3 HA4 HR4 HA5 HR5 HR6 HA7 HA8 HNS HNQ HRNG
    clear hb60 hG hM hla hln hsz
    go_enter Try.func3, Try.ntmps3
    go_upto_region 4 with (first | (go_at_call 10; refine (HF.out _ HC.out).mono ?_; rintro e w2 ⟨rfl, hd2⟩; have HB2 := Lib.hid hd2.below) | (go_at_call 12; refine (HM.out _ (Kd.C_below HC.out HB2.out)).mono ?_; rintro e w3 ⟨p, B, v, rfl, hT3, ⟨A3, c3, rfl, hc3, hC3⟩, hb3, _, _⟩; have HT3 := Lib.hid hT3.at_; have HC3 := Lib.hid hC3; clear hT3 hC3))
    have hba := (Below.refl _ w3).alloc (Nat.le_refl _) (.cells #[.slice A3 L.length c3, .int .i64 la] 28)
    have h4 := heap_alloc_new w3 (.cells #[.slice A3 L.length c3, .int .i64 la] 28)
    have HT4 := Lib.hid (HT3.out.below hba)
    have HC4 := Lib.hid (Kd.C_below HC3.out hba)
    have HB4 := Lib.hid (HB2.out.trans ((hb3.mono HB2.out.size).trans (hba.mono (Nat.le_trans HB2.out.size hb3.size))))
    generalize w3.alloc (.cells #[.slice A3 L.length c3, .int .i64 la] 28) = w4 at h4 HT4 HC4 HB4 ⊢
    generalize w3.heap.size = g at h4 ⊢
    have H4 := Lib.hid h4
    have HX := Lib.hid (fun (W : World) (h : Below w4.heap.size w4 W) => show W.cell? ⟨g, 0, none⟩ = some (.slice A3 L.length c3) ∧ W.cell? ⟨g, 1, none⟩ = some (.int .i64 la) by
      have h5 := (h.block _ (blk_lt H4.out)).trans H4.out
      exact ⟨by rw [blk_cell h5]; rfl, by rw [blk_cell h5]; rfl⟩)
    clear hba h4 HT3 HC3 hb3 hz hz2 HM HF HC
    go_upto_region 5 with (go_at_call 13; refine (HA1.out _ _ HT4.out).mono ?_; rintro e w5 ⟨rfl, hb5⟩)
    have HB6 := Lib.hid (hb5.alloc hb5.size (.cells #[.int .i64 a0, .int .i64 a1, .int .i64 a2] 32))
    have H9 := Lib.hid (heap_alloc_new w5 (.cells #[.int .i64 a0, .int .i64 a1, .int .i64 a2] 32))
    clear hb5
    generalize w5.alloc (.cells #[.int .i64 a0, .int .i64 a1, .int .i64 a2] 32) = w6 at HB6 H9 ⊢
    generalize w5.heap.size = g9 at H9 ⊢
    obtain ⟨y0, y1⟩ := HX.out _ HB6.out
    go_upto_region 6 with (go_at_call 14; refine (HR1.out _ _ _ (Kd.C_below HC4.out HB6.out) hc3).mono ?_; rintro e w7 ⟨rfl, hb7⟩)
    have hb8 := hb7.alloc hb7.size (.cells #[.int .i64 a0, .int .i64 a1, .int .i64 a2] 32)
    have HB8 := Lib.hid (HB6.out.trans (hb8.mono HB6.out.size))
    have H8a := Lib.hid ((hb8.block _ (blk_lt H9.out)).trans H9.out)
    have H8 := Lib.hid (heap_alloc_new w7 (.cells #[.int .i64 a0, .int .i64 a1, .int .i64 a2] 32))
    clear hb7 hb8 H9 y0 y1
    generalize w7.alloc (.cells #[.int .i64 a0, .int .i64 a1, .int .i64 a2] 32) = w8 at HB8 H8 H8a ⊢
    generalize w7.heap.size = g11 at H8 ⊢
    go_upto_region 7 with (go_at_call 15; refine (HA2.out _ _ (HT4.out.below HB8.out)).mono ?_; rintro e w9 ⟨rfl, hb9⟩)
    have hb10 := hb9.alloc hb9.size (.cells #[.int .i64 c0, .int .i64 c1, .int .i64 c2] 32)
    have HB10 := Lib.hid (HB8.out.trans (hb10.mono HB8.out.size))
    have H10a := Lib.hid ((hb10.block _ (blk_lt H8a.out)).trans H8a.out)
    have H10b := Lib.hid ((hb10.block _ (blk_lt H8.out)).trans H8.out)
    have H10 := Lib.hid (heap_alloc_new w9 (.cells #[.int .i64 c0, .int .i64 c1, .int .i64 c2] 32))
    clear hb9 hb10 H8 H8a
    generalize w9.alloc (.cells #[.int .i64 c0, .int .i64 c1, .int .i64 c2] 32) = w10 at HB10 H10 H10a H10b ⊢
    generalize w9.heap.size = g13 at H10 ⊢
    obtain ⟨y0, y1⟩ := HX.out _ HB10.out
    go_upto_region 8 with (go_at_call 14; refine (HR2.out _ _ _ (Kd.C_below HC4.out HB10.out) hc3).mono ?_; rintro e w11 ⟨rfl, hb11⟩)
    have hb12 := hb11.alloc hb11.size (.cells #[.int .i64 c0, .int .i64 c1, .int .i64 c2] 32)
    have HB12 := Lib.hid (HB10.out.trans (hb12.mono HB10.out.size))
    have h12a := (hb12.block _ (blk_lt H10a.out)).trans H10a.out
    have h12b := (hb12.block _ (blk_lt H10b.out)).trans H10b.out
    have h12c := (hb12.block _ (blk_lt H10.out)).trans H10.out
    have h12d := heap_alloc_new w11 (.cells #[.int .i64 c0, .int .i64 c1, .int .i64 c2] 32)
    clear hb11 hb12 H10 H10a H10b y0 y1
    generalize w11.alloc (.cells #[.int .i64 c0, .int .i64 c1, .int .i64 c2] 32) = w12 at HB12 h12a h12b h12c h12d ⊢
    generalize w11.heap.size = g15 at h12d ⊢
    obtain ⟨ya0, ya1, ya2⟩ := st_cell h12a (Below.refl _ _)
    obtain ⟨yb0, yb1, yb2⟩ := st_cell h12b (Below.refl _ _)
    obtain ⟨yc0, yc1, yc2⟩ := st_cell h12c (Below.refl _ _)
    obtain ⟨yd0, yd1, yd2⟩ := st_cell h12d (Below.refl _ _)
    have H12c := Lib.hid h12c
    have ea : (eL != eL) = false := by simp
    have eb : (eS != eS) = false := by simp
    clear h12a h12b h12c h12d
    go_upto_region 10 with (fail)
    clear ya0 ya1 ya2 yb0 yb1 yb2 yc0 yc1 yc2 yd0 yd1 yd2 ea eb HA1 HR1 HA2 HR2
    have ea : (dl.toList != dl.toList) = false := by simp
    have eb : (ds.toList != ds.toList) = false := by simp
    have ec : (fl != fl) = false := by simp
    have ed : (fs != fs) = false := by simp
    go_upto_region 16 with (first
      | (go_at_call 16; refine (HA3.out _ _ (HT4.out.below HB12.out)).mono ?_; rintro e w13 ⟨rfl, hb13⟩; have HB13 := Lib.hid (HB12.out.trans (hb13.mono HB12.out.size)); have H13c := Lib.hid ((hb13.block _ (blk_lt H12c.out)).trans H12c.out); obtain ⟨y0, y1⟩ := HX.out _ HB13.out; clear hb13)
      | (go_at_call 18; refine (HA4.out _ _ (HT4.out.below HB14.out)).mono ?_; rintro e w15 ⟨rfl, hb15⟩; have HB15 := Lib.hid (HB14.out.trans (hb15.mono HB14.out.size)); have H15c := Lib.hid ((hb15.block _ (blk_lt H14c.out)).trans H14c.out); obtain ⟨y0, y1⟩ := HX.out _ HB15.out; clear hb15)
      | (go_at_call 17; first
        | ((with_reducible refine (HR3.out _ _ _ (Kd.C_below HC4.out HB13.out) hc3).mono ?_); rintro e w14 ⟨rfl, hb14⟩; have HB14 := Lib.hid (HB13.out.trans (hb14.mono HB13.out.size)); have H14c := Lib.hid ((hb14.block _ (blk_lt H13c.out)).trans H13c.out); clear hb14 y0 y1)
        | ((with_reducible refine (HR4.out _ _ _ (Kd.C_below HC4.out HB15.out) hc3).mono ?_); rintro e w16 ⟨rfl, hb16⟩; have HB16 := Lib.hid (HB15.out.trans (hb16.mono HB15.out.size)); have H16c := Lib.hid ((hb16.block _ (blk_lt H15c.out)).trans H15c.out); clear hb16 y0 y1)))
    clear ea eb ec ed HA3 HR3 HA4 HR4 H12c H13c H14c H15c
    go_upto_region 18 with (first
      | (go_at_call 19; refine (HA5.out _ _ (HT4.out.below HB16.out)).mono ?_; rintro e w17 ⟨u17, rfl, hu17, hb17⟩; have HB17 := Lib.hid (HB16.out.trans (hb17.mono HB16.out.size)); have H17c := Lib.hid ((hb17.block _ (blk_lt H16c.out)).trans H16c.out); have HU17 := Lib.hid hu17; obtain ⟨y0, y1⟩ := HX.out _ HB17.out; clear hb17 hu17)
      | (go_at_call 20; refine (HR5.out _ _ _ (Kd.C_below HC4.out HB17.out) hc3).mono ?_; rintro e w18 ⟨u18, rfl, hu18, hb18⟩; have HB18 := Lib.hid (HB17.out.trans (hb18.mono HB17.out.size)); have H18c := Lib.hid ((hb18.block _ (blk_lt H17c.out)).trans H17c.out); have HU18 := Lib.hid (show StrV w18 u17 ns ∧ StrV w18 u18 ns from ⟨HU17.out.below hb18, Kd.R_reads hu18⟩); clear hb18 hu18 y0 y1))
    go_upto_region 19 with (go_at_call 15; refine (HA7.out _ _ (HT4.out.below HB18.out)).mono ?_; rintro e w19 ⟨rfl, hb19⟩)
    have hb20 := hb19.alloc hb19.size (.cells #[.int .i64 x0, .int .i64 x1, .int .i64 x2] 32)
    have HB20 := Lib.hid (HB18.out.trans (hb20.mono HB18.out.size))
    have h20c := (hb20.block _ (blk_lt H18c.out)).trans H18c.out
    have h20d := heap_alloc_new w19 (.cells #[.int .i64 x0, .int .i64 x1, .int .i64 x2] 32)
    have HU20 := Lib.hid (show StrV (w19.alloc (.cells #[.int .i64 x0, .int .i64 x1, .int .i64 x2] 32)) u17 ns ∧ StrV (w19.alloc (.cells #[.int .i64 x0, .int .i64 x1, .int .i64 x2] 32)) u18 ns from ⟨HU18.out.1.below hb20, HU18.out.2.below hb20⟩)
    clear hb19 hb20 H16c H17c H18c HU17 HU18
    generalize w19.alloc (.cells #[.int .i64 x0, .int .i64 x1, .int .i64 x2] 32) = w20 at HB20 h20c h20d HU20 ⊢
    generalize w19.heap.size = g23 at h20d ⊢
    have HY := Lib.hid (fun (W : World) (h : Below w20.heap.size w20 W) => show W.cell? ⟨g13, 0, none⟩ = some (.int .i64 c0) ∧ W.cell? ⟨g23, 0, none⟩ = some (.int .i64 x0) from ⟨(st_cell h20c h).1, (st_cell h20d h).1⟩)
    have HT20 := Lib.hid (HT4.out.below HB20.out)
    have HB20' := Lib.hid (HB4.out.trans (HB20.out.mono HB4.out.size))
    obtain ⟨⟨A17, c17, rfl, hc17, hC17⟩, ⟨A18, c18, rfl, hc18, hC18⟩⟩ := HU20.out
    have HC17 := Lib.hid hC17
    have HC18 := Lib.hid hC18
    obtain ⟨yc, yx⟩ := HY.out _ (Below.refl _ _)
    clear h20c h20d HU20 HB6 HB8 HB10 HB12 HB13 HB14 HB15 HB16 HB17 HB18 HB20 HT4 HC4 H4 HX HA5 HR5 HA7 hC17 hC18
    have efn : (fn == fn) = true := by simp
    by_cases hS : eS = 0
    · subst hS
      obtain rfl : c0 = mS := HNS.out.1 rfl
      have hpos : (0 : Int) < c0 := by have := HRNG.out rfl; omega
      by_cases hQ : eQ = 0
      · subst hQ
        obtain rfl : x0 = mQ := HNQ.out.1 rfl
        by_cases hE : c0 = x0
        · subst hE
          rw [show ((0 : Int) == 0) = true from rfl, show (c0 == c0) = true by simp, Bool.true_and, Bool.true_and] at HA8
          have hE2 : (c0 == c0) = true := by simp
          clear HNS HNQ HRNG
          go_region_held3 (fun w' => w'.cell? ⟨g13, 0, none⟩ = some (.int .i64 c0) ∧ w'.cell? ⟨g23, 0, none⟩ = some (.int .i64 c0)) (first | (go_keep; done) | exact HY.out _ HB23.out | exact HY.out _ HB22.out | exact HY.out _ HB21.out)
            (first
              | (go_at_call 21; refine (HR6.out _ _ _ _ _ (Kd.C_below HC17.out (by first | exact Below.refl _ _ | exact below_drew (Below.refl _ _))) hc17 (Kd.C_below HC18.out (by first | exact Below.refl _ _ | exact below_drew (Below.refl _ _))) hc18).mono ?_; rintro e w21 ⟨rfl, hd21⟩; have HB21 : Hid (Below w20.heap.size w20 w21) := Lib.hid (by first | exact hd21.below | exact (below_drew (Below.refl _ _)).trans hd21.below); clear hd21)
              | (go_at_call 22; refine (HA8.out _ _ (HT20.out.below (by first | exact HB21.out | exact below_drew HB21.out))).mono ?_; rintro e w22 ⟨rfl, hb22⟩; have HB22 : Hid (Below w20.heap.size w20 w22) := Lib.hid (by first | exact HB21.out.trans (hb22.mono HB21.out.size) | exact (below_drew HB21.out).trans (hb22.mono HB21.out.size)); clear hb22)
              | (go_at_call 11; refine (HLV.out _).mono ?_; rintro e w23 ⟨rfl, hb23⟩; have HB23 : Hid (Below w20.heap.size w20 w23) := Lib.hid (by first | exact HB22.out.trans (hb23.mono HB22.out.size) | exact (below_drew HB22.out).trans (hb23.mono HB22.out.size)); clear hb23))
          all_goals go_wp2
          all_goals go_ret
          all_goals exact ⟨rfl, HB20'.out.trans (HB23.out.mono HB20'.out.size)⟩
        · rw [show ((0 : Int) == 0) = true from rfl, show (c0 == x0) = false from beq_eq_false_iff_ne.2 hE, Bool.true_and, Bool.true_and] at HA8
          have hE2 : (x0 == c0) = false := beq_eq_false_iff_ne.2 (fun h => hE h.symm)
          clear HNS HNQ HRNG hE
          go_region_held3 (fun w' => w'.cell? ⟨g13, 0, none⟩ = some (.int .i64 c0) ∧ w'.cell? ⟨g23, 0, none⟩ = some (.int .i64 x0)) (first | (go_keep; done) | exact HY.out _ HB23.out | exact HY.out _ HB22.out | exact HY.out _ HB21.out)
            (first
              | (go_at_call 21; refine (HR6.out _ _ _ _ _ (Kd.C_below HC17.out (by first | exact Below.refl _ _ | exact below_drew (Below.refl _ _))) hc17 (Kd.C_below HC18.out (by first | exact Below.refl _ _ | exact below_drew (Below.refl _ _))) hc18).mono ?_; rintro e w21 ⟨rfl, hd21⟩; have HB21 : Hid (Below w20.heap.size w20 w21) := Lib.hid (by first | exact hd21.below | exact (below_drew (Below.refl _ _)).trans hd21.below); clear hd21)
              | (go_at_call 22; refine (HA8.out _ _ (HT20.out.below (by first | exact HB21.out | exact below_drew HB21.out))).mono ?_; rintro e w22 ⟨rfl, hb22⟩; have HB22 : Hid (Below w20.heap.size w20 w22) := Lib.hid (by first | exact HB21.out.trans (hb22.mono HB21.out.size) | exact (below_drew HB21.out).trans (hb22.mono HB21.out.size)); clear hb22)
              | (go_at_call 11; refine (HLV.out _).mono ?_; rintro e w23 ⟨rfl, hb23⟩; have HB23 : Hid (Below w20.heap.size w20 w23) := Lib.hid (by first | exact HB22.out.trans (hb23.mono HB22.out.size) | exact (below_drew HB22.out).trans (hb23.mono HB22.out.size)); clear hb23))
          all_goals go_wp2
          all_goals go_ret
          all_goals exact ⟨rfl, HB20'.out.trans (HB23.out.mono HB20'.out.size)⟩
      · have hQ2 : (eQ == 0) = false := beq_eq_false_iff_ne.2 hQ
        rw [hQ2, Bool.false_and, Bool.and_false] at HA8
        clear HNS HNQ HRNG hQ
        refine wp_region_held_drew (S := (fun w' => w'.cell? ⟨g13, 0, none⟩ = some (.int .i64 c0) ∧ w'.cell? ⟨g23, 0, none⟩ = some (.int .i64 x0))) (by kernel_rfl) (HY.out _ (below_drew (Below.refl _ _))) (fun hHeld => ?_)
        refine wpAnyH_take (i := 0) (oi := ({ dst := some 145, op := Go.Op.move (Go.Operand.tmp 21), type := 42, pos := "law.go:77", after := #[], guard := none } : Oper)) (v := ?_) rfl (by kernel_rfl) (by kernel_rfl) (by kernel_rfl) (fun _ _ _ h => h) (Or.inl ⟨by rfl, ?_⟩) (by assumption) ?_
        rotate_left
        · (intro w hSw; (try dsimp only at hSw); go_simp) <;> (with_reducible rfl)
        try simp only [Act.put, List.setIfInBounds_toArray, List.set_cons_zero, List.set_cons_succ]
        refine wpAnyH_take (i := 1) (oi := ({ dst := some 146, op := Go.Op.move (Go.Operand.tmp 22), type := 42, pos := "law.go:77", after := #[], guard := none } : Oper)) (v := ?_) rfl (by kernel_rfl) (by kernel_rfl) (by kernel_rfl) (fun _ _ _ h => h) (Or.inl ⟨by rfl, ?_⟩) (by assumption) ?_
        rotate_left
        · (intro w hSw; (try dsimp only at hSw); go_simp) <;> (with_reducible rfl)
        try simp only [Act.put, List.setIfInBounds_toArray, List.set_cons_zero, List.set_cons_succ]
        refine wpAnyH_ready (rs := [2]) (by kernel_rfl) (by simp) ?_
        refine AllReadyH.cons (o := ({ dst := some 147, op := Go.Op.call { callee := Go.Callee.value (Go.Operand.func 21), args := #[Go.Operand.tmp 145, Go.Operand.tmp 146], argTypes := #[42, 42] }, type := 4, pos := "law.go:77", after := #[{ on := 0, ground := Go.Ground.data }, { on := 1, ground := Go.Ground.data }], guard := none } : Oper)) rfl (fun K hK => ?_) AllReadyH.nil
        go_simp; go_at_call 21; refine (HR6.out _ _ _ _ _ (Kd.C_below HC17.out (below_drew (Below.refl _ _))) hc17 (Kd.C_below HC18.out (below_drew (Below.refl _ _))) hc18).mono ?_; rintro e w21 ⟨rfl, hd21⟩; have HB21 : Hid (Below w20.heap.size w20 w21) := Lib.hid ((below_drew (Below.refl _ _)).trans hd21.below); clear hd21
        refine hK.out _ _ (HY.out _ HB21.out) (fun hHeld => ?_)
        clear hK K
        try simp only [Act.put, List.setIfInBounds_toArray, List.set_cons_zero, List.set_cons_succ]
        refine wpAnyH_take (i := 3) (oi := ({ dst := some 148, op := Go.Op.move (Go.Operand.tmp 147), type := 4, pos := "law.go:77", after := #[{ on := 2, ground := Go.Ground.data }, { on := 2, ground := Go.Ground.chain }], guard := none } : Oper)) (v := ?_) rfl (by kernel_rfl) (by kernel_rfl) (by kernel_rfl) (fun _ _ _ h => h) (Or.inl ⟨by rfl, ?_⟩) (by assumption) ?_
        rotate_left
        · (intro w hSw; (try dsimp only at hSw); go_simp) <;> (with_reducible rfl)
        try simp only [Act.put, List.setIfInBounds_toArray, List.set_cons_zero, List.set_cons_succ]
        refine wpAnyH_take (i := 4) (oi := ({ dst := some 149, op := Go.Op.move (Go.Operand.tmp 10), type := 33, pos := "law.go:77", after := #[{ on := 3, ground := Go.Ground.guard }], guard := some (3, true) } : Oper)) (v := ?_) rfl (by kernel_rfl) (by kernel_rfl) (by kernel_rfl) (fun _ _ _ h => h) (Or.inl ⟨by rfl, ?_⟩) (by assumption) ?_
        rotate_left
        · (intro w hSw; (try dsimp only at hSw); go_simp) <;> (with_reducible rfl)
        try simp only [Act.put, List.setIfInBounds_toArray, List.set_cons_zero, List.set_cons_succ]
        refine wpAnyH_take (i := 5) (oi := ({ dst := some 150, op := Go.Op.move (Go.Operand.tmp 12), type := 3, pos := "law.go:77", after := #[{ on := 3, ground := Go.Ground.guard }], guard := some (3, true) } : Oper)) (v := ?_) rfl (by kernel_rfl) (by kernel_rfl) (by kernel_rfl) (fun _ _ _ h => h) (Or.inl ⟨by rfl, ?_⟩) (by assumption) ?_
        rotate_left
        · (intro w hSw; (try dsimp only at hSw); go_simp) <;> (with_reducible rfl)
        try simp only [Act.put, List.setIfInBounds_toArray, List.set_cons_zero, List.set_cons_succ]
        refine wpAnyH_take (i := 6) (oi := ({ dst := some 151, op := Go.Op.binOp Go.BinOp.eql 33 (Go.Operand.tmp 149) (Go.Operand.tmp 150) 33, type := 4, pos := "law.go:77", after := #[{ on := 4, ground := Go.Ground.data }, { on := 5, ground := Go.Ground.data }, { on := 3, ground := Go.Ground.guard }], guard := some (3, true) } : Oper)) (v := ?_) rfl (by kernel_rfl) (by kernel_rfl) (by kernel_rfl) (fun _ _ _ h => h) (Or.inl ⟨by rfl, ?_⟩) (by assumption) ?_
        rotate_left
        · (intro w hSw; (try dsimp only at hSw); go_simp) <;> (with_reducible rfl)
        try simp only [Act.put, List.setIfInBounds_toArray, List.set_cons_zero, List.set_cons_succ]
        refine wpAnyH_take (i := 7) (oi := ({ dst := some 152, op := Go.Op.pick (Go.Operand.tmp 148) (Go.Operand.tmp 151) (Go.Operand.const (Go.Value.bool false)), type := 4, pos := "law.go:77", after := #[{ on := 3, ground := Go.Ground.data }, { on := 6, ground := Go.Ground.data }], guard := none } : Oper)) (v := ?_) rfl (by kernel_rfl) (by kernel_rfl) (by kernel_rfl) (fun _ _ _ h => h) (Or.inl ⟨by rfl, ?_⟩) (by assumption) ?_
        rotate_left
        · (intro w hSw; (try dsimp only at hSw); go_simp) <;> (with_reducible rfl)
        try simp only [Act.put, List.setIfInBounds_toArray, List.set_cons_zero, List.set_cons_succ]
        refine wpAnyH_take (i := 8) (oi := ({ dst := some 153, op := Go.Op.move (Go.Operand.tmp 152), type := 4, pos := "law.go:77", after := #[{ on := 7, ground := Go.Ground.data }, { on := 3, ground := Go.Ground.chain }], guard := none } : Oper)) (v := ?_) rfl (by kernel_rfl) (by kernel_rfl) (by kernel_rfl) (fun _ _ _ h => h) (Or.inl ⟨by rfl, ?_⟩) (by assumption) ?_
        rotate_left
        · (intro w hSw; (try dsimp only at hSw); go_simp) <;> (with_reducible rfl)
        try simp only [Act.put, List.setIfInBounds_toArray, List.set_cons_zero, List.set_cons_succ]
        refine wpAnyH_take (i := 9) (oi := ({ dst := some 154, op := Go.Op.move (Go.Operand.tmp 7), type := 25, pos := "law.go:77", after := #[{ on := 8, ground := Go.Ground.guard }], guard := some (8, true) } : Oper)) (v := ?_) rfl (by kernel_rfl) (by kernel_rfl) (by kernel_rfl) (fun _ _ _ h => h) (Or.inl ⟨by rfl, ?_⟩) (by assumption) ?_
        rotate_left
        · (intro w hSw; (try dsimp only at hSw); go_simp) <;> (with_reducible rfl)
        try simp only [Act.put, List.setIfInBounds_toArray, List.set_cons_zero, List.set_cons_succ]
        refine wpAnyH_take (i := 10) (oi := ({ dst := some 155, op := Go.Op.move (Go.Operand.tmp 1), type := 9, pos := "law.go:77", after := #[{ on := 8, ground := Go.Ground.guard }], guard := some (8, true) } : Oper)) (v := ?_) rfl (by kernel_rfl) (by kernel_rfl) (by kernel_rfl) (fun _ _ _ h => h) (Or.inl ⟨by rfl, ?_⟩) (by assumption) ?_
        rotate_left
        · (intro w hSw; (try dsimp only at hSw); go_simp) <;> (with_reducible rfl)
        try simp only [Act.put, List.setIfInBounds_toArray, List.set_cons_zero, List.set_cons_succ]
        refine wpAnyH_take (i := 11) (oi := ({ dst := some 156, op := Go.Op.move (Go.Operand.tmp 2), type := 9, pos := "law.go:77", after := #[{ on := 8, ground := Go.Ground.guard }], guard := some (8, true) } : Oper)) (v := ?_) rfl (by kernel_rfl) (by kernel_rfl) (by kernel_rfl) (fun _ _ _ h => h) (Or.inl ⟨by rfl, ?_⟩) (by assumption) ?_
        rotate_left
        · (intro w hSw; (try dsimp only at hSw); go_simp) <;> (with_reducible rfl)
        try simp only [Act.put, List.setIfInBounds_toArray, List.set_cons_zero, List.set_cons_succ]
        refine wpAnyH_take (i := 13) (oi := ({ dst := some 158, op := Go.Op.fieldAddr 32 (Go.Operand.tmp 13) 0, type := 0, pos := "law.go:77", after := #[{ on := 8, ground := Go.Ground.guard }], guard := some (8, true) } : Oper)) (v := ?_) rfl (by kernel_rfl) (by kernel_rfl) (by kernel_rfl) (fun _ _ _ h => h) (Or.inl ⟨by rfl, ?_⟩) (by assumption) ?_
        rotate_left
        · (intro w hSw; (try dsimp only at hSw); go_simp) <;> (with_reducible rfl)
        try simp only [Act.put, List.setIfInBounds_toArray, List.set_cons_zero, List.set_cons_succ]
        refine wpAnyH_take (i := 14) (oi := ({ dst := some 159, op := Go.Op.load 3 (Go.Operand.tmp 158), type := 3, pos := "law.go:77", after := #[{ on := 13, ground := Go.Ground.data }, { on := 8, ground := Go.Ground.guard }], guard := some (8, true) } : Oper)) (v := ?_) rfl (by kernel_rfl) (by kernel_rfl) (by kernel_rfl) (fun _ _ _ h => h) (Or.inl ⟨by rfl, ?_⟩) (by assumption) ?_
        rotate_left
        · (intro w hSw; (try dsimp only at hSw); go_simp) <;> (with_reducible rfl)
        try simp only [Act.put, List.setIfInBounds_toArray, List.set_cons_zero, List.set_cons_succ]
        refine wpAnyH_take (i := 15) (oi := ({ dst := some 160, op := Go.Op.binOp Go.BinOp.gtr 3 (Go.Operand.tmp 159) (Go.Operand.const (Go.Value.int Go.IntKind.i64 0)) 3, type := 4, pos := "law.go:77", after := #[{ on := 14, ground := Go.Ground.data }, { on := 8, ground := Go.Ground.guard }], guard := some (8, true) } : Oper)) (v := ?_) rfl (by kernel_rfl) (by kernel_rfl) (by kernel_rfl) (fun _ _ _ h => h) (Or.inl ⟨by rfl, ?_⟩) (by assumption) ?_
        rotate_left
        · (intro w hSw; (try dsimp only at hSw); go_simp) <;> (with_reducible rfl)
        try simp only [Act.put, List.setIfInBounds_toArray, List.set_cons_zero, List.set_cons_succ]
        refine wpAnyH_ready (rs := [12]) (by kernel_rfl) (by simp) ?_
        refine AllReadyH.cons (o := ({ dst := some 157, op := Go.Op.call { callee := Go.Callee.value (Go.Operand.func 22), args := #[Go.Operand.tmp 154, Go.Operand.tmp 155, Go.Operand.tmp 156], argTypes := #[25, 9, 9] }, type := 4, pos := "law.go:77", after := #[{ on := 9, ground := Go.Ground.data }, { on := 10, ground := Go.Ground.data }, { on := 11, ground := Go.Ground.data }, { on := 8, ground := Go.Ground.chain }, { on := 8, ground := Go.Ground.guard }], guard := some (8, true) } : Oper)) rfl (fun K hK => ?_) AllReadyH.nil
        go_simp; go_at_call 22; refine (HA8.out _ _ (HT20.out.below HB21.out)).mono ?_; rintro e w22 ⟨rfl, hb22⟩; have HB22 : Hid (Below w20.heap.size w20 w22) := Lib.hid (HB21.out.trans (hb22.mono HB21.out.size)); clear hb22
        refine hK.out _ _ (HY.out _ HB22.out) (fun hHeld => ?_)
        clear hK K
        try simp only [Act.put, List.setIfInBounds_toArray, List.set_cons_zero, List.set_cons_succ]
        refine wpAnyH_take (i := 16) (oi := ({ dst := some 161, op := Go.Op.move (Go.Operand.tmp 160), type := 4, pos := "law.go:77", after := #[{ on := 15, ground := Go.Ground.data }, { on := 12, ground := Go.Ground.chain }, { on := 8, ground := Go.Ground.guard }], guard := some (8, true) } : Oper)) (v := ?_) rfl (by kernel_rfl) (by kernel_rfl) (by kernel_rfl) (fun _ _ _ h => h) (Or.inl ⟨by rfl, ?_⟩) (by assumption) ?_
        rotate_left
        · (intro w hSw; (try dsimp only at hSw); go_simp) <;> (with_reducible rfl)
        try simp only [Act.put, List.setIfInBounds_toArray, List.set_cons_zero, List.set_cons_succ]
        refine wpAnyH_take (i := 17) (oi := ({ dst := some 162, op := Go.Op.move (Go.Operand.tmp 14), type := 33, pos := "law.go:77", after := #[{ on := 16, ground := Go.Ground.guard }], guard := some (16, true) } : Oper)) (v := ?_) rfl (by kernel_rfl) (by kernel_rfl) (by kernel_rfl) (fun _ _ _ h => h) (Or.inl ⟨by rfl, ?_⟩) (by assumption) ?_
        rotate_left
        · (intro w hSw; (try dsimp only at hSw); go_simp) <;> (with_reducible rfl)
        try simp only [Act.put, List.setIfInBounds_toArray, List.set_cons_zero, List.set_cons_succ]
        refine wpAnyH_take (i := 18) (oi := ({ dst := some 163, op := Go.Op.binOp Go.BinOp.eql 33 (Go.Operand.tmp 162) (Go.Operand.const (Go.Value.int Go.IntKind.i64 0)) 33, type := 4, pos := "law.go:77", after := #[{ on := 17, ground := Go.Ground.data }, { on := 16, ground := Go.Ground.guard }], guard := some (16, true) } : Oper)) (v := ?_) rfl (by kernel_rfl) (by kernel_rfl) (by kernel_rfl) (fun _ _ _ h => h) (Or.inl ⟨by rfl, ?_⟩) (by assumption) ?_
        rotate_left
        · (intro w hSw; (try dsimp only at hSw); go_simp) <;> (with_reducible rfl)
        try simp only [Act.put, List.setIfInBounds_toArray, List.set_cons_zero, List.set_cons_succ]
        refine wpAnyH_take (i := 19) (oi := ({ dst := some 164, op := Go.Op.pick (Go.Operand.tmp 161) (Go.Operand.tmp 163) (Go.Operand.const (Go.Value.bool false)), type := 4, pos := "law.go:77", after := #[{ on := 16, ground := Go.Ground.data }, { on := 18, ground := Go.Ground.data }, { on := 8, ground := Go.Ground.guard }], guard := some (8, true) } : Oper)) (v := ?_) rfl (by kernel_rfl) (by kernel_rfl) (by kernel_rfl) (fun _ _ _ h => h) (Or.inl ⟨by rfl, ?_⟩) (by assumption) ?_
        rotate_left
        · (intro w hSw; (try dsimp only at hSw); go_simp) <;> (with_reducible rfl)
        try simp only [Act.put, List.setIfInBounds_toArray, List.set_cons_zero, List.set_cons_succ]
        refine wpAnyH_take (i := 20) (oi := ({ dst := some 165, op := Go.Op.move (Go.Operand.tmp 164), type := 4, pos := "law.go:77", after := #[{ on := 19, ground := Go.Ground.data }, { on := 16, ground := Go.Ground.chain }, { on := 8, ground := Go.Ground.guard }], guard := some (8, true) } : Oper)) (v := ?_) rfl (by kernel_rfl) (by kernel_rfl) (by kernel_rfl) (fun _ _ _ h => h) (Or.inl ⟨by rfl, ?_⟩) (by assumption) ?_
        rotate_left
        · (intro w hSw; (try dsimp only at hSw); go_simp) <;> (with_reducible rfl)
        try simp only [Act.put, List.setIfInBounds_toArray, List.set_cons_zero, List.set_cons_succ]
        refine wpAnyH_take (i := 21) (oi := ({ dst := some 166, op := Go.Op.fieldAddr 32 (Go.Operand.tmp 23) 0, type := 0, pos := "law.go:77", after := #[{ on := 20, ground := Go.Ground.guard }], guard := some (20, true) } : Oper)) (v := undef) rfl (by kernel_rfl) (by kernel_rfl) (by kernel_rfl) (fun _ _ _ h => h) (Or.inr ⟨by rfl, rfl⟩) (by assumption) ?_
        try simp only [Act.put, List.setIfInBounds_toArray, List.set_cons_zero, List.set_cons_succ]
        refine wpAnyH_take (i := 22) (oi := ({ dst := some 167, op := Go.Op.load 3 (Go.Operand.tmp 166), type := 3, pos := "law.go:77", after := #[{ on := 21, ground := Go.Ground.data }, { on := 20, ground := Go.Ground.guard }], guard := some (20, true) } : Oper)) (v := undef) rfl (by kernel_rfl) (by kernel_rfl) (by kernel_rfl) (fun _ _ _ h => h) (Or.inr ⟨by rfl, rfl⟩) (by assumption) ?_
        try simp only [Act.put, List.setIfInBounds_toArray, List.set_cons_zero, List.set_cons_succ]
        refine wpAnyH_take (i := 23) (oi := ({ dst := some 168, op := Go.Op.fieldAddr 32 (Go.Operand.tmp 13) 0, type := 0, pos := "law.go:77", after := #[{ on := 20, ground := Go.Ground.guard }], guard := some (20, true) } : Oper)) (v := undef) rfl (by kernel_rfl) (by kernel_rfl) (by kernel_rfl) (fun _ _ _ h => h) (Or.inr ⟨by rfl, rfl⟩) (by assumption) ?_
        try simp only [Act.put, List.setIfInBounds_toArray, List.set_cons_zero, List.set_cons_succ]
        refine wpAnyH_take (i := 24) (oi := ({ dst := some 169, op := Go.Op.load 3 (Go.Operand.tmp 168), type := 3, pos := "law.go:77", after := #[{ on := 23, ground := Go.Ground.data }, { on := 20, ground := Go.Ground.guard }], guard := some (20, true) } : Oper)) (v := undef) rfl (by kernel_rfl) (by kernel_rfl) (by kernel_rfl) (fun _ _ _ h => h) (Or.inr ⟨by rfl, rfl⟩) (by assumption) ?_
        try simp only [Act.put, List.setIfInBounds_toArray, List.set_cons_zero, List.set_cons_succ]
        refine wpAnyH_take (i := 25) (oi := ({ dst := some 170, op := Go.Op.binOp Go.BinOp.eql 3 (Go.Operand.tmp 167) (Go.Operand.tmp 169) 3, type := 4, pos := "law.go:77", after := #[{ on := 22, ground := Go.Ground.data }, { on := 24, ground := Go.Ground.data }, { on := 20, ground := Go.Ground.guard }], guard := some (20, true) } : Oper)) (v := undef) rfl (by kernel_rfl) (by kernel_rfl) (by kernel_rfl) (fun _ _ _ h => h) (Or.inr ⟨by rfl, rfl⟩) (by assumption) ?_
        try simp only [Act.put, List.setIfInBounds_toArray, List.set_cons_zero, List.set_cons_succ]
        refine wpAnyH_take (i := 26) (oi := ({ dst := some 171, op := Go.Op.pick (Go.Operand.tmp 165) (Go.Operand.tmp 170) (Go.Operand.const (Go.Value.bool false)), type := 4, pos := "law.go:77", after := #[{ on := 20, ground := Go.Ground.data }, { on := 25, ground := Go.Ground.data }, { on := 8, ground := Go.Ground.guard }], guard := some (8, true) } : Oper)) (v := ?_) rfl (by kernel_rfl) (by kernel_rfl) (by kernel_rfl) (fun _ _ _ h => h) (Or.inl ⟨by rfl, ?_⟩) (by assumption) ?_
        rotate_left
        · (intro w hSw; (try dsimp only at hSw); go_simp) <;> (with_reducible rfl)
        try simp only [Act.put, List.setIfInBounds_toArray, List.set_cons_zero, List.set_cons_succ]
        refine wpAnyH_take (i := 27) (oi := ({ dst := some 172, op := Go.Op.binOp Go.BinOp.eql 4 (Go.Operand.tmp 157) (Go.Operand.tmp 171) 4, type := 4, pos := "law.go:77", after := #[{ on := 12, ground := Go.Ground.data }, { on := 26, ground := Go.Ground.data }, { on := 8, ground := Go.Ground.guard }], guard := some (8, true) } : Oper)) (v := ?_) rfl (by kernel_rfl) (by kernel_rfl) (by kernel_rfl) (fun _ _ _ h => h) (Or.inl ⟨by rfl, ?_⟩) (by assumption) ?_
        rotate_left
        · (intro w hSw; (try dsimp only at hSw); go_simp) <;> (with_reducible rfl)
        try simp only [Act.put, List.setIfInBounds_toArray, List.set_cons_zero, List.set_cons_succ]
        refine wpAnyH_take (i := 28) (oi := ({ dst := some 173, op := Go.Op.pick (Go.Operand.tmp 153) (Go.Operand.tmp 172) (Go.Operand.const (Go.Value.bool false)), type := 4, pos := "law.go:77", after := #[{ on := 8, ground := Go.Ground.data }, { on := 27, ground := Go.Ground.data }], guard := none } : Oper)) (v := ?_) rfl (by kernel_rfl) (by kernel_rfl) (by kernel_rfl) (fun _ _ _ h => h) (Or.inl ⟨by rfl, ?_⟩) (by assumption) ?_
        rotate_left
        · (intro w hSw; (try dsimp only at hSw); go_simp) <;> (with_reducible rfl)
        try simp only [Act.put, List.setIfInBounds_toArray, List.set_cons_zero, List.set_cons_succ]
        refine wpAnyH_take (i := 29) (oi := ({ dst := some 174, op := Go.Op.move (Go.Operand.tmp 173), type := 4, pos := "law.go:77", after := #[{ on := 28, ground := Go.Ground.data }, { on := 20, ground := Go.Ground.chain }], guard := none } : Oper)) (v := ?_) rfl (by kernel_rfl) (by kernel_rfl) (by kernel_rfl) (fun _ _ _ h => h) (Or.inl ⟨by rfl, ?_⟩) (by assumption) ?_
        rotate_left
        · (intro w hSw; (try dsimp only at hSw); go_simp) <;> (with_reducible rfl)
        try simp only [Act.put, List.setIfInBounds_toArray, List.set_cons_zero, List.set_cons_succ]
        refine wpAnyH_ready (rs := [30]) (by kernel_rfl) (by simp) ?_
        refine AllReadyH.cons (o := ({ dst := some 175, op := Go.Op.call { callee := Go.Callee.value (Go.Operand.func 11), args := #[], argTypes := #[] }, type := 4, pos := "law.go:77", after := #[{ on := 29, ground := Go.Ground.chain }, { on := 29, ground := Go.Ground.guard }], guard := some (29, true) } : Oper)) rfl (fun K hK => ?_) AllReadyH.nil
        go_simp; go_at_call 11; refine (HLV.out _).mono ?_; rintro e w23 ⟨rfl, hb23⟩; have HB23 : Hid (Below w20.heap.size w20 w23) := Lib.hid (HB22.out.trans (hb23.mono HB22.out.size)); clear hb23
        refine hK.out _ _ (HY.out _ HB23.out) (fun hHeld => ?_)
        clear hK K
        try simp only [Act.put, List.setIfInBounds_toArray, List.set_cons_zero, List.set_cons_succ]
        refine wpAnyH_take (i := 31) (oi := ({ dst := some 176, op := Go.Op.pick (Go.Operand.tmp 174) (Go.Operand.tmp 175) (Go.Operand.const (Go.Value.bool false)), type := 4, pos := "law.go:77", after := #[{ on := 29, ground := Go.Ground.data }, { on := 30, ground := Go.Ground.data }], guard := none } : Oper)) (v := ?_) rfl (by kernel_rfl) (by kernel_rfl) (by kernel_rfl) (fun _ _ _ h => h) (Or.inl ⟨by rfl, ?_⟩) (by assumption) ?_
        rotate_left
        · (intro w hSw; (try dsimp only at hSw); go_simp) <;> (with_reducible rfl)
        try simp only [Act.put, List.setIfInBounds_toArray, List.set_cons_zero, List.set_cons_succ]
        refine wpAnyH_take (i := 32) (oi := ({ dst := some 6, op := Go.Op.assign (Go.Operand.tmp 176), type := 4, pos := "law.go:77", after := #[{ on := 31, ground := Go.Ground.data }, { on := 30, ground := Go.Ground.chain }, { on := 0, ground := Go.Ground.phase }, { on := 1, ground := Go.Ground.phase }, { on := 2, ground := Go.Ground.phase }, { on := 3, ground := Go.Ground.phase }, { on := 4, ground := Go.Ground.phase }, { on := 5, ground := Go.Ground.phase }, { on := 6, ground := Go.Ground.phase }, { on := 7, ground := Go.Ground.phase }, { on := 8, ground := Go.Ground.phase }, { on := 9, ground := Go.Ground.phase }, { on := 10, ground := Go.Ground.phase }, { on := 11, ground := Go.Ground.phase }, { on := 12, ground := Go.Ground.phase }, { on := 13, ground := Go.Ground.phase }, { on := 14, ground := Go.Ground.phase }, { on := 15, ground := Go.Ground.phase }, { on := 16, ground := Go.Ground.phase }, { on := 17, ground := Go.Ground.phase }, { on := 18, ground := Go.Ground.phase }, { on := 19, ground := Go.Ground.phase }, { on := 20, ground := Go.Ground.phase }, { on := 21, ground := Go.Ground.phase }, { on := 22, ground := Go.Ground.phase }, { on := 23, ground := Go.Ground.phase }, { on := 24, ground := Go.Ground.phase }, { on := 25, ground := Go.Ground.phase }, { on := 26, ground := Go.Ground.phase }, { on := 27, ground := Go.Ground.phase }, { on := 28, ground := Go.Ground.phase }, { on := 29, ground := Go.Ground.phase }, { on := 30, ground := Go.Ground.phase }, { on := 31, ground := Go.Ground.phase }], guard := none } : Oper)) (v := ?_) rfl (by kernel_rfl) (by kernel_rfl) (by kernel_rfl) (fun _ _ _ h => h) (Or.inl ⟨by rfl, ?_⟩) (by assumption) ?_
        rotate_left
        · (intro w hSw; (try dsimp only at hSw); go_simp) <;> (with_reducible rfl)
        try simp only [Act.put, List.setIfInBounds_toArray, List.set_cons_zero, List.set_cons_succ]
        refine wpAnyH_done (by kernel_rfl) ?_ _
        all_goals go_wp2
        all_goals go_ret
        all_goals exact ⟨rfl, HB20'.out.trans (HB23.out.mono HB20'.out.size)⟩
    · obtain rfl : c0 = 0 := HNS.out.2 hS
      rw [show (eS == 0) = false from beq_eq_false_iff_ne.2 hS, Bool.false_and] at HA8
      clear HNS HNQ HRNG hS
      refine wp_region_held_drew (S := (fun w' => w'.cell? ⟨g13, 0, none⟩ = some (.int .i64 0) ∧ w'.cell? ⟨g23, 0, none⟩ = some (.int .i64 x0))) (by kernel_rfl) (HY.out _ (below_drew (Below.refl _ _))) (fun hHeld => ?_)
      refine wpAnyH_take (i := 0) (oi := ({ dst := some 145, op := Go.Op.move (Go.Operand.tmp 21), type := 42, pos := "law.go:77", after := #[], guard := none } : Oper)) (v := ?_) rfl (by kernel_rfl) (by kernel_rfl) (by kernel_rfl) (fun _ _ _ h => h) (Or.inl ⟨by rfl, ?_⟩) (by assumption) ?_
      rotate_left
      · (intro w hSw; (try dsimp only at hSw); go_simp) <;> (with_reducible rfl)
      try simp only [Act.put, List.setIfInBounds_toArray, List.set_cons_zero, List.set_cons_succ]
      refine wpAnyH_take (i := 1) (oi := ({ dst := some 146, op := Go.Op.move (Go.Operand.tmp 22), type := 42, pos := "law.go:77", after := #[], guard := none } : Oper)) (v := ?_) rfl (by kernel_rfl) (by kernel_rfl) (by kernel_rfl) (fun _ _ _ h => h) (Or.inl ⟨by rfl, ?_⟩) (by assumption) ?_
      rotate_left
      · (intro w hSw; (try dsimp only at hSw); go_simp) <;> (with_reducible rfl)
      try simp only [Act.put, List.setIfInBounds_toArray, List.set_cons_zero, List.set_cons_succ]
      refine wpAnyH_ready (rs := [2]) (by kernel_rfl) (by simp) ?_
      refine AllReadyH.cons (o := ({ dst := some 147, op := Go.Op.call { callee := Go.Callee.value (Go.Operand.func 21), args := #[Go.Operand.tmp 145, Go.Operand.tmp 146], argTypes := #[42, 42] }, type := 4, pos := "law.go:77", after := #[{ on := 0, ground := Go.Ground.data }, { on := 1, ground := Go.Ground.data }], guard := none } : Oper)) rfl (fun K hK => ?_) AllReadyH.nil
      go_simp; go_at_call 21; refine (HR6.out _ _ _ _ _ (Kd.C_below HC17.out (below_drew (Below.refl _ _))) hc17 (Kd.C_below HC18.out (below_drew (Below.refl _ _))) hc18).mono ?_; rintro e w21 ⟨rfl, hd21⟩; have HB21 : Hid (Below w20.heap.size w20 w21) := Lib.hid ((below_drew (Below.refl _ _)).trans hd21.below); clear hd21
      refine hK.out _ _ (HY.out _ HB21.out) (fun hHeld => ?_)
      clear hK K
      try simp only [Act.put, List.setIfInBounds_toArray, List.set_cons_zero, List.set_cons_succ]
      refine wpAnyH_take (i := 3) (oi := ({ dst := some 148, op := Go.Op.move (Go.Operand.tmp 147), type := 4, pos := "law.go:77", after := #[{ on := 2, ground := Go.Ground.data }, { on := 2, ground := Go.Ground.chain }], guard := none } : Oper)) (v := ?_) rfl (by kernel_rfl) (by kernel_rfl) (by kernel_rfl) (fun _ _ _ h => h) (Or.inl ⟨by rfl, ?_⟩) (by assumption) ?_
      rotate_left
      · (intro w hSw; (try dsimp only at hSw); go_simp) <;> (with_reducible rfl)
      try simp only [Act.put, List.setIfInBounds_toArray, List.set_cons_zero, List.set_cons_succ]
      refine wpAnyH_take (i := 4) (oi := ({ dst := some 149, op := Go.Op.move (Go.Operand.tmp 10), type := 33, pos := "law.go:77", after := #[{ on := 3, ground := Go.Ground.guard }], guard := some (3, true) } : Oper)) (v := ?_) rfl (by kernel_rfl) (by kernel_rfl) (by kernel_rfl) (fun _ _ _ h => h) (Or.inl ⟨by rfl, ?_⟩) (by assumption) ?_
      rotate_left
      · (intro w hSw; (try dsimp only at hSw); go_simp) <;> (with_reducible rfl)
      try simp only [Act.put, List.setIfInBounds_toArray, List.set_cons_zero, List.set_cons_succ]
      refine wpAnyH_take (i := 5) (oi := ({ dst := some 150, op := Go.Op.move (Go.Operand.tmp 12), type := 3, pos := "law.go:77", after := #[{ on := 3, ground := Go.Ground.guard }], guard := some (3, true) } : Oper)) (v := ?_) rfl (by kernel_rfl) (by kernel_rfl) (by kernel_rfl) (fun _ _ _ h => h) (Or.inl ⟨by rfl, ?_⟩) (by assumption) ?_
      rotate_left
      · (intro w hSw; (try dsimp only at hSw); go_simp) <;> (with_reducible rfl)
      try simp only [Act.put, List.setIfInBounds_toArray, List.set_cons_zero, List.set_cons_succ]
      refine wpAnyH_take (i := 6) (oi := ({ dst := some 151, op := Go.Op.binOp Go.BinOp.eql 33 (Go.Operand.tmp 149) (Go.Operand.tmp 150) 33, type := 4, pos := "law.go:77", after := #[{ on := 4, ground := Go.Ground.data }, { on := 5, ground := Go.Ground.data }, { on := 3, ground := Go.Ground.guard }], guard := some (3, true) } : Oper)) (v := ?_) rfl (by kernel_rfl) (by kernel_rfl) (by kernel_rfl) (fun _ _ _ h => h) (Or.inl ⟨by rfl, ?_⟩) (by assumption) ?_
      rotate_left
      · (intro w hSw; (try dsimp only at hSw); go_simp) <;> (with_reducible rfl)
      try simp only [Act.put, List.setIfInBounds_toArray, List.set_cons_zero, List.set_cons_succ]
      refine wpAnyH_take (i := 7) (oi := ({ dst := some 152, op := Go.Op.pick (Go.Operand.tmp 148) (Go.Operand.tmp 151) (Go.Operand.const (Go.Value.bool false)), type := 4, pos := "law.go:77", after := #[{ on := 3, ground := Go.Ground.data }, { on := 6, ground := Go.Ground.data }], guard := none } : Oper)) (v := ?_) rfl (by kernel_rfl) (by kernel_rfl) (by kernel_rfl) (fun _ _ _ h => h) (Or.inl ⟨by rfl, ?_⟩) (by assumption) ?_
      rotate_left
      · (intro w hSw; (try dsimp only at hSw); go_simp) <;> (with_reducible rfl)
      try simp only [Act.put, List.setIfInBounds_toArray, List.set_cons_zero, List.set_cons_succ]
      refine wpAnyH_take (i := 8) (oi := ({ dst := some 153, op := Go.Op.move (Go.Operand.tmp 152), type := 4, pos := "law.go:77", after := #[{ on := 7, ground := Go.Ground.data }, { on := 3, ground := Go.Ground.chain }], guard := none } : Oper)) (v := ?_) rfl (by kernel_rfl) (by kernel_rfl) (by kernel_rfl) (fun _ _ _ h => h) (Or.inl ⟨by rfl, ?_⟩) (by assumption) ?_
      rotate_left
      · (intro w hSw; (try dsimp only at hSw); go_simp) <;> (with_reducible rfl)
      try simp only [Act.put, List.setIfInBounds_toArray, List.set_cons_zero, List.set_cons_succ]
      refine wpAnyH_take (i := 9) (oi := ({ dst := some 154, op := Go.Op.move (Go.Operand.tmp 7), type := 25, pos := "law.go:77", after := #[{ on := 8, ground := Go.Ground.guard }], guard := some (8, true) } : Oper)) (v := ?_) rfl (by kernel_rfl) (by kernel_rfl) (by kernel_rfl) (fun _ _ _ h => h) (Or.inl ⟨by rfl, ?_⟩) (by assumption) ?_
      rotate_left
      · (intro w hSw; (try dsimp only at hSw); go_simp) <;> (with_reducible rfl)
      try simp only [Act.put, List.setIfInBounds_toArray, List.set_cons_zero, List.set_cons_succ]
      refine wpAnyH_take (i := 10) (oi := ({ dst := some 155, op := Go.Op.move (Go.Operand.tmp 1), type := 9, pos := "law.go:77", after := #[{ on := 8, ground := Go.Ground.guard }], guard := some (8, true) } : Oper)) (v := ?_) rfl (by kernel_rfl) (by kernel_rfl) (by kernel_rfl) (fun _ _ _ h => h) (Or.inl ⟨by rfl, ?_⟩) (by assumption) ?_
      rotate_left
      · (intro w hSw; (try dsimp only at hSw); go_simp) <;> (with_reducible rfl)
      try simp only [Act.put, List.setIfInBounds_toArray, List.set_cons_zero, List.set_cons_succ]
      refine wpAnyH_take (i := 11) (oi := ({ dst := some 156, op := Go.Op.move (Go.Operand.tmp 2), type := 9, pos := "law.go:77", after := #[{ on := 8, ground := Go.Ground.guard }], guard := some (8, true) } : Oper)) (v := ?_) rfl (by kernel_rfl) (by kernel_rfl) (by kernel_rfl) (fun _ _ _ h => h) (Or.inl ⟨by rfl, ?_⟩) (by assumption) ?_
      rotate_left
      · (intro w hSw; (try dsimp only at hSw); go_simp) <;> (with_reducible rfl)
      try simp only [Act.put, List.setIfInBounds_toArray, List.set_cons_zero, List.set_cons_succ]
      refine wpAnyH_take (i := 13) (oi := ({ dst := some 158, op := Go.Op.fieldAddr 32 (Go.Operand.tmp 13) 0, type := 0, pos := "law.go:77", after := #[{ on := 8, ground := Go.Ground.guard }], guard := some (8, true) } : Oper)) (v := ?_) rfl (by kernel_rfl) (by kernel_rfl) (by kernel_rfl) (fun _ _ _ h => h) (Or.inl ⟨by rfl, ?_⟩) (by assumption) ?_
      rotate_left
      · (intro w hSw; (try dsimp only at hSw); go_simp) <;> (with_reducible rfl)
      try simp only [Act.put, List.setIfInBounds_toArray, List.set_cons_zero, List.set_cons_succ]
      refine wpAnyH_take (i := 14) (oi := ({ dst := some 159, op := Go.Op.load 3 (Go.Operand.tmp 158), type := 3, pos := "law.go:77", after := #[{ on := 13, ground := Go.Ground.data }, { on := 8, ground := Go.Ground.guard }], guard := some (8, true) } : Oper)) (v := ?_) rfl (by kernel_rfl) (by kernel_rfl) (by kernel_rfl) (fun _ _ _ h => h) (Or.inl ⟨by rfl, ?_⟩) (by assumption) ?_
      rotate_left
      · (intro w hSw; (try dsimp only at hSw); go_simp) <;> (with_reducible rfl)
      try simp only [Act.put, List.setIfInBounds_toArray, List.set_cons_zero, List.set_cons_succ]
      refine wpAnyH_take (i := 15) (oi := ({ dst := some 160, op := Go.Op.binOp Go.BinOp.gtr 3 (Go.Operand.tmp 159) (Go.Operand.const (Go.Value.int Go.IntKind.i64 0)) 3, type := 4, pos := "law.go:77", after := #[{ on := 14, ground := Go.Ground.data }, { on := 8, ground := Go.Ground.guard }], guard := some (8, true) } : Oper)) (v := ?_) rfl (by kernel_rfl) (by kernel_rfl) (by kernel_rfl) (fun _ _ _ h => h) (Or.inl ⟨by rfl, ?_⟩) (by assumption) ?_
      rotate_left
      · (intro w hSw; (try dsimp only at hSw); go_simp) <;> (with_reducible rfl)
      try simp only [Act.put, List.setIfInBounds_toArray, List.set_cons_zero, List.set_cons_succ]
      refine wpAnyH_ready (rs := [12]) (by kernel_rfl) (by simp) ?_
      refine AllReadyH.cons (o := ({ dst := some 157, op := Go.Op.call { callee := Go.Callee.value (Go.Operand.func 22), args := #[Go.Operand.tmp 154, Go.Operand.tmp 155, Go.Operand.tmp 156], argTypes := #[25, 9, 9] }, type := 4, pos := "law.go:77", after := #[{ on := 9, ground := Go.Ground.data }, { on := 10, ground := Go.Ground.data }, { on := 11, ground := Go.Ground.data }, { on := 8, ground := Go.Ground.chain }, { on := 8, ground := Go.Ground.guard }], guard := some (8, true) } : Oper)) rfl (fun K hK => ?_) AllReadyH.nil
      go_simp; go_at_call 22; refine (HA8.out _ _ (HT20.out.below HB21.out)).mono ?_; rintro e w22 ⟨rfl, hb22⟩; have HB22 : Hid (Below w20.heap.size w20 w22) := Lib.hid (HB21.out.trans (hb22.mono HB21.out.size)); clear hb22
      refine hK.out _ _ (HY.out _ HB22.out) (fun hHeld => ?_)
      clear hK K
      try simp only [Act.put, List.setIfInBounds_toArray, List.set_cons_zero, List.set_cons_succ]
      refine wpAnyH_take (i := 16) (oi := ({ dst := some 161, op := Go.Op.move (Go.Operand.tmp 160), type := 4, pos := "law.go:77", after := #[{ on := 15, ground := Go.Ground.data }, { on := 12, ground := Go.Ground.chain }, { on := 8, ground := Go.Ground.guard }], guard := some (8, true) } : Oper)) (v := ?_) rfl (by kernel_rfl) (by kernel_rfl) (by kernel_rfl) (fun _ _ _ h => h) (Or.inl ⟨by rfl, ?_⟩) (by assumption) ?_
      rotate_left
      · (intro w hSw; (try dsimp only at hSw); go_simp) <;> (with_reducible rfl)
      try simp only [Act.put, List.setIfInBounds_toArray, List.set_cons_zero, List.set_cons_succ]
      refine wpAnyH_take (i := 17) (oi := ({ dst := some 162, op := Go.Op.move (Go.Operand.tmp 14), type := 33, pos := "law.go:77", after := #[{ on := 16, ground := Go.Ground.guard }], guard := some (16, true) } : Oper)) (v := undef) rfl (by kernel_rfl) (by kernel_rfl) (by kernel_rfl) (fun _ _ _ h => h) (Or.inr ⟨by rfl, rfl⟩) (by assumption) ?_
      try simp only [Act.put, List.setIfInBounds_toArray, List.set_cons_zero, List.set_cons_succ]
      refine wpAnyH_take (i := 18) (oi := ({ dst := some 163, op := Go.Op.binOp Go.BinOp.eql 33 (Go.Operand.tmp 162) (Go.Operand.const (Go.Value.int Go.IntKind.i64 0)) 33, type := 4, pos := "law.go:77", after := #[{ on := 17, ground := Go.Ground.data }, { on := 16, ground := Go.Ground.guard }], guard := some (16, true) } : Oper)) (v := undef) rfl (by kernel_rfl) (by kernel_rfl) (by kernel_rfl) (fun _ _ _ h => h) (Or.inr ⟨by rfl, rfl⟩) (by assumption) ?_
      try simp only [Act.put, List.setIfInBounds_toArray, List.set_cons_zero, List.set_cons_succ]
      refine wpAnyH_take (i := 19) (oi := ({ dst := some 164, op := Go.Op.pick (Go.Operand.tmp 161) (Go.Operand.tmp 163) (Go.Operand.const (Go.Value.bool false)), type := 4, pos := "law.go:77", after := #[{ on := 16, ground := Go.Ground.data }, { on := 18, ground := Go.Ground.data }, { on := 8, ground := Go.Ground.guard }], guard := some (8, true) } : Oper)) (v := ?_) rfl (by kernel_rfl) (by kernel_rfl) (by kernel_rfl) (fun _ _ _ h => h) (Or.inl ⟨by rfl, ?_⟩) (by assumption) ?_
      rotate_left
      · (intro w hSw; (try dsimp only at hSw); go_simp) <;> (with_reducible rfl)
      try simp only [Act.put, List.setIfInBounds_toArray, List.set_cons_zero, List.set_cons_succ]
      refine wpAnyH_take (i := 20) (oi := ({ dst := some 165, op := Go.Op.move (Go.Operand.tmp 164), type := 4, pos := "law.go:77", after := #[{ on := 19, ground := Go.Ground.data }, { on := 16, ground := Go.Ground.chain }, { on := 8, ground := Go.Ground.guard }], guard := some (8, true) } : Oper)) (v := ?_) rfl (by kernel_rfl) (by kernel_rfl) (by kernel_rfl) (fun _ _ _ h => h) (Or.inl ⟨by rfl, ?_⟩) (by assumption) ?_
      rotate_left
      · (intro w hSw; (try dsimp only at hSw); go_simp) <;> (with_reducible rfl)
      try simp only [Act.put, List.setIfInBounds_toArray, List.set_cons_zero, List.set_cons_succ]
      refine wpAnyH_take (i := 21) (oi := ({ dst := some 166, op := Go.Op.fieldAddr 32 (Go.Operand.tmp 23) 0, type := 0, pos := "law.go:77", after := #[{ on := 20, ground := Go.Ground.guard }], guard := some (20, true) } : Oper)) (v := undef) rfl (by kernel_rfl) (by kernel_rfl) (by kernel_rfl) (fun _ _ _ h => h) (Or.inr ⟨by rfl, rfl⟩) (by assumption) ?_
      try simp only [Act.put, List.setIfInBounds_toArray, List.set_cons_zero, List.set_cons_succ]
      refine wpAnyH_take (i := 22) (oi := ({ dst := some 167, op := Go.Op.load 3 (Go.Operand.tmp 166), type := 3, pos := "law.go:77", after := #[{ on := 21, ground := Go.Ground.data }, { on := 20, ground := Go.Ground.guard }], guard := some (20, true) } : Oper)) (v := undef) rfl (by kernel_rfl) (by kernel_rfl) (by kernel_rfl) (fun _ _ _ h => h) (Or.inr ⟨by rfl, rfl⟩) (by assumption) ?_
      try simp only [Act.put, List.setIfInBounds_toArray, List.set_cons_zero, List.set_cons_succ]
      refine wpAnyH_take (i := 23) (oi := ({ dst := some 168, op := Go.Op.fieldAddr 32 (Go.Operand.tmp 13) 0, type := 0, pos := "law.go:77", after := #[{ on := 20, ground := Go.Ground.guard }], guard := some (20, true) } : Oper)) (v := undef) rfl (by kernel_rfl) (by kernel_rfl) (by kernel_rfl) (fun _ _ _ h => h) (Or.inr ⟨by rfl, rfl⟩) (by assumption) ?_
      try simp only [Act.put, List.setIfInBounds_toArray, List.set_cons_zero, List.set_cons_succ]
      refine wpAnyH_take (i := 24) (oi := ({ dst := some 169, op := Go.Op.load 3 (Go.Operand.tmp 168), type := 3, pos := "law.go:77", after := #[{ on := 23, ground := Go.Ground.data }, { on := 20, ground := Go.Ground.guard }], guard := some (20, true) } : Oper)) (v := undef) rfl (by kernel_rfl) (by kernel_rfl) (by kernel_rfl) (fun _ _ _ h => h) (Or.inr ⟨by rfl, rfl⟩) (by assumption) ?_
      try simp only [Act.put, List.setIfInBounds_toArray, List.set_cons_zero, List.set_cons_succ]
      refine wpAnyH_take (i := 25) (oi := ({ dst := some 170, op := Go.Op.binOp Go.BinOp.eql 3 (Go.Operand.tmp 167) (Go.Operand.tmp 169) 3, type := 4, pos := "law.go:77", after := #[{ on := 22, ground := Go.Ground.data }, { on := 24, ground := Go.Ground.data }, { on := 20, ground := Go.Ground.guard }], guard := some (20, true) } : Oper)) (v := undef) rfl (by kernel_rfl) (by kernel_rfl) (by kernel_rfl) (fun _ _ _ h => h) (Or.inr ⟨by rfl, rfl⟩) (by assumption) ?_
      try simp only [Act.put, List.setIfInBounds_toArray, List.set_cons_zero, List.set_cons_succ]
      refine wpAnyH_take (i := 26) (oi := ({ dst := some 171, op := Go.Op.pick (Go.Operand.tmp 165) (Go.Operand.tmp 170) (Go.Operand.const (Go.Value.bool false)), type := 4, pos := "law.go:77", after := #[{ on := 20, ground := Go.Ground.data }, { on := 25, ground := Go.Ground.data }, { on := 8, ground := Go.Ground.guard }], guard := some (8, true) } : Oper)) (v := ?_) rfl (by kernel_rfl) (by kernel_rfl) (by kernel_rfl) (fun _ _ _ h => h) (Or.inl ⟨by rfl, ?_⟩) (by assumption) ?_
      rotate_left
      · (intro w hSw; (try dsimp only at hSw); go_simp) <;> (with_reducible rfl)
      try simp only [Act.put, List.setIfInBounds_toArray, List.set_cons_zero, List.set_cons_succ]
      refine wpAnyH_take (i := 27) (oi := ({ dst := some 172, op := Go.Op.binOp Go.BinOp.eql 4 (Go.Operand.tmp 157) (Go.Operand.tmp 171) 4, type := 4, pos := "law.go:77", after := #[{ on := 12, ground := Go.Ground.data }, { on := 26, ground := Go.Ground.data }, { on := 8, ground := Go.Ground.guard }], guard := some (8, true) } : Oper)) (v := ?_) rfl (by kernel_rfl) (by kernel_rfl) (by kernel_rfl) (fun _ _ _ h => h) (Or.inl ⟨by rfl, ?_⟩) (by assumption) ?_
      rotate_left
      · (intro w hSw; (try dsimp only at hSw); go_simp) <;> (with_reducible rfl)
      try simp only [Act.put, List.setIfInBounds_toArray, List.set_cons_zero, List.set_cons_succ]
      refine wpAnyH_take (i := 28) (oi := ({ dst := some 173, op := Go.Op.pick (Go.Operand.tmp 153) (Go.Operand.tmp 172) (Go.Operand.const (Go.Value.bool false)), type := 4, pos := "law.go:77", after := #[{ on := 8, ground := Go.Ground.data }, { on := 27, ground := Go.Ground.data }], guard := none } : Oper)) (v := ?_) rfl (by kernel_rfl) (by kernel_rfl) (by kernel_rfl) (fun _ _ _ h => h) (Or.inl ⟨by rfl, ?_⟩) (by assumption) ?_
      rotate_left
      · (intro w hSw; (try dsimp only at hSw); go_simp) <;> (with_reducible rfl)
      try simp only [Act.put, List.setIfInBounds_toArray, List.set_cons_zero, List.set_cons_succ]
      refine wpAnyH_take (i := 29) (oi := ({ dst := some 174, op := Go.Op.move (Go.Operand.tmp 173), type := 4, pos := "law.go:77", after := #[{ on := 28, ground := Go.Ground.data }, { on := 20, ground := Go.Ground.chain }], guard := none } : Oper)) (v := ?_) rfl (by kernel_rfl) (by kernel_rfl) (by kernel_rfl) (fun _ _ _ h => h) (Or.inl ⟨by rfl, ?_⟩) (by assumption) ?_
      rotate_left
      · (intro w hSw; (try dsimp only at hSw); go_simp) <;> (with_reducible rfl)
      try simp only [Act.put, List.setIfInBounds_toArray, List.set_cons_zero, List.set_cons_succ]
      refine wpAnyH_ready (rs := [30]) (by kernel_rfl) (by simp) ?_
      refine AllReadyH.cons (o := ({ dst := some 175, op := Go.Op.call { callee := Go.Callee.value (Go.Operand.func 11), args := #[], argTypes := #[] }, type := 4, pos := "law.go:77", after := #[{ on := 29, ground := Go.Ground.chain }, { on := 29, ground := Go.Ground.guard }], guard := some (29, true) } : Oper)) rfl (fun K hK => ?_) AllReadyH.nil
      go_simp; go_at_call 11; refine (HLV.out _).mono ?_; rintro e w23 ⟨rfl, hb23⟩; have HB23 : Hid (Below w20.heap.size w20 w23) := Lib.hid (HB22.out.trans (hb23.mono HB22.out.size)); clear hb23
      refine hK.out _ _ (HY.out _ HB23.out) (fun hHeld => ?_)
      clear hK K
      try simp only [Act.put, List.setIfInBounds_toArray, List.set_cons_zero, List.set_cons_succ]
      refine wpAnyH_take (i := 31) (oi := ({ dst := some 176, op := Go.Op.pick (Go.Operand.tmp 174) (Go.Operand.tmp 175) (Go.Operand.const (Go.Value.bool false)), type := 4, pos := "law.go:77", after := #[{ on := 29, ground := Go.Ground.data }, { on := 30, ground := Go.Ground.data }], guard := none } : Oper)) (v := ?_) rfl (by kernel_rfl) (by kernel_rfl) (by kernel_rfl) (fun _ _ _ h => h) (Or.inl ⟨by rfl, ?_⟩) (by assumption) ?_
      rotate_left
      · (intro w hSw; (try dsimp only at hSw); go_simp) <;> (with_reducible rfl)
      try simp only [Act.put, List.setIfInBounds_toArray, List.set_cons_zero, List.set_cons_succ]
      refine wpAnyH_take (i := 32) (oi := ({ dst := some 6, op := Go.Op.assign (Go.Operand.tmp 176), type := 4, pos := "law.go:77", after := #[{ on := 31, ground := Go.Ground.data }, { on := 30, ground := Go.Ground.chain }, { on := 0, ground := Go.Ground.phase }, { on := 1, ground := Go.Ground.phase }, { on := 2, ground := Go.Ground.phase }, { on := 3, ground := Go.Ground.phase }, { on := 4, ground := Go.Ground.phase }, { on := 5, ground := Go.Ground.phase }, { on := 6, ground := Go.Ground.phase }, { on := 7, ground := Go.Ground.phase }, { on := 8, ground := Go.Ground.phase }, { on := 9, ground := Go.Ground.phase }, { on := 10, ground := Go.Ground.phase }, { on := 11, ground := Go.Ground.phase }, { on := 12, ground := Go.Ground.phase }, { on := 13, ground := Go.Ground.phase }, { on := 14, ground := Go.Ground.phase }, { on := 15, ground := Go.Ground.phase }, { on := 16, ground := Go.Ground.phase }, { on := 17, ground := Go.Ground.phase }, { on := 18, ground := Go.Ground.phase }, { on := 19, ground := Go.Ground.phase }, { on := 20, ground := Go.Ground.phase }, { on := 21, ground := Go.Ground.phase }, { on := 22, ground := Go.Ground.phase }, { on := 23, ground := Go.Ground.phase }, { on := 24, ground := Go.Ground.phase }, { on := 25, ground := Go.Ground.phase }, { on := 26, ground := Go.Ground.phase }, { on := 27, ground := Go.Ground.phase }, { on := 28, ground := Go.Ground.phase }, { on := 29, ground := Go.Ground.phase }, { on := 30, ground := Go.Ground.phase }, { on := 31, ground := Go.Ground.phase }], guard := none } : Oper)) (v := ?_) rfl (by kernel_rfl) (by kernel_rfl) (by kernel_rfl) (fun _ _ _ h => h) (Or.inl ⟨by rfl, ?_⟩) (by assumption) ?_
      rotate_left
      · (intro w hSw; (try dsimp only at hSw); go_simp) <;> (with_reducible rfl)
      try simp only [Act.put, List.setIfInBounds_toArray, List.set_cons_zero, List.set_cons_succ]
      refine wpAnyH_done (by kernel_rfl) ?_ _
      all_goals go_wp2
      all_goals go_ret
      all_goals exact ⟨rfl, HB20'.out.trans (HB23.out.mono HB20'.out.size)⟩
end Go.Proofs.Ytjfigngmpagloaa.Tw
