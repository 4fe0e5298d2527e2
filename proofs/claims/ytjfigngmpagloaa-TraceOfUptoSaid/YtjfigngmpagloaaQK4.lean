/- linhaylaw45.TraceOf, walked: it returns true. -/
import Derived.Test.YtjfigngmpagloaaQK1
import Derived.Test.YtjfigngmpagloaaQK2
import Derived.Test.YtjfigngmpagloaaQK3
import Derived.Deep.RegionHeld3
import Derived.Deep.RegionLaw
import Derived.Maps.AppendAt

namespace Go.Proofs.Ytjfigngmpagloaa.Ext
end Go.Proofs.Ytjfigngmpagloaa.Ext
namespace Go.Proofs.Ytjfigngmpagloaa.X
open Go.RowKit Go.Proofs.YtjfigngmpagloaaW.PrintWords Go.Proofs.YtjfigngmpagloaaW.PrintLast Go.Proofs.YtjfigngmpagloaaW.PrintMore Go.Proofs.Ytjfigngmpagloaa.Ext
attribute [local go_sem] max2_int min2_int max_two min_two max_three min_three max_four min_four   -- for this text's walks alone
set_option linter.unusedVariables false
set_option linter.unusedSimpArgs false

def linhayref08_Real.l0 : Nat → ByteArray → List (S97) → Int → Int → Int → ByteArray → Int → ByteArray → Option (ByteArray × Bool)
  | 0, _, _, _, _, _, _, _, _ => none
  | k + 1, x7, x261000, x261001, x267000, x267001, x267002, x267003, x267004 => if x267000 = 1 then (if x7.toList = ([] : List UInt8) then (some ((⟨#[47]⟩ : ByteArray), true)) else (some (x7, true))) else (if 1 + x267002.size ≤ 9223372036854775807 then (if ((⟨#[47]⟩ : ByteArray) ++ x267002).size + x7.size ≤ 9223372036854775807 then ((linhayref07_At.f k x261000 x261001 x267001).bind fun bt267 => (linhayref08_Real.l0 k (((⟨#[47]⟩ : ByteArray) ++ x267002) ++ x7) x261000 x261001 bt267.1 bt267.2.1 bt267.2.2.1 bt267.2.2.2.1 bt267.2.2.2.2)) else (none)) else (none))
def linhayref08_Real.f (k : Nat) (l0_0 : List (S97)) (a0_1 : Int) (a1 : Int) : Option (ByteArray × Bool) := (linhayref07_At.f k l0_0 a0_1 a1).bind fun bt261 => (if bt261.2.2.2.1 = 0 then (some ((⟨#[]⟩ : ByteArray), false)) else (linhayref08_Real.l0 k (⟨#[]⟩ : ByteArray) l0_0 a0_1 bt261.1 bt261.2.1 bt261.2.2.1 bt261.2.2.2.1 bt261.2.2.2.2))
set_option maxHeartbeats 8000000 in
set_option maxRecDepth 100000 in
theorem linhayref08_Real.calls (k : Nat) (A0_0 : Option Addr) (c0_0 : Nat) (l0_0 : List (S97)) (a0_1 : Int) (a1 : Int) (r1 : ByteArray) (r2 : Bool) (w : World) (hr0_0 : Kd.C k97 w A0_0 l0_0.length l0_0) (hc0_0 : l0_0.length ≤ c0_0) (h : linhayref08_Real.f k l0_0 a0_1 a1 = some (r1, r2)) :
  Calls Try.prog 29 #[.agg #[.slice A0_0 l0_0.length c0_0, .int .i64 a0_1], .int .i64 a1] w fun e w' => e = .returned (.tuple #[.string r1, .bool r2]) ∧ Below w.heap.size w w' := by
 have hu75 := Try.underlying75
 have hu76 := Try.underlying76
 have hu89 := Try.underlying89
 have hu108 := Try.underlying108
 have hu28 := Try.underlying28
 have hu97 := Try.underlying97
 have HR0_0 := Aside0.mk hr0_0
 have HC0_0 := Aside0.mk hc0_0
 clear hr0_0 hc0_0
 have HB := Aside0.mk (Below.refl w.heap.size w)
 have H : ((linhayref07_At.f k l0_0 a0_1 a1).bind fun bt261 => (if bt261.2.2.2.1 = 0 then (some ((⟨#[]⟩ : ByteArray), false)) else (linhayref08_Real.l0 k (⟨#[]⟩ : ByteArray) l0_0 a0_1 bt261.1 bt261.2.1 bt261.2.2.1 bt261.2.2.2.1 bt261.2.2.2.2))) = some (r1, r2) := h
 clear h
 replace H := Option.bind_eq_some_iff.mp H
 obtain ⟨⟨t261, t262, t263, t264, t265⟩, A30, H⟩ := H
 replace H : (if t264 = 0 then (some ((⟨#[]⟩ : ByteArray), false)) else (linhayref08_Real.l0 k (⟨#[]⟩ : ByteArray) l0_0 a0_1 t261 t262 t263 t264 t265)) = some (r1, r2) := H
 have A3 := Aside0.mk A30
 clear A30
 by_cases c4 : t264 = 0
 ·
  rw [if_pos c4] at H
  have c4b0 : (t264 == 0) = true := beq_iff_eq.mpr c4
  have c4b1 : (t264 != 0) = false := bne_eq_false_iff_eq.mpr c4
  clear c4
  simp only [Option.some.injEq, Prod.mk.injEq] at H
  obtain ⟨rfl, rfl⟩ := H
  go_enter Try.func29, Try.ntmps29
  go_wp2_with (first | ((with_reducible refine gate_dst (N := 2) rfl ?_); refine box_event ?hg (N := 2) ?hd (cs := #[.slice A0_0 l0_0.length c0_0, .int .i64 a0_1]) (t := 28) ?hr ?_; (case hd => rfl); (case hg => rfl); (case hr => first | (go_simp; done) | (go_simp; rfl)); intro gb260 hg w5 hbox hb; have n0_ := Aside0.mk (below_step (by repeat (first | (with_reducible first | exact HB.out | apply below_alloc | apply pw_below_drewN | apply below_drew1) | exact HB.out)) hb); have n1_ := Aside0.mk (hbox); have n2_ := Aside0.mk ((by rw [hg]; exact (below_size (by repeat (first | (with_reducible first | exact HB.out | apply below_alloc | apply pw_below_drewN | apply below_drew1) | exact HB.out))) : w.heap.size ≤ gb260)); have n3_ := Aside0.mk ((by rw [hg]; exact (below_size (by repeat (first | (with_reducible first | exact HB.out | apply below_alloc | apply pw_below_drewN | apply below_drew1) | exact HB.out))) : w.heap.size ≤ gb260)); clear HB; have HB := n0_; have BK260 := n1_; have GW260 := n2_; have GE260 := n3_; clear n0_ n1_ n2_ n3_; clear hb hbox hg; have hcz6_0 : w5.cell? ⟨gb260, 0, none⟩ = some (.slice A0_0 l0_0.length c0_0) := (blk_cell BK260.out 0).trans rfl; have hcz6_1 : w5.cell? ⟨gb260, 1, none⟩ = some (.int .i64 a0_1) := (blk_cell BK260.out 1).trans rfl; have hfz6_0 := blk_frozen BK260.out 0; have hfz6_1 := blk_frozen BK260.out 1) | ((with_reducible refine gate_callee (f := 49) rfl ?_); refine goesL_ (some 10) rfl rfl Try.func49 (by kernel_rfl) rfl #[.agg #[.slice A0_0 l0_0.length c0_0, .int .i64 a0_1], .int .i64 a1] rfl (by (try simp only [List.map_toArray, List.map_cons, List.map_nil]); first | done | rfl | (simp only [List.length_drop, List.length_take]; rfl)) ?_; (with_reducible refine (linhayref07_At.calls k _ _ l0_0 a0_1 a1 t261 t262 t263 t264 t265 _ ?side1 ?side2 A3.out).mono ?_); (case side1 => repeat (first | exact (Kd.C_below HR0_0.out HB.out) | (with_reducible refine Kd.C_alloc ?_ _) | (with_reducible refine Kd.C_drewN ?_ _) | (with_reducible refine Kd.C_drew ?_))); (case side2 => exact HC0_0.out); rintro e w7 ⟨rfl, hb⟩; refine ⟨_, rfl, ?_⟩; have n0_ := Aside0.mk (blk_below (g := gb260) (o := .cells #[.slice A0_0 l0_0.length c0_0, .int .i64 a0_1] 28 (0, 0)) (by (with_reducible repeat (first | refine blk_drewN ?_ _ | refine blk_drew ?_ | refine blk_alloc ?_ _)); exact BK260.out) hb); have n1_ := Aside0.mk (below_step (by repeat (first | (with_reducible first | exact HB.out | apply below_alloc | apply pw_below_drewN | apply below_drew1 | refine below_set ?_ GE260.out) | exact HB.out)) hb); clear BK260; clear HB; have BK260 := n0_; have HB := n1_; clear n0_ n1_; (try clear hb); (try clear hb2); (try clear hk); (try clear hi)) | ((with_reducible refine gate_dst (N := 6) rfl ?_); refine box_event ?hg (N := 6) ?hd (cs := #[.int .i64 0, .int .i64 0, .string (⟨#[]⟩ : ByteArray), .int .i64 0, .string (⟨#[]⟩ : ByteArray)]) (t := 97) ?hr ?_; (case hd => rfl); (case hg => rfl); (case hr => first | (go_simp; done) | (go_simp; rfl)); intro gb266 hg w8 hbox hb; have n0_ := Aside0.mk (blk_below (g := gb260) (o := .cells #[.slice A0_0 l0_0.length c0_0, .int .i64 a0_1] 28 (0, 0)) (by (with_reducible repeat (first | refine blk_drewN ?_ _ | refine blk_drew ?_ | refine blk_alloc ?_ _)); exact BK260.out) hb); have n1_ := Aside0.mk (below_step (by repeat (first | (with_reducible first | exact HB.out | apply below_alloc | apply pw_below_drewN | apply below_drew1 | refine below_set ?_ GE260.out) | exact HB.out)) hb); have n2_ := Aside0.mk (hbox); have n3_ := Aside0.mk ((by rw [hg]; exact (below_size (by repeat (first | (with_reducible first | exact HB.out | apply below_alloc | apply pw_below_drewN | apply below_drew1 | refine below_set ?_ GE260.out) | exact HB.out))) : w.heap.size ≤ gb266)); have n4_ := Aside0.mk ((by rw [hg]; exact (below_size (by repeat (first | (with_reducible first | exact HB.out | apply below_alloc | apply pw_below_drewN | apply below_drew1 | refine below_set ?_ GE260.out) | exact HB.out))) : w.heap.size ≤ gb266)); have n5_ := Aside0.mk ((by rw [hg]; exact Nat.ne_of_lt (blk_lt (g := gb260) (o := .cells #[.slice A0_0 l0_0.length c0_0, .int .i64 a0_1] 28 (0, 0)) (by (with_reducible repeat (first | refine blk_drewN ?_ _ | refine blk_drew ?_ | refine blk_alloc ?_ _)); exact BK260.out)) : gb260 ≠ gb266)); have n6_ := Aside0.mk ((by rw [hg]; exact Nat.ne_of_gt (blk_lt (g := gb260) (o := .cells #[.slice A0_0 l0_0.length c0_0, .int .i64 a0_1] 28 (0, 0)) (by (with_reducible repeat (first | refine blk_drewN ?_ _ | refine blk_drew ?_ | refine blk_alloc ?_ _)); exact BK260.out)) : gb266 ≠ gb260)); clear BK260; clear HB; have BK260 := n0_; have HB := n1_; have BK266 := n2_; have GW266 := n3_; have GE266 := n4_; have NB260_266 := n5_; have NB266_260 := n6_; clear n0_ n1_ n2_ n3_ n4_ n5_ n6_; clear hb hbox hg; have hnb9 := NB266_260.out; have hnc9 := NB260_266.out; have hcz10_0 : w8.cell? ⟨gb266, 0, none⟩ = some (.int .i64 0) := (blk_cell BK266.out 0).trans rfl; have hcz10_1 : w8.cell? ⟨gb266, 1, none⟩ = some (.int .i64 0) := (blk_cell BK266.out 1).trans rfl; have hcz10_2 : w8.cell? ⟨gb266, 2, none⟩ = some (.string (⟨#[]⟩ : ByteArray)) := (blk_cell BK266.out 2).trans rfl; have hcz10_3 : w8.cell? ⟨gb266, 3, none⟩ = some (.int .i64 0) := (blk_cell BK266.out 3).trans rfl; have hcz10_4 : w8.cell? ⟨gb266, 4, none⟩ = some (.string (⟨#[]⟩ : ByteArray)) := (blk_cell BK266.out 4).trans rfl; have hfz10_0 := blk_frozen BK266.out 0; have hfz10_1 := blk_frozen BK266.out 1; have hfz10_2 := blk_frozen BK266.out 2; have hfz10_3 := blk_frozen BK266.out 3; have hfz10_4 := blk_frozen BK266.out 4))
  go_ret2
  exact ⟨by first | rfl | (simp [errW_none, errW_some] <;> rfl) | (simp [*, errW_none, errW_some] <;> rfl) | (simp [errW_none, errW_some, bne_nil]; done) | (simp [*, bne_nil]; done) | (simp [bne]; done), by repeat (first | (with_reducible first | exact HB.out | apply below_alloc | apply pw_below_drewN | apply below_drew1 | refine below_set ?_ GE260.out | refine below_set ?_ GE266.out) | exact HB.out)⟩
 ·
  rw [if_neg c4] at H
  have c4b0 : (t264 == 0) = false := beq_eq_false_iff_ne.mpr c4
  have c4b1 : (t264 != 0) = true := bne_iff_ne.mpr c4
  have H' := Aside0.mk H
  clear H
  go_enter Try.func29, Try.ntmps29
  go_wp2_with (first | ((with_reducible refine gate_dst (N := 2) rfl ?_); refine box_event ?hg (N := 2) ?hd (cs := #[.slice A0_0 l0_0.length c0_0, .int .i64 a0_1]) (t := 28) ?hr ?_; (case hd => rfl); (case hg => rfl); (case hr => first | (go_simp; done) | (go_simp; rfl)); intro gb260 hg w11 hbox hb; have n0_ := Aside0.mk (below_step (by repeat (first | (with_reducible first | exact HB.out | apply below_alloc | apply pw_below_drewN | apply below_drew1) | exact HB.out)) hb); have n1_ := Aside0.mk (hbox); have n2_ := Aside0.mk ((by rw [hg]; exact (below_size (by repeat (first | (with_reducible first | exact HB.out | apply below_alloc | apply pw_below_drewN | apply below_drew1) | exact HB.out))) : w.heap.size ≤ gb260)); have n3_ := Aside0.mk ((by rw [hg]; exact (below_size (by repeat (first | (with_reducible first | exact HB.out | apply below_alloc | apply pw_below_drewN | apply below_drew1) | exact HB.out))) : w.heap.size ≤ gb260)); clear HB; have HB := n0_; have BK260 := n1_; have GW260 := n2_; have GE260 := n3_; clear n0_ n1_ n2_ n3_; clear hb hbox hg; have hcz12_0 : w11.cell? ⟨gb260, 0, none⟩ = some (.slice A0_0 l0_0.length c0_0) := (blk_cell BK260.out 0).trans rfl; have hcz12_1 : w11.cell? ⟨gb260, 1, none⟩ = some (.int .i64 a0_1) := (blk_cell BK260.out 1).trans rfl; have hfz12_0 := blk_frozen BK260.out 0; have hfz12_1 := blk_frozen BK260.out 1) | ((with_reducible refine gate_callee (f := 49) rfl ?_); refine goesL_ (some 10) rfl rfl Try.func49 (by kernel_rfl) rfl #[.agg #[.slice A0_0 l0_0.length c0_0, .int .i64 a0_1], .int .i64 a1] rfl (by (try simp only [List.map_toArray, List.map_cons, List.map_nil]); first | done | rfl | (simp only [List.length_drop, List.length_take]; rfl)) ?_; (with_reducible refine (linhayref07_At.calls k _ _ l0_0 a0_1 a1 t261 t262 t263 t264 t265 _ ?side1 ?side2 A3.out).mono ?_); (case side1 => repeat (first | exact (Kd.C_below HR0_0.out HB.out) | (with_reducible refine Kd.C_alloc ?_ _) | (with_reducible refine Kd.C_drewN ?_ _) | (with_reducible refine Kd.C_drew ?_))); (case side2 => exact HC0_0.out); rintro e w13 ⟨rfl, hb⟩; refine ⟨_, rfl, ?_⟩; have n0_ := Aside0.mk (blk_below (g := gb260) (o := .cells #[.slice A0_0 l0_0.length c0_0, .int .i64 a0_1] 28 (0, 0)) (by (with_reducible repeat (first | refine blk_drewN ?_ _ | refine blk_drew ?_ | refine blk_alloc ?_ _)); exact BK260.out) hb); have n1_ := Aside0.mk (below_step (by repeat (first | (with_reducible first | exact HB.out | apply below_alloc | apply pw_below_drewN | apply below_drew1 | refine below_set ?_ GE260.out) | exact HB.out)) hb); clear BK260; clear HB; have BK260 := n0_; have HB := n1_; clear n0_ n1_; (try clear hb); (try clear hb2); (try clear hk); (try clear hi)) | ((with_reducible refine gate_dst (N := 6) rfl ?_); refine box_event ?hg (N := 6) ?hd (cs := #[.int .i64 0, .int .i64 0, .string (⟨#[]⟩ : ByteArray), .int .i64 0, .string (⟨#[]⟩ : ByteArray)]) (t := 97) ?hr ?_; (case hd => rfl); (case hg => rfl); (case hr => first | (go_simp; done) | (go_simp; rfl)); intro gb266 hg w14 hbox hb; have n0_ := Aside0.mk (blk_below (g := gb260) (o := .cells #[.slice A0_0 l0_0.length c0_0, .int .i64 a0_1] 28 (0, 0)) (by (with_reducible repeat (first | refine blk_drewN ?_ _ | refine blk_drew ?_ | refine blk_alloc ?_ _)); exact BK260.out) hb); have n1_ := Aside0.mk (below_step (by repeat (first | (with_reducible first | exact HB.out | apply below_alloc | apply pw_below_drewN | apply below_drew1 | refine below_set ?_ GE260.out) | exact HB.out)) hb); have n2_ := Aside0.mk (hbox); have n3_ := Aside0.mk ((by rw [hg]; exact (below_size (by repeat (first | (with_reducible first | exact HB.out | apply below_alloc | apply pw_below_drewN | apply below_drew1 | refine below_set ?_ GE260.out) | exact HB.out))) : w.heap.size ≤ gb266)); have n4_ := Aside0.mk ((by rw [hg]; exact (below_size (by repeat (first | (with_reducible first | exact HB.out | apply below_alloc | apply pw_below_drewN | apply below_drew1 | refine below_set ?_ GE260.out) | exact HB.out))) : w.heap.size ≤ gb266)); have n5_ := Aside0.mk ((by rw [hg]; exact Nat.ne_of_lt (blk_lt (g := gb260) (o := .cells #[.slice A0_0 l0_0.length c0_0, .int .i64 a0_1] 28 (0, 0)) (by (with_reducible repeat (first | refine blk_drewN ?_ _ | refine blk_drew ?_ | refine blk_alloc ?_ _)); exact BK260.out)) : gb260 ≠ gb266)); have n6_ := Aside0.mk ((by rw [hg]; exact Nat.ne_of_gt (blk_lt (g := gb260) (o := .cells #[.slice A0_0 l0_0.length c0_0, .int .i64 a0_1] 28 (0, 0)) (by (with_reducible repeat (first | refine blk_drewN ?_ _ | refine blk_drew ?_ | refine blk_alloc ?_ _)); exact BK260.out)) : gb266 ≠ gb260)); clear BK260; clear HB; have BK260 := n0_; have HB := n1_; have BK266 := n2_; have GW266 := n3_; have GE266 := n4_; have NB260_266 := n5_; have NB266_260 := n6_; clear n0_ n1_ n2_ n3_ n4_ n5_ n6_; clear hb hbox hg; have hnb15 := NB266_260.out; have hnc15 := NB260_266.out; have hcz16_0 : w14.cell? ⟨gb266, 0, none⟩ = some (.int .i64 0) := (blk_cell BK266.out 0).trans rfl; have hcz16_1 : w14.cell? ⟨gb266, 1, none⟩ = some (.int .i64 0) := (blk_cell BK266.out 1).trans rfl; have hcz16_2 : w14.cell? ⟨gb266, 2, none⟩ = some (.string (⟨#[]⟩ : ByteArray)) := (blk_cell BK266.out 2).trans rfl; have hcz16_3 : w14.cell? ⟨gb266, 3, none⟩ = some (.int .i64 0) := (blk_cell BK266.out 3).trans rfl; have hcz16_4 : w14.cell? ⟨gb266, 4, none⟩ = some (.string (⟨#[]⟩ : ByteArray)) := (blk_cell BK266.out 4).trans rfl; have hfz16_0 := blk_frozen BK266.out 0; have hfz16_1 := blk_frozen BK266.out 1; have hfz16_2 := blk_frozen BK266.out 2; have hfz16_3 := blk_frozen BK266.out 3; have hfz16_4 := blk_frozen BK266.out 4))
  go_loopg [7] k (fun kq v7 w' => ∃ (x7_1 : ByteArray) (x267000_1 : Int) (x267001_1 : Int) (x267002_1 : ByteArray) (x267003_1 : Int) (x267004_1 : ByteArray), v7 = .string x7_1 ∧ Aside0 (linhayref08_Real.l0 kq x7_1 l0_0 a0_1 x267000_1 x267001_1 x267002_1 x267003_1 x267004_1 = some (r1, r2)) ∧ Aside0 (kq ≤ k) ∧ Aside0 (w'.heap[gb260]? = some (.cells #[(.slice A0_0 l0_0.length c0_0), .int .i64 a0_1] 28 (0, 0))) ∧ Aside0 (w'.heap[gb266]? = some (.cells #[.int .i64 x267000_1, .int .i64 x267001_1, .string x267002_1, .int .i64 x267003_1, .string x267004_1] 97 (0, 0))) ∧ Aside0 (Below w.heap.size w w'))
  case atStart => exact ⟨((⟨#[]⟩ : ByteArray)), (t261), (t262), (t263), (t264), (t265), (by first | rfl | (simp; done) | (simp [*]; done) | (simp [bne_nil]; done)), H', ⟨Nat.le_refl _⟩, ⟨by (with_reducible repeat (first | refine blk_drewN ?_ _ | refine blk_drew ?_ | refine blk_alloc ?_ _)); refine blk_far ?_ NB260_266.out _; (with_reducible repeat (first | refine blk_drewN ?_ _ | refine blk_drew ?_ | refine blk_alloc ?_ _)); refine blk_far ?_ NB260_266.out _; (with_reducible repeat (first | refine blk_drewN ?_ _ | refine blk_drew ?_ | refine blk_alloc ?_ _)); refine blk_far ?_ NB260_266.out _; (with_reducible repeat (first | refine blk_drewN ?_ _ | refine blk_drew ?_ | refine blk_alloc ?_ _)); refine blk_far ?_ NB260_266.out _; (with_reducible repeat (first | refine blk_drewN ?_ _ | refine blk_drew ?_ | refine blk_alloc ?_ _)); refine blk_far ?_ NB260_266.out _; (with_reducible repeat (first | refine blk_drewN ?_ _ | refine blk_drew ?_ | refine blk_alloc ?_ _)); exact BK260.out⟩, ⟨by (with_reducible repeat (first | refine blk_drewN ?_ _ | refine blk_drew ?_ | refine blk_alloc ?_ _)); refine blk_put (cs := #[.int .i64 t261, .int .i64 t262, .string t263, .int .i64 t264, .string (⟨#[]⟩ : ByteArray)]) ?_ 4 _ rfl; (with_reducible repeat (first | refine blk_drewN ?_ _ | refine blk_drew ?_ | refine blk_alloc ?_ _)); refine blk_put (cs := #[.int .i64 t261, .int .i64 t262, .string t263, .int .i64 0, .string (⟨#[]⟩ : ByteArray)]) ?_ 3 _ rfl; (with_reducible repeat (first | refine blk_drewN ?_ _ | refine blk_drew ?_ | refine blk_alloc ?_ _)); refine blk_put (cs := #[.int .i64 t261, .int .i64 t262, .string (⟨#[]⟩ : ByteArray), .int .i64 0, .string (⟨#[]⟩ : ByteArray)]) ?_ 2 _ rfl; (with_reducible repeat (first | refine blk_drewN ?_ _ | refine blk_drew ?_ | refine blk_alloc ?_ _)); refine blk_put (cs := #[.int .i64 t261, .int .i64 0, .string (⟨#[]⟩ : ByteArray), .int .i64 0, .string (⟨#[]⟩ : ByteArray)]) ?_ 1 _ rfl; (with_reducible repeat (first | refine blk_drewN ?_ _ | refine blk_drew ?_ | refine blk_alloc ?_ _)); refine blk_put (cs := #[.int .i64 0, .int .i64 0, .string (⟨#[]⟩ : ByteArray), .int .i64 0, .string (⟨#[]⟩ : ByteArray)]) ?_ 0 _ rfl; (with_reducible repeat (first | refine blk_drewN ?_ _ | refine blk_drew ?_ | refine blk_alloc ?_ _)); exact BK266.out⟩, ⟨by repeat (first | (with_reducible first | exact HB.out | apply below_alloc | apply pw_below_drewN | apply below_drew1 | refine below_set ?_ GE260.out | refine below_set ?_ GE266.out) | exact HB.out)⟩⟩
  case round =>
   clear H'
   try clear c1
   try clear c2
   try clear p2
   try clear c4
   try clear c4b0
   try clear c4b1
   try clear c9
   try clear c15
   try clear hcz10_0
   try clear hcz10_1
   try clear hcz10_2
   try clear hcz10_3
   try clear hcz10_4
   try clear hcz12_0
   try clear hcz12_1
   try clear hcz16_0
   try clear hcz16_1
   try clear hcz16_2
   try clear hcz16_3
   try clear hcz16_4
   try clear hcz6_0
   try clear hcz6_1
   try clear hfz10_0
   try clear hfz10_1
   try clear hfz10_2
   try clear hfz10_3
   try clear hfz10_4
   try clear hfz12_0
   try clear hfz12_1
   try clear hfz16_0
   try clear hfz16_1
   try clear hfz16_2
   try clear hfz16_3
   try clear hfz16_4
   try clear hfz6_0
   try clear hfz6_1
   obtain ⟨x7_1, x267000_1, x267001_1, x267002_1, x267003_1, x267004_1, rfl, HA, HK1, BK260, BK266, HB⟩ := hrel
   cases gk with
   | zero => exact absurd HA.out (by simp [linhayref08_Real.l0])
   | succ k1 =>
    have H := HA.out
    clear HA
    simp only [linhayref08_Real.l0] at H
    by_cases c17 : x267000_1 = 1
    ·
     rw [if_pos c17] at H
     have c17b0 : (x267000_1 == 1) = true := beq_iff_eq.mpr c17
     have c17b1 : (x267000_1 != 1) = false := bne_eq_false_iff_eq.mpr c17
     clear c17
     by_cases c18 : x7_1.toList = ([] : List UInt8)
     ·
      rw [if_pos c18] at H
      have c18b0 : (x7_1.toList == ([] : List UInt8)) = true := beq_iff_eq.mpr c18
      have c18b1 : (x7_1.toList != ([] : List UInt8)) = false := bne_eq_false_iff_eq.mpr c18
      clear c18
      simp only [Option.some.injEq, Prod.mk.injEq] at H
      obtain ⟨rfl, rfl⟩ := H
      have hnb19 := NB266_260.out
      have hnc19 := NB260_266.out
      have hcz20_0 : wr.cell? ⟨gb266, 0, none⟩ = some (.int .i64 x267000_1) := (blk_cell BK266.out 0).trans rfl
      have hcz20_1 : wr.cell? ⟨gb266, 1, none⟩ = some (.int .i64 x267001_1) := (blk_cell BK266.out 1).trans rfl
      have hcz20_2 : wr.cell? ⟨gb266, 2, none⟩ = some (.string x267002_1) := (blk_cell BK266.out 2).trans rfl
      have hcz20_3 : wr.cell? ⟨gb266, 3, none⟩ = some (.int .i64 x267003_1) := (blk_cell BK266.out 3).trans rfl
      have hcz20_4 : wr.cell? ⟨gb266, 4, none⟩ = some (.string x267004_1) := (blk_cell BK266.out 4).trans rfl
      have hfz20_0 := blk_frozen BK266.out 0
      have hfz20_1 := blk_frozen BK266.out 1
      have hfz20_2 := blk_frozen BK266.out 2
      have hfz20_3 := blk_frozen BK266.out 3
      have hfz20_4 := blk_frozen BK266.out 4
      go_wp2
      go_ret2
      exact ⟨by first | rfl | (simp [errW_none, errW_some] <;> rfl) | (simp [*, errW_none, errW_some] <;> rfl) | (simp [errW_none, errW_some, bne_nil]; done) | (simp [*, bne_nil]; done) | (simp [bne]; done), by repeat (first | (with_reducible first | exact HB.out | apply below_alloc | apply pw_below_drewN | apply below_drew1 | refine below_set ?_ GE260.out | refine below_set ?_ GE266.out) | exact HB.out)⟩
     ·
      rw [if_neg c18] at H
      have c18b0 : (x7_1.toList == ([] : List UInt8)) = false := beq_eq_false_iff_ne.mpr c18
      have c18b1 : (x7_1.toList != ([] : List UInt8)) = true := bne_iff_ne.mpr c18
      simp only [Option.some.injEq, Prod.mk.injEq] at H
      obtain ⟨rfl, rfl⟩ := H
      have hnb21 := NB266_260.out
      have hnc21 := NB260_266.out
      have hcz22_0 : wr.cell? ⟨gb266, 0, none⟩ = some (.int .i64 x267000_1) := (blk_cell BK266.out 0).trans rfl
      have hcz22_1 : wr.cell? ⟨gb266, 1, none⟩ = some (.int .i64 x267001_1) := (blk_cell BK266.out 1).trans rfl
      have hcz22_2 : wr.cell? ⟨gb266, 2, none⟩ = some (.string x267002_1) := (blk_cell BK266.out 2).trans rfl
      have hcz22_3 : wr.cell? ⟨gb266, 3, none⟩ = some (.int .i64 x267003_1) := (blk_cell BK266.out 3).trans rfl
      have hcz22_4 : wr.cell? ⟨gb266, 4, none⟩ = some (.string x267004_1) := (blk_cell BK266.out 4).trans rfl
      have hfz22_0 := blk_frozen BK266.out 0
      have hfz22_1 := blk_frozen BK266.out 1
      have hfz22_2 := blk_frozen BK266.out 2
      have hfz22_3 := blk_frozen BK266.out 3
      have hfz22_4 := blk_frozen BK266.out 4
      go_wp2
      go_ret2
      exact ⟨by first | rfl | (simp [errW_none, errW_some] <;> rfl) | (simp [*, errW_none, errW_some] <;> rfl) | (simp [errW_none, errW_some, bne_nil]; done) | (simp [*, bne_nil]; done) | (simp [bne]; done), by repeat (first | (with_reducible first | exact HB.out | apply below_alloc | apply pw_below_drewN | apply below_drew1 | refine below_set ?_ GE260.out | refine below_set ?_ GE266.out) | exact HB.out)⟩
    ·
     rw [if_neg c17] at H
     have c17b0 : (x267000_1 == 1) = false := beq_eq_false_iff_ne.mpr c17
     have c17b1 : (x267000_1 != 1) = true := bne_iff_ne.mpr c17
     by_cases c23 : 1 + x267002_1.size ≤ 9223372036854775807
     ·
      rw [if_pos c23] at H
      have c23b0 := eq_true c23
      have c23b1 : decide (1 + x267002_1.size ≤ 9223372036854775807) = true := decide_eq_true c23
      try have c23b2 : (9223372036854775807 < 1 + x267002_1.size) = False := eq_false (Nat.not_lt.2 c23)
      try (have c23b3 : ∀ m_ : Nat, 9223372036854775807 ≤ m_ → 1 + x267002_1.size ≤ m_ := fun m_ h_ => Nat.le_trans c23 h_; simp [go_sem, *] at c23b3; have c23b4 := eq_false (Nat.not_lt.2 (c23b3 _ (Nat.le_refl _))); clear c23b3)
      by_cases c24 : ((⟨#[47]⟩ : ByteArray) ++ x267002_1).size + x7_1.size ≤ 9223372036854775807
      ·
       rw [if_pos c24] at H
       have c24b0 := eq_true c24
       have c24b1 : decide (((⟨#[47]⟩ : ByteArray) ++ x267002_1).size + x7_1.size ≤ 9223372036854775807) = true := decide_eq_true c24
       try have c24b2 : (9223372036854775807 < ((⟨#[47]⟩ : ByteArray) ++ x267002_1).size + x7_1.size) = False := eq_false (Nat.not_lt.2 c24)
       try (have c24b3 : ∀ m_ : Nat, 9223372036854775807 ≤ m_ → ((⟨#[47]⟩ : ByteArray) ++ x267002_1).size + x7_1.size ≤ m_ := fun m_ h_ => Nat.le_trans c24 h_; simp [go_sem, *] at c24b3; have c24b4 := eq_false (Nat.not_lt.2 (c24b3 _ (Nat.le_refl _))); clear c24b3)
       replace H := Option.bind_eq_some_iff.mp H
       obtain ⟨⟨t267, t268, t269, t270, t271⟩, A250, H⟩ := H
       replace H : (linhayref08_Real.l0 k1 (((⟨#[47]⟩ : ByteArray) ++ x267002_1) ++ x7_1) l0_0 a0_1 t267 t268 t269 t270 t271) = some (r1, r2) := H
       have A25 := Aside0.mk A250
       clear A250
       have H' := Aside0.mk H
       clear H
       have hnb26 := NB266_260.out
       have hnc26 := NB260_266.out
       have hcz27_0 : wr.cell? ⟨gb266, 0, none⟩ = some (.int .i64 x267000_1) := (blk_cell BK266.out 0).trans rfl
       have hcz27_1 : wr.cell? ⟨gb266, 1, none⟩ = some (.int .i64 x267001_1) := (blk_cell BK266.out 1).trans rfl
       have hcz27_2 : wr.cell? ⟨gb266, 2, none⟩ = some (.string x267002_1) := (blk_cell BK266.out 2).trans rfl
       have hcz27_3 : wr.cell? ⟨gb266, 3, none⟩ = some (.int .i64 x267003_1) := (blk_cell BK266.out 3).trans rfl
       have hcz27_4 : wr.cell? ⟨gb266, 4, none⟩ = some (.string x267004_1) := (blk_cell BK266.out 4).trans rfl
       have hfz27_0 := blk_frozen BK266.out 0
       have hfz27_1 := blk_frozen BK266.out 1
       have hfz27_2 := blk_frozen BK266.out 2
       have hfz27_3 := blk_frozen BK266.out 3
       have hfz27_4 := blk_frozen BK266.out 4
       have hcz28_0 : wr.cell? ⟨gb260, 0, none⟩ = some (.slice A0_0 l0_0.length c0_0) := (blk_cell BK260.out 0).trans rfl
       have hcz28_1 : wr.cell? ⟨gb260, 1, none⟩ = some (.int .i64 a0_1) := (blk_cell BK260.out 1).trans rfl
       have hfz28_0 := blk_frozen BK260.out 0
       have hfz28_1 := blk_frozen BK260.out 1
       go_wp2_with (first | ((with_reducible refine gate_callee (f := 49) rfl ?_); refine goesL_ (some 25) rfl rfl Try.func49 (by kernel_rfl) rfl #[.agg #[.slice A0_0 l0_0.length c0_0, .int .i64 a0_1], .int .i64 x267001_1] rfl (by (try simp only [List.map_toArray, List.map_cons, List.map_nil]); first | done | rfl | (simp only [List.length_drop, List.length_take]; rfl)) ?_; (with_reducible refine (linhayref07_At.calls k1 _ _ l0_0 a0_1 x267001_1 t267 t268 t269 t270 t271 _ ?side1 ?side2 A25.out).mono ?_); (case side1 => repeat (first | exact (Kd.C_below HR0_0.out HB.out) | (with_reducible refine Kd.C_alloc ?_ _) | (with_reducible refine Kd.C_drewN ?_ _) | (with_reducible refine Kd.C_drew ?_))); (case side2 => exact HC0_0.out); rintro e w29 ⟨rfl, hb⟩; refine ⟨_, rfl, ?_⟩; have n0_ := Aside0.mk (blk_below (g := gb260) (o := .cells #[.slice A0_0 l0_0.length c0_0, .int .i64 a0_1] 28 (0, 0)) (by (with_reducible repeat (first | refine blk_drewN ?_ _ | refine blk_drew ?_ | refine blk_alloc ?_ _)); exact BK260.out) hb); have n1_ := Aside0.mk (blk_below (g := gb266) (o := .cells #[.int .i64 x267000_1, .int .i64 x267001_1, .string x267002_1, .int .i64 x267003_1, .string x267004_1] 97 (0, 0)) (by (with_reducible repeat (first | refine blk_drewN ?_ _ | refine blk_drew ?_ | refine blk_alloc ?_ _)); exact BK266.out) hb); have n2_ := Aside0.mk (below_step (by repeat (first | (with_reducible first | exact HB.out | apply below_alloc | apply pw_below_drewN | apply below_drew1 | refine below_set ?_ GE260.out | refine below_set ?_ GE266.out) | exact HB.out)) hb); clear BK260; clear BK266; clear HB; have BK260 := n0_; have BK266 := n1_; have HB := n2_; clear n0_ n1_ n2_; (try clear hb); (try clear hb2); (try clear hk); (try clear hi); have hcz30_0 : w29.cell? ⟨gb266, 0, none⟩ = some (.int .i64 x267000_1) := (blk_cell BK266.out 0).trans rfl; have hcz30_1 : w29.cell? ⟨gb266, 1, none⟩ = some (.int .i64 x267001_1) := (blk_cell BK266.out 1).trans rfl; have hcz30_2 : w29.cell? ⟨gb266, 2, none⟩ = some (.string x267002_1) := (blk_cell BK266.out 2).trans rfl; have hcz30_3 : w29.cell? ⟨gb266, 3, none⟩ = some (.int .i64 x267003_1) := (blk_cell BK266.out 3).trans rfl; have hcz30_4 : w29.cell? ⟨gb266, 4, none⟩ = some (.string x267004_1) := (blk_cell BK266.out 4).trans rfl; have hfz30_0 := blk_frozen BK266.out 0; have hfz30_1 := blk_frozen BK266.out 1; have hfz30_2 := blk_frozen BK266.out 2; have hfz30_3 := blk_frozen BK266.out 3; have hfz30_4 := blk_frozen BK266.out 4))
       go_roundg k1
       case measure => have := HK1.out; omega
       case rel => exact ⟨(((⟨#[47]⟩ : ByteArray) ++ x267002_1) ++ x7_1), (t267), (t268), (t269), (t270), (t271), (by first | rfl | (simp; done) | (simp [*]; done) | (simp [bne_nil]; done)), H', ⟨by have := HK1.out; omega⟩, ⟨by (with_reducible repeat (first | refine blk_drewN ?_ _ | refine blk_drew ?_ | refine blk_alloc ?_ _)); refine blk_far ?_ NB260_266.out _; (with_reducible repeat (first | refine blk_drewN ?_ _ | refine blk_drew ?_ | refine blk_alloc ?_ _)); refine blk_far ?_ NB260_266.out _; (with_reducible repeat (first | refine blk_drewN ?_ _ | refine blk_drew ?_ | refine blk_alloc ?_ _)); refine blk_far ?_ NB260_266.out _; (with_reducible repeat (first | refine blk_drewN ?_ _ | refine blk_drew ?_ | refine blk_alloc ?_ _)); refine blk_far ?_ NB260_266.out _; (with_reducible repeat (first | refine blk_drewN ?_ _ | refine blk_drew ?_ | refine blk_alloc ?_ _)); refine blk_far ?_ NB260_266.out _; (with_reducible repeat (first | refine blk_drewN ?_ _ | refine blk_drew ?_ | refine blk_alloc ?_ _)); exact BK260.out⟩, ⟨by (with_reducible repeat (first | refine blk_drewN ?_ _ | refine blk_drew ?_ | refine blk_alloc ?_ _)); refine blk_put (cs := #[.int .i64 t267, .int .i64 t268, .string t269, .int .i64 t270, .string x267004_1]) ?_ 4 _ rfl; (with_reducible repeat (first | refine blk_drewN ?_ _ | refine blk_drew ?_ | refine blk_alloc ?_ _)); refine blk_put (cs := #[.int .i64 t267, .int .i64 t268, .string t269, .int .i64 x267003_1, .string x267004_1]) ?_ 3 _ rfl; (with_reducible repeat (first | refine blk_drewN ?_ _ | refine blk_drew ?_ | refine blk_alloc ?_ _)); refine blk_put (cs := #[.int .i64 t267, .int .i64 t268, .string x267002_1, .int .i64 x267003_1, .string x267004_1]) ?_ 2 _ rfl; (with_reducible repeat (first | refine blk_drewN ?_ _ | refine blk_drew ?_ | refine blk_alloc ?_ _)); refine blk_put (cs := #[.int .i64 t267, .int .i64 x267001_1, .string x267002_1, .int .i64 x267003_1, .string x267004_1]) ?_ 1 _ rfl; (with_reducible repeat (first | refine blk_drewN ?_ _ | refine blk_drew ?_ | refine blk_alloc ?_ _)); refine blk_put (cs := #[.int .i64 x267000_1, .int .i64 x267001_1, .string x267002_1, .int .i64 x267003_1, .string x267004_1]) ?_ 0 _ rfl; (with_reducible repeat (first | refine blk_drewN ?_ _ | refine blk_drew ?_ | refine blk_alloc ?_ _)); exact BK266.out⟩, ⟨by repeat (first | (with_reducible first | exact HB.out | apply below_alloc | apply pw_below_drewN | apply below_drew1 | refine below_set ?_ GE260.out | refine below_set ?_ GE266.out) | exact HB.out)⟩⟩
      ·
       rw [if_neg c24] at H
       exact absurd H (by simp)
     ·
      rw [if_neg c23] at H
      exact absurd H (by simp)

end Go.Proofs.Ytjfigngmpagloaa.X

namespace Go.Proofs.Ytjfigngmpagloaa.Tw
open Go Go.RowKit Go.Shelf Go.Proofs Go.Proofs.Ytjfigngmpagloaa Go.Proofs.YtjfigngmpagloaaW.PrintWords Go.Proofs.Ytjfigngmpagloaa.Ext Go.Proofs.Ytjfigngmpagloaa.X Go.Proofs.Ytjfigngmpagloaa.Pu
set_option linter.unusedVariables false
set_option linter.unusedSimpArgs false
def NoSlash (x : List UInt8) : Prop := x ≠ [] ∧ x ≠ [46] ∧ 47 ∉ x
theorem go_run (now x l : List UInt8) (hx : 47 ∉ x) : Sp.go now (x ++ l) = Sp.go (now ++ x) l := by
  induction x generalizing now with
  | nil => simp
  | cons c x ih =>
    have hc : c ≠ 47 := fun e => hx (by simp [e])
    rw [List.cons_append, Sp.go, if_neg hc, ih _ (fun h => hx (List.mem_cons_of_mem _ h))]
    simp
theorem parts_slash (l : List UInt8) : Sp.parts (47 :: l) = Sp.parts l := by simp [Sp.parts, Sp.go, Sp.keep]
theorem parts_tail (L : List (List UInt8)) (h : ∀ x ∈ L, NoSlash x) : Sp.parts (Lib.joinTail [47] L) = L := by
  induction L with
  | nil => simp [Lib.joinTail]
  | cons x L ih =>
    obtain ⟨h1, h2, h3⟩ := h x List.mem_cons_self
    have e : Lib.joinTail [47] (x :: L) = 47 :: (x ++ Lib.joinTail [47] L) := by simp [Lib.joinTail]
    rw [e, parts_slash, Sp.parts, go_run _ _ _ h3, List.nil_append]
    cases L with
    | nil => simp [Lib.joinTail, Sp.go, Sp.keep, h1, h2]
    | cons y L =>
      have e2 : Lib.joinTail [47] (y :: L) = 47 :: (y ++ Lib.joinTail [47] L) := by simp [Lib.joinTail]
      have ih2 := ih (fun z hz => h z (List.mem_cons_of_mem _ hz))
      rw [e2, parts_slash] at ih2
      rw [e2, Sp.go, if_pos rfl, Sp.keep, if_neg (fun h => h.elim h1 h2)]
      rw [Sp.parts] at ih2
      rw [ih2]
theorem join_tail (L : List (List UInt8)) (hL : L ≠ []) : 47 :: Lib.join L [47] = Lib.joinTail [47] L := by
  cases L with
  | nil => exact absurd rfl hL
  | cons x L => rw [Lib.join_cons]; simp [Lib.joinTail]
theorem parts_text (L : List (List UInt8)) (h : ∀ x ∈ L, NoSlash x) : Sp.parts (Sp.text L) = L := by
  by_cases hL : L = []
  · subst hL; rw [Sp.text, Lib.join_nil]; rfl
  · rw [Sp.text, join_tail L hL, parts_tail L h]
inductive Chain (L : List RN) : Int → List ByteArray → Prop
  | root : Chain L 1 []
  | step {r : RN} {p : List ByteArray} : r ∈ L → r.f0 ≠ 1 → Chain L r.f1 p → Chain L r.f0 (p ++ [r.f2])
theorem root_at {L : List RN} {last : Int} (h : GoodL L last) : (atR L 1).f0 = 1 ∧ (atR L 1).f1 = 1 ∧ (atR L 1).f3 = 1 := by
  obtain ⟨r, hr, h0, h1, h3⟩ := h.root
  have := at_mem h hr
  rw [h0] at this
  rw [this]
  exact ⟨h0, h1, h3⟩
theorem chain_ex {L : List RN} {last : Int} (hG : GoodL L last) (hM : GoodM L) : ∀ n, (atR L n).f3 ≠ 0 → ∃ p, Chain L n p ∧ p.length ≤ L.length := by
  obtain ⟨d, hb, hd⟩ := hM.rank
  have key : ∀ (m : Nat) (n : Int), d n = m → (atR L n).f3 ≠ 0 → ∃ p, Chain L n p ∧ p.length ≤ m := by
    intro m
    induction m using Nat.strongRecOn with
    | _ m ih =>
      intro n hn hk
      by_cases h1 : n = 1
      · subst h1; exact ⟨[], .root, Nat.zero_le _⟩
      · obtain ⟨q, hq, hqn, hqe⟩ := at_kind hk
        have hq1 : q.f0 ≠ 1 := by rw [hqn]; exact h1
        have hlt := hd q hq hq1
        rw [hqn, hn] at hlt
        obtain ⟨p, hp, hpl⟩ := ih (d q.f1) hlt q.f1 rfl (by rw [hG.up q hq]; decide)
        have := Chain.step hq hq1 hp
        rw [hqn] at this
        exact ⟨_, this, by rw [List.length_append, List.length_singleton]; omega⟩
  intro n hk
  obtain ⟨p, h1, h2⟩ := key _ n rfl hk
  exact ⟨p, h1, Nat.le_trans h2 (hb n)⟩
theorem chain_kind {L : List RN} {last : Int} (hG : GoodL L last) (hM : GoodM L) {n : Int} {p : List ByteArray} (h : Chain L n p) : (atR L n).f3 ≠ 0 ∧ (atR L n).f0 = n := by
  cases h with
  | root => have := root_at hG; rw [this.2.2, this.1]; exact ⟨by decide, rfl⟩
  | step hr h1 _ => rw [at_mem hG hr]; have := (hM.kind _ hr).1; exact ⟨by omega, rfl⟩
theorem chain_nm {L : List RN} {last : Int} (hM : GoodM L) {n : Int} {p : List ByteArray} (h : Chain L n p) : ∀ x ∈ p, Sp.check x.data.toList = 0 := by
  induction h with
  | root => intro x hx; cases hx
  | step hr h1 _ ih =>
    intro x hx
    rcases List.mem_append.1 hx with hx | hx
    · exact ih x hx
    · rw [List.mem_singleton.1 hx]; exact hM.nm _ hr h1
theorem check_zero {s : List UInt8} (h : Sp.check s = 0) : NoSlash s ∧ Up s ∧ s.length ≤ 64 ∧ Sp.right s = true := by
  have h' := h
  unfold Sp.check at h
  split at h
  · cases h
  · split at h
    · cases h
    · split at h
      · cases h
      · rename_i h1 h2 h3
        simp only [not_or] at h2 h3
        exact ⟨⟨h1, h3.1, h2.2.1⟩, h3.2, by omega, by simp [Sp.right, h']⟩
theorem called_of {L : List RN} {last : Int} (hG : GoodL L last) {r : RN} (hr : r ∈ L) (h1 : r.f0 ≠ 1) : calledT (trOf L last) r.f0 = r.f2 := by
  unfold calledT
  rw [node_of hG r.f0, at_mem hG hr, node_of hG r.f1]
  simp only []
  have hm : (⟨r.f2, r.f0⟩ : En) ∈ entsOf L r.f1 := mem_ents.2 ⟨r, hr, isIn_iff.2 ⟨rfl, h1⟩, rfl⟩
  unfold calledL
  cases hf : (entsOf L r.f1).find? (fun e => e.f1 == r.f0) with
  | none => have := List.find?_eq_none.1 hf _ hm; simp at this
  | some e =>
    have he := List.mem_of_find?_eq_some hf
    have hes : e.f1 = r.f0 := by simpa using List.find?_some hf
    obtain ⟨q, hq, hi, rfl⟩ := mem_ents.1 he
    have e1 := at_mem hG hq
    have e2 := at_mem hG hr
    rw [show q.f0 = r.f0 from hes, e2] at e1
    rw [← e1]
theorem real_up {L : List RN} {last : Int} (hG : GoodL L last) {n : Int} {p : List ByteArray} (h : Chain L n p) : ∃ k, realUp (trOf L last) k n = some p.reverse := by
  induction h with
  | root => exact ⟨1, by rw [realUp_one, if_pos rfl]; rfl⟩
  | step hr h1 _ ih =>
    obtain ⟨k, hk⟩ := ih
    refine ⟨k + 1, ?_⟩
    rw [realUp_one, if_neg h1, node_of hG, at_mem hG hr]
    simp only []
    rw [hk, called_of hG hr h1]
    simp
def flatB (p : List ByteArray) : List UInt8 := p.flatMap (fun x => 47 :: x.data.toList)
theorem flat_snoc (p : List ByteArray) (x : ByteArray) : flatB (p ++ [x]) = flatB p ++ 47 :: x.data.toList := by simp [flatB]
theorem flat_text (p : List ByteArray) : Sp.text (p.map (·.data.toList)) = if p = [] then [47] else flatB p := by
  by_cases h : p = []
  · subst h; rfl
  · rw [if_neg h, Sp.text, join_tail _ (by simpa using h)]
    simp only [Lib.joinTail, flatB, List.map_map, List.flatMap]
    rfl
theorem slash_join (p : List ByteArray) : slash1 ++ joinB p = Sp.mk (Sp.text (p.map (·.data.toList))) := by
  unfold joinB Sp.text slash1
  rw [Sp.mk_cons]
def finR (p : List ByteArray) (acc : ByteArray) : ByteArray := if p = [] ∧ acc.toList = [] then ⟨#[47]⟩ else Sp.mk (flatB p ++ acc.data.toList)
theorem ref_real_l0 {L : List RN} {last : Int} (hG : GoodL L last) (hM : GoodM L) {n : Int} {p : List ByteArray} (h : Chain L n p) : ∀ (acc : ByteArray), acc.size + 100 * p.length < 1000000000 →
    Ev (fun k => linhayref08_Real.l0 k acc L last (atR L n).f0 (atR L n).f1 (atR L n).f2 (atR L n).f3 (atR L n).f4) (finR p acc, true) := by
  have hlen : L.length < 4294967296 := by have := hG.len; omega
  induction h with
  | root =>
    intro acc _
    obtain ⟨e0, e1, e3⟩ := root_at hG
    rw [e0]
    refine Ev.step (fun k => by rw [linhayref08_Real.l0]) (ev_pos rfl ?_)
    by_cases ha : acc.toList = []
    · have e : finR [] acc = ⟨#[47]⟩ := by unfold finR; rw [if_pos ⟨rfl, ha⟩]
      rw [e]; exact ev_pos ha (Ev.now _)
    · have e : finR [] acc = acc := by
        unfold finR
        rw [if_neg (fun h => ha h.2), show flatB [] ++ acc.data.toList = acc.data.toList from rfl, Sp.mk_of]
      rw [e]; exact ev_neg ha (Ev.now _)
  | step hr h1 hc ih =>
    rename_i r p
    intro acc ha
    rw [at_mem hG hr]
    have hz : r.f2.size ≤ 64 := by rw [Sp.size_eq]; exact (check_zero (hM.nm _ hr h1)).2.2.1
    rw [List.length_append, List.length_singleton] at ha
    have s1 : ((⟨#[47]⟩ : ByteArray) ++ r.f2).size = 1 + r.f2.size := by rw [ByteArray.size_append]; rfl
    have s2 : (((⟨#[47]⟩ : ByteArray) ++ r.f2) ++ acc).size = 1 + r.f2.size + acc.size := by rw [ByteArray.size_append, s1]
    have := ih (((⟨#[47]⟩ : ByteArray) ++ r.f2) ++ acc) (by omega)
    have ef : finR p (((⟨#[47]⟩ : ByteArray) ++ r.f2) ++ acc) = finR (p ++ [r.f2]) acc := by
      unfold finR
      rw [if_neg (by rintro ⟨_, h⟩; have := congrArg List.length h; rw [toL, ← Sp.size_eq, s2] at this; simp at this), if_neg (by simp), flat_snoc]
      congr 1
      simp [ByteArray.data_append]
    rw [ef] at this
    refine Ev.step (fun k => by rw [linhayref08_Real.l0]) (ev_neg h1 (ev_pos (by omega) (ev_pos (by omega) (ev_bind (r07_at L r.f1 last hlen) this))))
theorem finR_text (p : List ByteArray) : finR p ⟨#[]⟩ = slash1 ++ joinB p := by
  rw [slash_join, flat_text, finR]
  by_cases h : p = []
  · rw [if_pos ⟨h, by rw [toL]⟩, if_pos h]; rfl
  · rw [if_neg (fun e => h e.1), if_neg h]; simp
theorem ref_real {L : List RN} {last : Int} (hG : GoodL L last) (hM : GoodM L) {n : Int} {p : List ByteArray} (h : Chain L n p) (hp : p.length ≤ L.length) : Ev (fun k => linhayref08_Real.f k L last n) (slash1 ++ joinB p, true) := by
  have hlen : L.length ≤ 4096 := hG.len
  rw [← finR_text]
  refine ev_bind (r07_at L n last (by omega)) (ev_neg (chain_kind hG hM h).1 ?_)
  exact ref_real_l0 hG hM h ⟨#[]⟩ (by show 0 + _ < _; omega)
theorem inR_of {L : List RN} {last : Int} (hG : GoodL L last) {r : RN} (hr : r ∈ L) (h1 : r.f0 ≠ 1) : inR L r.f1 r.f2 = r.f0 := by
  have hne : inR L r.f1 r.f2 ≠ 0 := by
    intro h0
    exact inR_none hG (d := r.f1) (s := r.f2) (by omega) r hr rfl h1 rfl
  obtain ⟨q, hq, q0, q1, q2, q3, _⟩ := inR_mem hG hne
  rw [← q0]
  obtain ⟨i, hi, rfl⟩ := List.getElem_of_mem hq
  obtain ⟨j, hj, rfl⟩ := List.getElem_of_mem hr
  rcases Nat.lt_trichotomy i j with hlt | rfl | hgt
  · exact absurd q2 (List.pairwise_iff_getElem.1 hG.names i j hi hj hlt q1 q3 h1)
  · rfl
  · exact absurd q2.symm (List.pairwise_iff_getElem.1 hG.names j i hj hi hgt q1.symm h1 q3)
theorem walk_chain {L : List RN} {last : Int} (hG : GoodL L last) (hM : GoodM L) (lst : Bool) {n : Int} {p : List ByteArray} (h : Chain L n p) : ∀ (rest : List ByteArray) (k : Nat) (R : Int × Int), ((rest = [] ∧ lst = false) ∨ (atR L n).f3 = 1) → walkF (trOf L last) lst k n 0 rest = some R → ∃ k2, walkF (trOf L last) lst k2 1 0 (p ++ rest) = some R := by
  induction h with
  | root => intro rest k R _ h; exact ⟨k, h⟩
  | step hr h1 hc ih =>
    rename_i r p
    intro rest k R hor hw
    rw [at_mem hG hr] at hor
    have hnm := check_zero (hM.nm _ hr h1)
    have hk1 := hG.up r hr
    have hdn := downT_of hG r.f1 r.f2
    rw [if_pos (hM.nm _ hr h1), inR_of hG hr h1, if_neg (show ¬ r.f0 = 0 by have := (hG.num r hr).1; omega)] at hdn
    have := ih (r.f2 :: rest) (k + 1) R (.inr hk1) (by
      rw [walk_cons, hdn, if_neg (show ¬ ((trOf L last).node r.f1).kind ≠ 1 by rw [node_of hG]; simpa using hk1), if_neg (show ¬ r.f2.toList = [46, 46] from fun e => hnm.2.1 (by rw [← toL]; exact e)), if_neg (by simp)]
      simp only []
      rw [if_pos (by rw [node_of hG, at_mem hG hr]; rcases hor with h | h; exact .inr h; exact .inl (by show r.f3 ≠ 3; rw [h]; decide))]
      exact hw)
    obtain ⟨k2, h2⟩ := this
    exact ⟨k2, by rw [List.append_assoc]; exact h2⟩
theorem parts_text' {L : List RN} {last : Int} (hM : GoodM L) {n : Int} {p : List ByteArray} (h : Chain L n p) : partsB (slash1 ++ joinB p) = p := by
  have hn := chain_nm (last := last) hM h
  unfold partsB bs
  rw [slash_join, Sp.mk_data, parts_text _ (fun x hx => by obtain ⟨y, hy, rfl⟩ := List.mem_map.1 hx; exact (check_zero (hn y hy)).1), List.map_map]
  conv => rhs; rw [← List.map_id p]
  apply List.map_congr_left
  intro x _
  exact Sp.mk_of x
theorem size_pos (p : List ByteArray) : (slash1 ++ joinB p).toList ≠ [] := by
  rw [slash_join, toList_mk, Sp.text]; simp
theorem find_chain {L : List RN} {last : Int} (hG : GoodL L last) (hM : GoodM L) (lst : Bool) {n : Int} {p : List ByteArray} (h : Chain L n p) (ho : lst = false ∨ (atR L n).f3 = 1) (hz : (slash1 ++ joinB p).size ≤ 1024) : ∃ k, findF (trOf L last) lst k (slash1 ++ joinB p) = some (n, 0) := by
  obtain ⟨k, hk⟩ := walk_chain hG hM lst h [] 1 (n, 0) (ho.elim (fun h => .inl ⟨rfl, h⟩) .inr) rfl
  refine ⟨k, ?_⟩
  have hb : beginE (slash1 ++ joinB p) = 0 := by
    unfold beginE
    rw [if_neg (size_pos p), if_neg (by omega)]
  unfold findF
  rw [if_pos hb, parts_text' (last := last) hM h]
  rw [List.append_nil] at hk
  rw [hk]; rfl
theorem chain_uniq {L : List RN} {last : Int} (hG : GoodL L last) {n : Int} {p : List ByteArray} (h : Chain L n p) : ∀ {q : List ByteArray}, Chain L n q → p = q := by
  induction h with
  | root =>
    intro q hq
    generalize hm : (1 : Int) = m at hq
    cases hq with
    | root => rfl
    | step _ h1 _ => exact absurd hm.symm h1
  | step hr h1 hc ih =>
    rename_i r p
    intro q hq
    generalize hm : r.f0 = m at hq
    cases hq with
    | root => exact absurd hm h1
    | step hr2 h2 hc2 =>
      rename_i r2 q
      have e1 := at_mem hG hr
      have e2 := at_mem hG hr2
      rw [hm, e2] at e1
      subst e1
      rw [ih hc2]
end Go.Proofs.Ytjfigngmpagloaa.Tw

namespace Go.Proofs.Ytjfigngmpagloaa.Tw
open Go Go.RowKit Go.Shelf Go.Proofs Go.Proofs.Ytjfigngmpagloaa Go.Proofs.YtjfigngmpagloaaW.PrintWords Go.Proofs.Ytjfigngmpagloaa.Ext Go.Proofs.Ytjfigngmpagloaa.X Go.Proofs.Ytjfigngmpagloaa.Pu
set_option linter.unusedVariables false
set_option linter.unusedSimpArgs false
abbrev HQ := S75
theorem infoQ : (Try.prog.info? 75).map (fun i => (i.zero, i.size, i.bytes)) = some (some (.agg #[.string ⟨#[]⟩, .string ⟨#[]⟩]), 2, 32) := by kernel_rfl
def refF (T : Tr) (rl : Int → ByteArray) (last : Bool) : Nat → Int → List ByteArray → List HQ → Option (List HQ)
  | 0, _, _, _ => none
  | _ + 1, _, [], hs => some hs
  | k + 1, a, s :: l, hs =>
    if nextT T a s = 0 then some hs
    else if (T.node (nextT T a s)).kind ≠ 3 ∨ (l = [] ∧ last = false) then refF T rl last k (nextT T a s) l hs
    else if hs.length = 40 then some hs
    else refF T rl last k (if slashB (T.node (nextT T a s)).data = true then 1 else a) (partsB (T.node (nextT T a s)).data ++ l) (hs ++ [⟨rl (nextT T a s), (T.node (nextT T a s)).data⟩])
def cvH (x : HP) : HQ := ⟨x.f0, x.f1⟩
theorem refF_eq (T : Tr) (rl : Int → ByteArray) (last : Bool) : ∀ (k : Nat) (a : Int) (l : List ByteArray) (hs : List HP), refF T rl last k a l (hs.map cvH) = (traceF T rl last k a l hs).map (List.map cvH)
  | 0, _, _, _ => rfl
  | _ + 1, _, [], _ => rfl
  | k + 1, a, s :: l, hs => by
    unfold refF traceF
    split
    · rfl
    · split
      · exact refF_eq T rl last k _ l hs
      · rw [List.length_map]
        split
        · rfl
        · have := refF_eq T rl last k (if slashB (T.node (nextT T a s)).data = true then 1 else a) (partsB (T.node (nextT T a s)).data ++ l) (hs ++ [⟨rl (nextT T a s), (T.node (nextT T a s)).data⟩])
          rw [List.map_append] at this
          exact this
def GoPost (w : World) (R : List HQ) (e : Ending) (w' : World) : Prop := ∃ A c, e = .returned (.slice A R.length c) ∧ R.length ≤ c ∧ Kd.C k75 w' A R.length R ∧ Below w.heap.size w w'
theorem gopost_of {w w3 w4 : World} {R : List HQ} {A9 : Option Addr} {c9 : Nat} (hb : Below w.heap.size w w3) (hl : R.length ≤ c9) (hC : Kd.C k75 w4 A9 R.length R) (hb4 : Below w3.heap.size w3 w4) : GoPost w R (.returned (.slice A9 R.length c9)) w4 := ⟨_, _, rfl, hl, hC, hb.trans (hb4.mono hb.size)⟩
theorem next_of {L : List RN} {last : Int} (h : GoodL L last) (a : Int) (s : ByteArray) : nextT (trOf L last) a s = if (atR L a).f3 ≠ 1 then 0 else if s.toList = [46, 46] then (atR L a).f1 else if Sp.check s.data.toList = 0 then inR L a s else 0 := by
  unfold nextT
  rw [node_of h]
  simp only [find_ents h]
  unfold Sp.right
  simp only [decide_eq_true_eq]
theorem up_live {L : List RN} {last : Int} (h : GoodL L last) {a : Int} (hk : (atR L a).f3 = 1) : (atR L (atR L a).f1).f3 = 1 ∧ (atR L a).f1 ≠ 0 := by
  obtain ⟨r, hr, hra, he⟩ := at_kind (L := L) (n := a) (by rw [hk]; decide)
  rw [he]
  have hu := h.up r hr
  refine ⟨hu, fun e => ?_⟩
  obtain ⟨q, hq, hqa, _⟩ := at_kind (L := L) (n := r.f1) (by rw [hu]; decide)
  have := (h.num q hq).1
  omega
theorem oneQ {w w' : World} {b : Nat} {x : HQ} (h : w'.heap[b]? = w.heap[b]?) (hv : w.heap[b]? = some (.cells #[.string x.f0, .string x.f1] 75 (0, 0))) : Kd.C k75 w' (some ⟨b, 0, none⟩) 1 [x] := by
  have hv := h.trans hv
  refine ⟨rfl, by omega, fun _ => ⟨_, rfl, fun j p hj => ?_⟩⟩
  obtain ⟨hl, rfl⟩ := List.getElem?_eq_some_iff.1 hj
  have : j = 0 := by simp at hl; exact hl
  subst this
  refine ⟨[.string x.f0, .string x.f1], rfl, k75_mk w' x, fun i u hu => ?_⟩
  rw [show (⟨b, 0, none⟩ : Addr).add (0 * k75.sz + i) = ⟨b, i, none⟩ by rw [Addr.add_lit]; congr 1; omega]
  rw [cell_of_row w' b _ _ _ (0, 0) hv]
  simpa using hu
set_option maxHeartbeats 16000000 in
set_option maxRecDepth 1000000 in
theorem rgo_calls {L : List RN} {last : Int} (hG : GoodL L last) (hM : GoodM L) (rl : Int → ByteArray) (lst : Bool) (hreal : ∀ n, (atR L n).f3 = 3 → (rl n).size < 1000000000 ∧ ∃ ok k, linhayref08_Real.f k L last n = some (rl n, ok)) (A : Option Addr) (c : Nat) (hcA : L.length ≤ c) :
    ∀ (k : Nat) (a : Int) (l : List ByteArray) (hs R : List HQ) (A2 : Option Addr) (c2 : Nat) (A3 : Option Addr) (c3 : Nat) (W : World), refF (trOf L last) rl lst k a l hs = some R →
      Kd.C k97 W A L.length L → Kd.C Kd.string W A2 l.length l → l.length ≤ c2 → Kd.C k75 W A3 hs.length hs → hs.length ≤ c3 → (hs.length : Int) ≤ 40 → (l.length : Int) ≤ 100000 + 70000 * hs.length → (∀ s ∈ l, s.size ≤ 65536) →
      Calls Try.prog 77 #[.agg #[.slice A L.length c, .int .i64 last], .int .i64 a, .slice A2 l.length c2, .bool lst, .slice A3 hs.length c3] W (GoPost W R) := by
  intro k
  induction k with
  | zero => intro a l hs R A2 c2 A3 c3 W hR; simp [refF] at hR
  | succ k ih =>
  intro a l hs R A2 c2 A3 c3 W hR hTR hL hc2 hH hc3 h40 hlen hsz
  have hlL : L.length < 4294967296 := by have := hG.len; omega
  have hu28 := Try.underlying28
  have hu97 := Try.underlying97
  have HTR := Lib.hid hTR
  have HH := Lib.hid hH
  have HL := Lib.hid hL
  have HIH := Lib.hid ih
  clear hTR hH ih
  cases l with
  | nil =>
    simp only [refF, Option.some.injEq] at hR
    subst hR
    clear hL HL HIH hsz hreal
    go_enter Try.func77, Try.ntmps77
    go_upto_region 1 with (fail)
    have h1 := heap_alloc_new W (.cells #[.slice A L.length c, .int .i64 last] 28)
    have HB1 := Lib.hid ((Below.refl _ W).alloc (Nat.le_refl _) (.cells #[.slice A L.length c, .int .i64 last] 28))
    generalize W.alloc (.cells #[.slice A L.length c, .int .i64 last] 28) = w1 at h1 HB1 ⊢
    generalize hge : W.heap.size = g at h1 HB1 ⊢
    have HGE := Lib.hid hge
    have HH1 := Lib.hid h1
    have hg1 := blk_lt h1
    have HX := Lib.hid (fun (W' : World) (h : Below w1.heap.size w1 W') => show W'.cell? ⟨g, 0, none⟩ = some (.slice A L.length c) ∧ W'.cell? ⟨g, 1, none⟩ = some (.int .i64 last) by
      have h5 := (h.block _ (blk_lt HH1.out)).trans HH1.out
      exact ⟨by rw [blk_cell h5]; rfl, by rw [blk_cell h5]; rfl⟩)
    have HCT := Lib.hid (fun (W' : World) (h : Below w1.heap.size w1 W') => Kd.C_below (Kd.C_below HTR.out (by rw [HGE.out]; exact HB1.out)) (h.mono (Nat.le_refl _)))
    clear h1 hge
    obtain ⟨x0, x1⟩ := HX.out _ (Below.refl _ _)
    have HHD := Lib.hid (fun (W' : World) (h : Below w1.heap.size w1 W') => Kd.C_below HH.out (by rw [HGE.out]; exact HB1.out.trans (h.mono (by rw [← HGE.out]; exact HB1.out.size))))
    go_wp2
    go_ret
    exact ⟨_, _, rfl, hc3, Kd.C_below HH.out (by rw [HGE.out]; exact HB1.out), by rw [HGE.out]; exact HB1.out⟩
  | cons s l =>
    unfold refF at hR
    rw [next_of hG] at hR
    obtain ⟨ka, hka⟩ := Ev.rounds (r07_at L a last hlL)
    have HAT := Lib.hid (fun W h1 => linhayref07_At.calls ka A c L last a _ _ _ _ _ W h1 hcA hka)
    obtain ⟨ad, eA, xs0⟩ := Kd.at_string hL 0 (by omega) (by simp)
    have e0 : rdOf ByteArray.empty (s :: l) 0 = s := rfl
    rw [e0, show ad.add (0 : Int).toNat = ad from rfl] at xs0
    subst eA
    obtain ⟨A', hcut, hAd, -⟩ := cut1T (some ad) c2 (s :: l) (by simp) hc2
    simp only [List.length_cons] at hcut
    have XS0 := Lib.hid xs0
    simp only [List.length_cons] at hc2
    clear hL e0 xs0 hka
    by_cases hkd : (atR L a).f3 = 1
    · have hlive := up_live hG hkd
      by_cases hdd : s.toList = [46, 46]
      · rw [if_neg (by rw [if_neg (by simpa using hkd), if_pos hdd]; exact hlive.2), if_pos (.inl (by rw [if_neg (by simpa using hkd), if_pos hdd, node_of hG]; show (atR L (atR L a).f1).f3 ≠ 3; rw [hlive.1]; decide)), if_neg (by simpa using hkd), if_pos hdd] at hR
        have HR1 := Lib.hid hR
        have b2 : (s.toList == [46, 46]) = true := by rw [hdd]; rfl
        rw [hkd] at HAT
        generalize (atR L a).f0 = k0 at *
        generalize (atR L a).f1 = k1 at *
        generalize (atR L a).f2 = k2 at *
        generalize (atR L a).f4 = k4 at *
        have HSZ := Lib.hid (show ∀ x ∈ l, x.size ≤ 65536 from fun x hx => hsz x (List.mem_cons_of_mem _ hx))
        have HLE := Lib.hid (show (l.length : Int) ≤ 100000 + 70000 * hs.length by simp only [List.length_cons] at hlen; omega)
        clear hR hreal hkd hdd hlive hsz hlen
        go_enter Try.func77, Try.ntmps77
        go_upto_region 1 with (fail)
        have h1 := heap_alloc_new W (.cells #[.slice A L.length c, .int .i64 last] 28)
        have HB1 := Lib.hid ((Below.refl _ W).alloc (Nat.le_refl _) (.cells #[.slice A L.length c, .int .i64 last] 28))
        generalize W.alloc (.cells #[.slice A L.length c, .int .i64 last] 28) = w1 at h1 HB1 ⊢
        generalize hge : W.heap.size = g at h1 HB1 ⊢
        have HGE := Lib.hid hge
        have HH1 := Lib.hid h1
        have hg1 := blk_lt h1
        have HX := Lib.hid (fun (W' : World) (h : Below w1.heap.size w1 W') => show W'.cell? ⟨g, 0, none⟩ = some (.slice A L.length c) ∧ W'.cell? ⟨g, 1, none⟩ = some (.int .i64 last) by
          have h5 := (h.block _ (blk_lt HH1.out)).trans HH1.out
          exact ⟨by rw [blk_cell h5]; rfl, by rw [blk_cell h5]; rfl⟩)
        have HCT := Lib.hid (fun (W' : World) (h : Below w1.heap.size w1 W') => Kd.C_below (Kd.C_below HTR.out (by rw [HGE.out]; exact HB1.out)) (h.mono (Nat.le_refl _)))
        clear h1 hge
        obtain ⟨x0, x1⟩ := HX.out _ (Below.refl _ _)
        have HHD := Lib.hid (fun (W' : World) (h : Below w1.heap.size w1 W') => Kd.C_below HH.out (by rw [HGE.out]; exact HB1.out.trans (h.mono (by rw [← HGE.out]; exact HB1.out.size))))
        have HLD := Lib.hid (fun (W' : World) (h : Below w1.heap.size w1 W') => hAd W' (Kd.C_below HL.out (by rw [HGE.out]; exact HB1.out.trans (h.mono (by rw [← HGE.out]; exact HB1.out.size)))))
        go_upto_region 3 with (go_at_call 49; refine (HAT.out _ (HCT.out _ (Below.refl _ _))).mono ?_; rintro e w2 ⟨rfl, hb2⟩)
        have xs2 := pw_cell_below (w := W) (by rw [HGE.out]; exact HB1.out.trans (hb2.mono (by rw [← HGE.out]; exact HB1.out.size))) XS0.out
        obtain ⟨z0, z1⟩ := HX.out _ hb2
        have HB2 := Lib.hid hb2
        clear x0 x1 hb2
        go_upto_region 4 with (fail)
        go_region_held3 (fun w' => w'.cell? ⟨g, 0, none⟩ = some (.slice A L.length c) ∧ w'.cell? ⟨g, 1, none⟩ = some (.int .i64 last)) (first | (go_keep; done) | exact HX.out _ HB3.out | exact HX.out _ (HB3.out.trans (hb4.mono HB3.out.size)))
          (first | (go_at_call 49; refine (HAT.out _ (by first | exact HCT.out _ HB2.out | exact HCT.out _ (below_drew HB2.out))).mono ?_; rintro e w3 ⟨rfl, hb3⟩; have HB3 : Hid (Below w1.heap.size w1 w3) := Lib.hid (by first | exact HB2.out.trans (hb3.mono HB2.out.size) | exact (below_drew HB2.out).trans (hb3.mono HB2.out.size)); clear hb3) | (go_at_call 77; refine (HIH.out _ _ _ _ _ _ _ _ _ HR1.out (HCT.out _ HB3.out) (HLD.out _ HB3.out) (by omega) (HHD.out _ HB3.out) hc3 h40 HLE.out HSZ.out).mono ?_; rintro e w4 ⟨A9, c9, rfl, hl9, hC9, hb4⟩))
        go_wp2
        go_ret
        exact gopost_of (by rw [HGE.out]; exact HB1.out.trans (HB3.out.mono (by rw [← HGE.out]; exact HB1.out.size))) hl9 hC9 hb4
      · have b2 : (s.toList == [46, 46]) = false := by simpa using hdd
        obtain ⟨kc, hkc⟩ := Ev.rounds (r03_check s)
        have HCK := Lib.hid (fun W => linhayref03_Check.calls kc s _ W hkc)
        obtain ⟨ki, hki⟩ := Ev.rounds (r07_in L a last s hlL)
        have HIN := Lib.hid (fun W h1 => linhayref07_In.calls ki A c L last a s _ W h1 hcA hki)
        obtain ⟨kb, hkb⟩ := Ev.rounds (r07_at L (inR L a s) last hlL)
        have HAN := Lib.hid (fun W h1 => linhayref07_At.calls kb A c L last (inR L a s) _ _ _ _ _ W h1 hcA hkb)
        have hnx : (if (atR L a).f3 ≠ 1 then 0 else if s.toList = [46, 46] then (atR L a).f1 else if Sp.check s.data.toList = 0 then inR L a s else 0) = if Sp.check s.data.toList = 0 then inR L a s else 0 := by rw [if_neg (by simpa using hkd), if_neg hdd]
        rw [hnx] at hR
        have HSZ := Lib.hid (show ∀ x ∈ l, x.size ≤ 65536 from fun x hx => hsz x (List.mem_cons_of_mem _ hx))
        have HLE := Lib.hid (show (l.length : Int) ≤ 100000 + 70000 * hs.length by simp only [List.length_cons] at hlen; omega)
        rw [hkd] at HAT
        generalize (atR L a).f0 = k0 at *
        generalize (atR L a).f1 = k1 at *
        generalize (atR L a).f2 = k2 at *
        generalize (atR L a).f4 = k4 at *
        simp only [List.length_cons] at hlen
        clear hlive hdd hnx hkc hki hkb hsz hkd
        by_cases hck : Sp.check s.data.toList = 0
        · rw [if_pos hck] at hR
          rw [hck] at HCK
          clear hck
          have HREAL := Lib.hid (hreal (inR L a s))
          have HLK := Lib.hid (hM.link)
          have hn97 := node_of hG (inR L a s)
          rw [hn97] at hR
          simp only [] at hR
          have HAR := Lib.hid (show atR L (inR L a s) = atR L (inR L a s) from rfl)
          generalize inR L a s = n at *
          by_cases hn : n = 0
          · subst hn
            rw [if_pos rfl] at hR
            have hR := Option.some.inj hR
            subst hR
            generalize (atR L 0).f0 = m0 at *
            generalize (atR L 0).f1 = m1 at *
            generalize (atR L 0).f2 = m2 at *
            generalize (atR L 0).f3 = m3 at *
            generalize (atR L 0).f4 = m4 at *
            clear HIH HREAL HLK hn97 HAR hreal
            go_enter Try.func77, Try.ntmps77
            go_upto_region 1 with (fail)
            have h1 := heap_alloc_new W (.cells #[.slice A L.length c, .int .i64 last] 28)
            have HB1 := Lib.hid ((Below.refl _ W).alloc (Nat.le_refl _) (.cells #[.slice A L.length c, .int .i64 last] 28))
            generalize W.alloc (.cells #[.slice A L.length c, .int .i64 last] 28) = w1 at h1 HB1 ⊢
            generalize hge : W.heap.size = g at h1 HB1 ⊢
            have HGE := Lib.hid hge
            have HH1 := Lib.hid h1
            have hg1 := blk_lt h1
            have HX := Lib.hid (fun (W' : World) (h : Below w1.heap.size w1 W') => show W'.cell? ⟨g, 0, none⟩ = some (.slice A L.length c) ∧ W'.cell? ⟨g, 1, none⟩ = some (.int .i64 last) by
              have h5 := (h.block _ (blk_lt HH1.out)).trans HH1.out
              exact ⟨by rw [blk_cell h5]; rfl, by rw [blk_cell h5]; rfl⟩)
            have HCT := Lib.hid (fun (W' : World) (h : Below w1.heap.size w1 W') => Kd.C_below (Kd.C_below HTR.out (by rw [HGE.out]; exact HB1.out)) (h.mono (Nat.le_refl _)))
            clear h1 hge
            obtain ⟨x0, x1⟩ := HX.out _ (Below.refl _ _)
            have HHD := Lib.hid (fun (W' : World) (h : Below w1.heap.size w1 W') => Kd.C_below HH.out (by rw [HGE.out]; exact HB1.out.trans (h.mono (by rw [← HGE.out]; exact HB1.out.size))))
            have HLD := Lib.hid (fun (W' : World) (h : Below w1.heap.size w1 W') => hAd W' (Kd.C_below HL.out (by rw [HGE.out]; exact HB1.out.trans (h.mono (by rw [← HGE.out]; exact HB1.out.size)))))
            have HXS := Lib.hid (fun (W' : World) (h : Below w1.heap.size w1 W') => pw_cell_below (w := W) (by rw [HGE.out]; exact HB1.out.trans (h.mono (by rw [← HGE.out]; exact HB1.out.size))) XS0.out)
            go_upto_region 3 with (go_at_call 49; refine (HAT.out _ (HCT.out _ (Below.refl _ _))).mono ?_; rintro e w2 ⟨rfl, hb2⟩)
            have xs2 := HXS.out _ hb2
            obtain ⟨z0, z1⟩ := HX.out _ hb2
            have HB2 := Lib.hid hb2
            clear x0 x1 hb2
            go_upto_region 5 with (fail)
            go_region_held3 (fun w' => w'.cell? ⟨g, 0, none⟩ = some (.slice A L.length c) ∧ w'.cell? ⟨g, 1, none⟩ = some (.int .i64 last) ∧ w'.cell? ad = some (.string s)) (first | (go_keep; done) | exact ⟨(HX.out _ HB3.out).1, (HX.out _ HB3.out).2, HXS.out _ HB3.out⟩)
              ((go_at_call 70; refine (HIN.out _ (by first | exact HCT.out _ HB2.out | exact HCT.out _ (below_drew HB2.out))).mono ?_; rintro e w3 ⟨rfl, hb3⟩; have HB3 : Hid (Below w1.heap.size w1 w3) := Lib.hid (by first | exact HB2.out.trans (hb3.mono HB2.out.size) | exact (below_drew HB2.out).trans (hb3.mono HB2.out.size)); clear hb3))
            clear z0 z1 xs2
            obtain ⟨z0, z1⟩ := HX.out _ HB3.out
            go_upto_region 7 with (go_at_call 49; refine (HAN.out _ (HCT.out _ HB3.out)).mono ?_; rintro e w4 ⟨rfl, hb4⟩; have HB4 := Lib.hid (HB3.out.trans (hb4.mono HB3.out.size)); clear hb4)
            have h5 := heap_alloc_new w4 (.cells #[.int .i64 m0, .int .i64 m1, .string m2, .int .i64 m3, .string m4] 97)
            have HB5 := Lib.hid (HB4.out.alloc HB4.out.size (.cells #[.int .i64 m0, .int .i64 m1, .string m2, .int .i64 m3, .string m4] 97))
            generalize w4.alloc (.cells #[.int .i64 m0, .int .i64 m1, .string m2, .int .i64 m3, .string m4] 97) = w5 at h5 HB5 ⊢
            generalize w4.heap.size = g5 at h5 ⊢
            have H5 := Lib.hid h5
            have xs5 := HXS.out _ HB5.out
            clear h5 z0 z1
            go_wp2_with (go_at_call 64; refine (HCK.out _).mono ?_; rintro e w6 ⟨rfl, hd6⟩; have HB6 := Lib.hid (HB5.out.trans (hd6.below.mono HB5.out.size)); clear hd6)
            go_ret
            have hb : Below g W w6 := HB1.out.trans (HB6.out.mono (by rw [← HGE.out]; exact HB1.out.size))
            exact ⟨_, _, rfl, hc3, Kd.C_below HH.out (by rw [HGE.out]; exact hb), by rw [HGE.out]; exact hb⟩
          · rw [if_neg hn] at hR
            have bn : (n == 0) = false := beq_eq_false_iff_ne.2 hn
            clear hn hn97
            by_cases hk3 : (atR L n).f3 = 3
            · by_cases hlast : l = [] ∧ lst = false
              · rw [if_pos (.inr hlast)] at hR
                have HR1 := Lib.hid hR
                obtain ⟨hl0, hl1⟩ := hlast
                have b6 : ((l.length : Int) + 1 == 1) = true := by rw [hl0]; rfl
                subst hl1
                clear hl0
                rw [hk3] at HAN
                clear hR HREAL HLK hk3 HAR hreal
                generalize (atR L n).f0 = m0 at *
                generalize (atR L n).f1 = m1 at *
                generalize (atR L n).f2 = m2 at *
                generalize (atR L n).f4 = m4 at *
                go_enter Try.func77, Try.ntmps77
                go_upto_region 1 with (fail)
                have h1 := heap_alloc_new W (.cells #[.slice A L.length c, .int .i64 last] 28)
                have HB1 := Lib.hid ((Below.refl _ W).alloc (Nat.le_refl _) (.cells #[.slice A L.length c, .int .i64 last] 28))
                generalize W.alloc (.cells #[.slice A L.length c, .int .i64 last] 28) = w1 at h1 HB1 ⊢
                generalize hge : W.heap.size = g at h1 HB1 ⊢
                have HGE := Lib.hid hge
                have HH1 := Lib.hid h1
                have hg1 := blk_lt h1
                have HX := Lib.hid (fun (W' : World) (h : Below w1.heap.size w1 W') => show W'.cell? ⟨g, 0, none⟩ = some (.slice A L.length c) ∧ W'.cell? ⟨g, 1, none⟩ = some (.int .i64 last) by
                  have h5 := (h.block _ (blk_lt HH1.out)).trans HH1.out
                  exact ⟨by rw [blk_cell h5]; rfl, by rw [blk_cell h5]; rfl⟩)
                have HCT := Lib.hid (fun (W' : World) (h : Below w1.heap.size w1 W') => Kd.C_below (Kd.C_below HTR.out (by rw [HGE.out]; exact HB1.out)) (h.mono (Nat.le_refl _)))
                clear h1 hge
                obtain ⟨x0, x1⟩ := HX.out _ (Below.refl _ _)
                have HHD := Lib.hid (fun (W' : World) (h : Below w1.heap.size w1 W') => Kd.C_below HH.out (by rw [HGE.out]; exact HB1.out.trans (h.mono (by rw [← HGE.out]; exact HB1.out.size))))
                have HLD := Lib.hid (fun (W' : World) (h : Below w1.heap.size w1 W') => hAd W' (Kd.C_below HL.out (by rw [HGE.out]; exact HB1.out.trans (h.mono (by rw [← HGE.out]; exact HB1.out.size)))))
                have HXS := Lib.hid (fun (W' : World) (h : Below w1.heap.size w1 W') => pw_cell_below (w := W) (by rw [HGE.out]; exact HB1.out.trans (h.mono (by rw [← HGE.out]; exact HB1.out.size))) XS0.out)
                go_upto_region 3 with (go_at_call 49; refine (HAT.out _ (HCT.out _ (Below.refl _ _))).mono ?_; rintro e w2 ⟨rfl, hb2⟩)
                have xs2 := HXS.out _ hb2
                obtain ⟨z0, z1⟩ := HX.out _ hb2
                have HB2 := Lib.hid hb2
                clear x0 x1 hb2
                go_upto_region 5 with (fail)
                go_region_held3 (fun w' => w'.cell? ⟨g, 0, none⟩ = some (.slice A L.length c) ∧ w'.cell? ⟨g, 1, none⟩ = some (.int .i64 last) ∧ w'.cell? ad = some (.string s)) (first | (go_keep; done) | exact ⟨(HX.out _ HB3.out).1, (HX.out _ HB3.out).2, HXS.out _ HB3.out⟩)
                  ((go_at_call 70; refine (HIN.out _ (by first | exact HCT.out _ HB2.out | exact HCT.out _ (below_drew HB2.out))).mono ?_; rintro e w3 ⟨rfl, hb3⟩; have HB3 : Hid (Below w1.heap.size w1 w3) := Lib.hid (by first | exact HB2.out.trans (hb3.mono HB2.out.size) | exact (below_drew HB2.out).trans (hb3.mono HB2.out.size)); clear hb3))
                clear z0 z1 xs2
                obtain ⟨z0, z1⟩ := HX.out _ HB3.out
                go_upto_region 7 with (go_at_call 49; refine (HAN.out _ (HCT.out _ HB3.out)).mono ?_; rintro e w4 ⟨rfl, hb4⟩; have HB4 := Lib.hid (HB3.out.trans (hb4.mono HB3.out.size)); clear hb4)
                have h5 := heap_alloc_new w4 (.cells #[.int .i64 m0, .int .i64 m1, .string m2, .int .i64 3, .string m4] 97)
                have HB5 := Lib.hid (HB4.out.alloc HB4.out.size (.cells #[.int .i64 m0, .int .i64 m1, .string m2, .int .i64 3, .string m4] 97))
                generalize w4.alloc (.cells #[.int .i64 m0, .int .i64 m1, .string m2, .int .i64 3, .string m4] 97) = w5 at h5 HB5 ⊢
                generalize w4.heap.size = g5 at h5 ⊢
                have H5 := Lib.hid h5
                have xs5 := HXS.out _ HB5.out
                clear h5 z0 z1
                go_upto_region 9 with (go_at_call 64; refine (HCK.out _).mono ?_; rintro e w6 ⟨rfl, hd6⟩; have HB6 := Lib.hid (HB5.out.trans (hd6.below.mono HB5.out.size)); have H6 := Lib.hid ((hd6.below.block _ (blk_lt H5.out)).trans H5.out); clear hd6)
                have y3 : w6.cell? ⟨g5, 3, none⟩ = some (.int .i64 3) := by rw [blk_cell H6.out]; rfl
                obtain ⟨z0, z1⟩ := HX.out _ HB6.out
                go_upto_region 10 with (fail)
                go_region_held3 (fun w' => w'.cell? ⟨g, 0, none⟩ = some (.slice A L.length c) ∧ w'.cell? ⟨g, 1, none⟩ = some (.int .i64 last)) (first | (go_keep; done) | exact HX.out _ (HB6.out.trans (hb7.mono HB6.out.size)) | exact HX.out _ ((below_drew HB6.out).trans (hb7.mono HB6.out.size)))
                  ((go_at_call 77; refine (HIH.out _ _ _ _ _ _ _ _ _ HR1.out (HCT.out _ (by first | exact HB6.out | exact below_drew HB6.out)) (HLD.out _ (by first | exact HB6.out | exact below_drew HB6.out)) (by omega) (HHD.out _ (by first | exact HB6.out | exact below_drew HB6.out)) hc3 h40 HLE.out HSZ.out).mono ?_; rintro e w7 ⟨A9, c9, rfl, hl9, hC9, hb7⟩))
                go_wp2
                go_ret
                exact gopost_of (w3 := w6.drew) (by rw [HGE.out]; exact HB1.out.trans ((below_drew HB6.out).mono (by rw [← HGE.out]; exact HB1.out.size))) hl9 hC9 hb7
              · rw [if_neg (by rintro (h | h); exact h hk3; exact hlast h)] at hR
                obtain ⟨q, hq, hqn, hqa⟩ := at_kind (L := L) (n := n) (by rw [hk3]; decide)
                have hpos : 0 < (atR L n).f4.size := by rw [hqa] at hk3 ⊢; exact HLK.out q hq hk3
                have hdz := hG.data q hq
                rw [← hqa] at hdz
                obtain ⟨hrz, rok, kr, hkr⟩ := HREAL.out hk3
                have HRE := Lib.hid (fun W h1 => linhayref08_Real.calls kr A c L last n _ _ W h1 hcA hkr)
                obtain ⟨kp, hkp⟩ := Ev.rounds (r04_parts (atR L n).f4 (by omega))
                have HPT := Lib.hid (fun W => linhayref04_Parts.calls kp (atR L n).f4 (partsB (atR L n).f4) W hkp)
                have hpl := partsB_len' (atR L n).f4
                have hpz := partsB_sz (atR L n).f4
                have hsb := slash_bt hpos
                rw [hk3] at HAN
                have HNS := Lib.hid hsb
                clear hk3 HAR hreal HREAL HLK hq hqn hqa hkr hkp hsb
                generalize (atR L n).f0 = m0 at *
                generalize (atR L n).f1 = m1 at *
                generalize (atR L n).f2 = m2 at *
                generalize (atR L n).f4 = m4 at *
                generalize rl n = rs at *
                have HLL := Lib.hid hlen
                by_cases hl0 : l = []
                · have hl1 : lst = true := by
                    cases lst with
                    | true => rfl
                    | false => exact absurd ⟨hl0, rfl⟩ hlast
                  have b6 : ((l.length : Int) + 1 == 1) = true := by rw [hl0]; rfl
                  subst hl1
                  clear hlast hl0
                  by_cases hfull : hs.length = 40
                  · rw [if_pos hfull] at hR
                    have hR := Option.some.inj hR
                    subst hR
                    have bf : ((hs.length : Int) == 40) = true := by rw [hfull]; rfl
                    clear hfull HRE HPT HNS HIH
                    go_enter Try.func77, Try.ntmps77
                    go_upto_region 1 with (fail)
                    have h1 := heap_alloc_new W (.cells #[.slice A L.length c, .int .i64 last] 28)
                    have HB1 := Lib.hid ((Below.refl _ W).alloc (Nat.le_refl _) (.cells #[.slice A L.length c, .int .i64 last] 28))
                    generalize W.alloc (.cells #[.slice A L.length c, .int .i64 last] 28) = w1 at h1 HB1 ⊢
                    generalize hge : W.heap.size = g at h1 HB1 ⊢
                    have HGE := Lib.hid hge
                    have HH1 := Lib.hid h1
                    have hg1 := blk_lt h1
                    have HX := Lib.hid (fun (W' : World) (h : Below w1.heap.size w1 W') => show W'.cell? ⟨g, 0, none⟩ = some (.slice A L.length c) ∧ W'.cell? ⟨g, 1, none⟩ = some (.int .i64 last) by
                      have h5 := (h.block _ (blk_lt HH1.out)).trans HH1.out
                      exact ⟨by rw [blk_cell h5]; rfl, by rw [blk_cell h5]; rfl⟩)
                    have HCT := Lib.hid (fun (W' : World) (h : Below w1.heap.size w1 W') => Kd.C_below (Kd.C_below HTR.out (by rw [HGE.out]; exact HB1.out)) (h.mono (Nat.le_refl _)))
                    clear h1 hge
                    obtain ⟨x0, x1⟩ := HX.out _ (Below.refl _ _)
                    have HHD := Lib.hid (fun (W' : World) (h : Below w1.heap.size w1 W') => Kd.C_below HH.out (by rw [HGE.out]; exact HB1.out.trans (h.mono (by rw [← HGE.out]; exact HB1.out.size))))
                    have HLD := Lib.hid (fun (W' : World) (h : Below w1.heap.size w1 W') => hAd W' (Kd.C_below HL.out (by rw [HGE.out]; exact HB1.out.trans (h.mono (by rw [← HGE.out]; exact HB1.out.size)))))
                    have HXS := Lib.hid (fun (W' : World) (h : Below w1.heap.size w1 W') => pw_cell_below (w := W) (by rw [HGE.out]; exact HB1.out.trans (h.mono (by rw [← HGE.out]; exact HB1.out.size))) XS0.out)
                    go_upto_region 3 with (go_at_call 49; refine (HAT.out _ (HCT.out _ (Below.refl _ _))).mono ?_; rintro e w2 ⟨rfl, hb2⟩)
                    have xs2 := HXS.out _ hb2
                    obtain ⟨z0, z1⟩ := HX.out _ hb2
                    have HB2 := Lib.hid hb2
                    clear x0 x1 hb2
                    go_upto_region 5 with (fail)
                    go_region_held3 (fun w' => w'.cell? ⟨g, 0, none⟩ = some (.slice A L.length c) ∧ w'.cell? ⟨g, 1, none⟩ = some (.int .i64 last) ∧ w'.cell? ad = some (.string s)) (first | (go_keep; done) | exact ⟨(HX.out _ HB3.out).1, (HX.out _ HB3.out).2, HXS.out _ HB3.out⟩)
                      ((go_at_call 70; refine (HIN.out _ (by first | exact HCT.out _ HB2.out | exact HCT.out _ (below_drew HB2.out))).mono ?_; rintro e w3 ⟨rfl, hb3⟩; have HB3 : Hid (Below w1.heap.size w1 w3) := Lib.hid (by first | exact HB2.out.trans (hb3.mono HB2.out.size) | exact (below_drew HB2.out).trans (hb3.mono HB2.out.size)); clear hb3))
                    clear z0 z1 xs2
                    obtain ⟨z0, z1⟩ := HX.out _ HB3.out
                    go_upto_region 7 with (go_at_call 49; refine (HAN.out _ (HCT.out _ HB3.out)).mono ?_; rintro e w4 ⟨rfl, hb4⟩; have HB4 := Lib.hid (HB3.out.trans (hb4.mono HB3.out.size)); clear hb4)
                    have h5 := heap_alloc_new w4 (.cells #[.int .i64 m0, .int .i64 m1, .string m2, .int .i64 3, .string m4] 97)
                    have HB5 := Lib.hid (HB4.out.alloc HB4.out.size (.cells #[.int .i64 m0, .int .i64 m1, .string m2, .int .i64 3, .string m4] 97))
                    generalize w4.alloc (.cells #[.int .i64 m0, .int .i64 m1, .string m2, .int .i64 3, .string m4] 97) = w5 at h5 HB5 ⊢
                    generalize w4.heap.size = g5 at h5 ⊢
                    have H5 := Lib.hid h5
                    have xs5 := HXS.out _ HB5.out
                    clear h5 z0 z1
                    go_upto_region 9 with (go_at_call 64; refine (HCK.out _).mono ?_; rintro e w6 ⟨rfl, hd6⟩; have HB6 := Lib.hid (HB5.out.trans (hd6.below.mono HB5.out.size)); have H6 := Lib.hid ((hd6.below.block _ (blk_lt H5.out)).trans H5.out); clear hd6)
                    have y3 : w6.cell? ⟨g5, 3, none⟩ = some (.int .i64 3) := by rw [blk_cell H6.out]; rfl
                    go_wp2
                    go_ret
                    have hb : Below g W w6 := HB1.out.trans (HB6.out.mono (by rw [← HGE.out]; exact HB1.out.size))
                    exact ⟨_, _, rfl, hc3, Kd.C_below HH.out (by rw [HGE.out]; exact hb), by rw [HGE.out]; exact hb⟩
                  · rw [if_neg hfull] at hR
                    have bf : ((hs.length : Int) == 40) = false := beq_eq_false_iff_ne.2 (by omega)
                    have HR1 := Lib.hid hR
                    have H39 := Lib.hid (show hs.length < 40 by omega)
                    clear hR hfull
                    go_enter Try.func77, Try.ntmps77
                    go_upto_region 1 with (fail)
                    have h1 := heap_alloc_new W (.cells #[.slice A L.length c, .int .i64 last] 28)
                    have HB1 := Lib.hid ((Below.refl _ W).alloc (Nat.le_refl _) (.cells #[.slice A L.length c, .int .i64 last] 28))
                    generalize W.alloc (.cells #[.slice A L.length c, .int .i64 last] 28) = w1 at h1 HB1 ⊢
                    generalize hge : W.heap.size = g at h1 HB1 ⊢
                    have HGE := Lib.hid hge
                    have HH1 := Lib.hid h1
                    have hg1 := blk_lt h1
                    have HX := Lib.hid (fun (W' : World) (h : Below w1.heap.size w1 W') => show W'.cell? ⟨g, 0, none⟩ = some (.slice A L.length c) ∧ W'.cell? ⟨g, 1, none⟩ = some (.int .i64 last) by
                      have h5 := (h.block _ (blk_lt HH1.out)).trans HH1.out
                      exact ⟨by rw [blk_cell h5]; rfl, by rw [blk_cell h5]; rfl⟩)
                    have HCT := Lib.hid (fun (W' : World) (h : Below w1.heap.size w1 W') => Kd.C_below (Kd.C_below HTR.out (by rw [HGE.out]; exact HB1.out)) (h.mono (Nat.le_refl _)))
                    clear h1 hge
                    obtain ⟨x0, x1⟩ := HX.out _ (Below.refl _ _)
                    have HHD := Lib.hid (fun (W' : World) (h : Below w1.heap.size w1 W') => Kd.C_below HH.out (by rw [HGE.out]; exact HB1.out.trans (h.mono (by rw [← HGE.out]; exact HB1.out.size))))
                    have HLD := Lib.hid (fun (W' : World) (h : Below w1.heap.size w1 W') => hAd W' (Kd.C_below HL.out (by rw [HGE.out]; exact HB1.out.trans (h.mono (by rw [← HGE.out]; exact HB1.out.size)))))
                    have HXS := Lib.hid (fun (W' : World) (h : Below w1.heap.size w1 W') => pw_cell_below (w := W) (by rw [HGE.out]; exact HB1.out.trans (h.mono (by rw [← HGE.out]; exact HB1.out.size))) XS0.out)
                    go_upto_region 3 with (go_at_call 49; refine (HAT.out _ (HCT.out _ (Below.refl _ _))).mono ?_; rintro e w2 ⟨rfl, hb2⟩)
                    have xs2 := HXS.out _ hb2
                    obtain ⟨z0, z1⟩ := HX.out _ hb2
                    have HB2 := Lib.hid hb2
                    clear x0 x1 hb2
                    go_upto_region 5 with (fail)
                    go_region_held3 (fun w' => w'.cell? ⟨g, 0, none⟩ = some (.slice A L.length c) ∧ w'.cell? ⟨g, 1, none⟩ = some (.int .i64 last) ∧ w'.cell? ad = some (.string s)) (first | (go_keep; done) | exact ⟨(HX.out _ HB3.out).1, (HX.out _ HB3.out).2, HXS.out _ HB3.out⟩)
                      ((go_at_call 70; refine (HIN.out _ (by first | exact HCT.out _ HB2.out | exact HCT.out _ (below_drew HB2.out))).mono ?_; rintro e w3 ⟨rfl, hb3⟩; have HB3 : Hid (Below w1.heap.size w1 w3) := Lib.hid (by first | exact HB2.out.trans (hb3.mono HB2.out.size) | exact (below_drew HB2.out).trans (hb3.mono HB2.out.size)); clear hb3))
                    clear z0 z1 xs2
                    obtain ⟨z0, z1⟩ := HX.out _ HB3.out
                    go_upto_region 7 with (go_at_call 49; refine (HAN.out _ (HCT.out _ HB3.out)).mono ?_; rintro e w4 ⟨rfl, hb4⟩; have HB4 := Lib.hid (HB3.out.trans (hb4.mono HB3.out.size)); clear hb4)
                    have h5 := heap_alloc_new w4 (.cells #[.int .i64 m0, .int .i64 m1, .string m2, .int .i64 3, .string m4] 97)
                    have HB5 := Lib.hid (HB4.out.alloc HB4.out.size (.cells #[.int .i64 m0, .int .i64 m1, .string m2, .int .i64 3, .string m4] 97))
                    generalize w4.alloc (.cells #[.int .i64 m0, .int .i64 m1, .string m2, .int .i64 3, .string m4] 97) = w5 at h5 HB5 ⊢
                    generalize w4.heap.size = g5 at h5 ⊢
                    have H5 := Lib.hid h5
                    have xs5 := HXS.out _ HB5.out
                    clear h5 z0 z1
                    go_upto_region 9 with (go_at_call 64; refine (HCK.out _).mono ?_; rintro e w6 ⟨rfl, hd6⟩; have HB6 := Lib.hid (HB5.out.trans (hd6.below.mono HB5.out.size)); have H6 := Lib.hid ((hd6.below.block _ (blk_lt H5.out)).trans H5.out); clear hd6)
                    have y3 : w6.cell? ⟨g5, 3, none⟩ = some (.int .i64 3) := by rw [blk_cell H6.out]; rfl
                    obtain ⟨z0, z1⟩ := HX.out _ HB6.out
                    go_upto_region 14 with (go_at_call 29; refine (HRE.out _ (HCT.out _ HB6.out)).mono ?_; rintro e w7 ⟨rfl, hb7⟩; have HB7 := Lib.hid (HB6.out.trans (hb7.mono HB6.out.size)); have H7 := Lib.hid ((hb7.block _ (blk_lt H6.out)).trans H6.out); clear hb7)
                    clear y3 z0 z1
                    have y4 : w7.cell? ⟨g5, 4, none⟩ = some (.string m4) := by rw [blk_cell H7.out]; rfl
                    have h0m : (0 : Int) < (m4.size : Int) := by omega
                    go_wp2
                    all_goals rename_i hsq K0 HK0
                    all_goals have HR2 := Aside0.mk (show ∃ a', a' = (if slashB m4 = true then (1 : Int) else a) from ⟨_, rfl⟩)
                    all_goals first
                      | (have hsl : slashB m4 = true := HNS.out.2 ((bt_at m4 0 hpos).symm.trans (beq_iff_eq.1 hsq))
                         rw [if_pos hsl] at HR1)
                      | (have hsl : ¬ slashB m4 = true := fun e => (beq_eq_false_iff_ne.1 hsq) ((bt_at m4 0 hpos).trans (HNS.out.1 e))
                         rw [if_neg hsl] at HR1)
                    all_goals clear hsq hsl HNS
                    all_goals obtain ⟨ql, HQL⟩ : ∃ ql, Hid (ql = partsB m4 ++ l) := ⟨_, Lib.hid rfl⟩
                    all_goals obtain ⟨hq, HHQ⟩ : ∃ hq : List HQ, Hid (hq = hs ++ [⟨rs, m4⟩]) := ⟨_, Lib.hid rfl⟩
                    all_goals rw [← HQL.out, ← HHQ.out] at HR1
                    all_goals have HC1 := Lib.hid (show hq.length = hs.length + 1 by rw [HHQ.out, List.length_append]; rfl)
                    all_goals have HC2 := Lib.hid (show (ql.length : Int) ≤ 100000 + 70000 * hq.length by rw [HC1.out, HQL.out, List.length_append]; have := HLE.out; omega)
                    all_goals have HC3 := Lib.hid (show ∀ x ∈ ql, x.size ≤ 65536 from fun x hx => by rw [HQL.out] at hx; rcases List.mem_append.1 hx with h | h; exact Nat.le_trans (hpz x h) hdz; exact HSZ.out x h)
                    all_goals have HLD2 := Lib.hid (fun (W' : World) (h : Below w1.heap.size w1 W') => show Kd.C Kd.string W' A' l.length l from HLD.out W' h)
                    all_goals have hcut' : ∀ W : World, (Instr.slice 42 (.slice (some ad) (l.length + 1) c2) (some (.int .i64 1)) none none).run Try.prog W = .ok (.slice A' l.length (c2 - 1)) W := hcut
                    all_goals clear hcut HLD
                    all_goals have HLS := Lib.hid (show ((partsB m4).length + l.length) * 16 ≤ 140737488355328 by have := HLE.out; have := H39.out; omega)
                    all_goals have HLH := Lib.hid (show (hs.length + 1) * 32 ≤ 140737488355328 by have := H39.out; omega)
                    all_goals clear hpl hpz hrz hdz h0m
                    all_goals go_region_law (first | (refine Kd.R_append_rows_step Kd.string (w0 := w8) w8.heap.size (by simp [Region.wanted]) (.const (.slice none 0 0)) (.tmp 95) 42 9 (.string ⟨#[]⟩) 16 rfl Try.underlying42 infoS rfl (by decide) (by omega) _ [] (partsB m4) A8 (partsB m4).length c8 (fun _ => True) (fun _ => False) (by rfl) (by rfl) (Kd.R_nil _ _ _ _ _) HC8.out (fun _ _ h => h) (fun _ h => h.elim) (fun _ _ => trivial) (Below.refl _ _) (Nat.le_refl _) (by have := HLS.out; simp; omega) ?_; intro v9 w9 ho9 hb9 hg9 hat9; have HB9 := Lib.hid (HB8.out.trans (hb9.mono HB8.out.size)); have HO9 := Lib.hid ho9; have Hb9 := Lib.hid hb9; clear ho9 hg9 hat9) | (refine Kd.R_append_rows_step Kd.string (w0 := w8) w8.heap.size (by simp [Region.wanted]) (.tmp 96) (.tmp 98) 42 9 (.string ⟨#[]⟩) 16 rfl Try.underlying42 infoS rfl (by decide) (by omega) v9 ([] ++ partsB m4) l A' l.length (c2 - 1) (fun _ => True) (fun _ => False) (by rfl) (by rfl) HO9.out (HLD2.out _ HB9.out) (fun _ _ h => h) (fun _ h => h.elim) (fun _ _ => trivial) Hb9.out Hb9.out.size (by have := HLS.out; simp; omega) ?_; intro v10 w10 ho10 hb10 hg10 hat10; obtain ⟨A10, c10, rfl, hl10, hC10⟩ := Kd.R_reads (show Kd.R Kd.string 9 w10 w8.heap.size (fun _ => True) v10 ql by rw [HQL.out]; exact ho10); have HB10 := Lib.hid (HB8.out.trans (hb10.mono HB8.out.size)); have H10 := Lib.hid ((hb10.block _ (blk_lt H8.out)).trans H8.out); have HL10 := Lib.hid hl10; have HC10 := Lib.hid hC10; clear ho10 hb10 hg10 hat10 hl10 hC10) | (go_simp; go_at_call 61; refine (HPT.out _).mono ?_; rintro e w8 ⟨v8, rfl, ho8, hb8⟩; obtain ⟨A8, c8, rfl, hl8, hC8⟩ := Kd.R_reads ho8; have HB8 := Lib.hid ((below_drew HB7.out).trans (hb8.mono (below_drew HB7.out).size)); have H8 := Lib.hid ((hb8.block _ (blk_lt H7.out)).trans H7.out); have HC8 := Lib.hid hC8; clear ho8 hb8 hC8))
                    all_goals clear y4 H7 HB7 hl8 xs5 H6 HB6 H5 HB5 HB4 HB3 HRE HPT HAN HCK HIN HAT HXS HLD2 hcut'
                    all_goals go_wp2
                    all_goals obtain ⟨z0, z1⟩ := HX.out _ HB10.out
                    all_goals have y4 : w10.cell? ⟨g5, 4, none⟩ = some (.string m4) := by rw [blk_cell H10.out]; rfl
                    all_goals have hg10 := blk_lt H10.out
                    all_goals have hgg := Nat.lt_of_lt_of_le hg1 HB10.out.size
                    all_goals obtain ⟨zC, zD⟩ := HX.out _ (below_drew (HB10.out.alloc HB10.out.size (.cells #[.string rs, .string m4] 75)))
                    all_goals go_region_law (first | (refine Kd.R_append_rows_step k75 (w0 := w10) w10.heap.size (by simp [Region.wanted]) (.const (.slice none 0 0)) (.tmp 104) 71 75 _ 32 rfl Try.underlying71 infoQ rfl (by decide) (by omega) _ [] hs A3 hs.length c3 (fun _ => True) (fun _ => False) (by rfl) (by rfl) (Kd.R_nil _ _ _ _ _) (HHD.out _ (below_drew HB10.out)) (fun _ _ h => by obtain rfl := k75_open h; exact k75_mkM _ _ _ _) (fun _ h => h.elim) (fun _ _ => trivial) (below_drew (Below.refl _ _)) (by simp) (by have := HLH.out; simp; omega) ?_; intro v11 w11 ho11 hb11 hg11 hat11; have HB11 := Lib.hid (HB10.out.trans (hb11.mono HB10.out.size)); obtain ⟨z2, z3⟩ := HX.out _ HB11.out; obtain ⟨zA, zB⟩ := HX.out _ (HB11.out.alloc HB11.out.size (.cells #[.string rs, .string m4] 75)); have H11 := Lib.hid ((hb11.block _ hg10).trans H10.out); have y11 : w11.cell? ⟨g5, 4, none⟩ = some (.string m4) := (by rw [blk_cell H11.out]; rfl); have HO11 := Lib.hid ho11; have Hb11 := Lib.hid hb11; clear ho11 hg11 hat11) | (refine Kd.R_append_rows_step k75 (w0 := (w10.alloc (.cells #[.string rs, .string m4] 75)).drew) (w10.heap.size + 1) (by simp [Region.wanted]) (.const (.slice none 0 0)) (.tmp 104) 71 75 _ 32 rfl Try.underlying71 infoQ rfl (by decide) (by omega) _ [] hs A3 hs.length c3 (fun _ => True) (fun _ => False) (by rfl) (by rfl) (Kd.R_nil _ _ _ _ _) (Kd.C_drew (Kd.C_alloc (HHD.out _ HB10.out) _)) (fun _ _ h => by obtain rfl := k75_open h; exact k75_mkM _ _ _ _) (fun _ h => h.elim) (fun _ _ => trivial) (Below.refl _ _) (by simp) (by have := HLH.out; simp; omega) ?_; intro v11 w11 ho11 hb11' hg11 hat11; have hb11 := alloc_below w10 (.cells #[.string rs, .string m4] 75) w11 hb11'; have HV11 := Lib.hid (oneQ (x := ⟨rs, m4⟩) (hb11'.block w10.heap.size (by simp)) (heap_alloc_new w10 _)); have HB11 := Lib.hid (HB10.out.trans (hb11.mono HB10.out.size)); obtain ⟨z2, z3⟩ := HX.out _ HB11.out; have H11 := Lib.hid ((hb11.block _ hg10).trans H10.out); have y11 : w11.cell? ⟨g5, 4, none⟩ = some (.string m4) := (by rw [blk_cell H11.out]; rfl); have HO11 := Lib.hid ho11; have Hb11 := Lib.hid hb11; have Hb11' := Lib.hid hb11'; clear ho11 hg11 hat11) | (refine Kd.R_append_step k75 (w0 := w10) w10.heap.size (by simp [Region.wanted]) (.tmp 105) (.tmp 110) 71 75 _ 32 rfl Try.underlying71 infoQ rfl (by decide) (by omega) v11 ([] ++ hs) ⟨rs, m4⟩ _ (fun _ => True) (fun _ => False) (by rfl) (by rfl) (k75_mkM _ _ _ _) (fun _ h => h.elim) (fun _ _ => trivial) HO11.out Hb11.out Hb11.out.size (by have := HLH.out; simp; omega) ?_; intro v12 w12 ho12 hb12 hg12 hat12; obtain ⟨A12, c12, rfl, hl12, hC12⟩ := Kd.R_reads (show Kd.R k75 75 w12 w10.heap.size (fun _ => True) v12 hq by rw [HHQ.out]; exact ho12); have HB12 := Lib.hid (HB10.out.trans (hb12.mono HB10.out.size)); obtain ⟨z4, z5⟩ := HX.out _ HB12.out; have Hb12 := Lib.hid hb12; have HC12 := Lib.hid hC12; have HL12 := Lib.hid hl12; clear ho12 hg12 hat12 hC12 hl12) | (refine Kd.R_append_rows_step k75 (w0 := w11) (w10.heap.size + 1) (by simp [Region.wanted]) (.tmp 105) (.tmp 110) 71 75 _ 32 rfl Try.underlying71 infoQ rfl (by decide) (by omega) v11 ([] ++ hs) [⟨rs, m4⟩] _ 1 1 (fun _ => True) (fun _ => False) (by rfl) (by rfl) HO11.out HV11.out (fun _ _ h => by obtain rfl := k75_open h; exact k75_mkM _ _ _ _) (fun _ h => h.elim) (fun _ _ => trivial) (Below.refl _ _) (Nat.le_trans (by simp) Hb11'.out.size) (by have := HLH.out; simp; omega) ?_; intro v12 w12 ho12 hb12' hg12 hat12; have hb12 := Hb11.out.trans (hb12'.mono (Nat.le_succ _)); obtain ⟨A12, c12, rfl, hl12, hC12⟩ := Kd.R_reads (show Kd.R k75 75 w12 (w10.heap.size + 1) (fun _ => True) v12 hq by rw [HHQ.out]; exact ho12); have HB12 := Lib.hid (HB10.out.trans (hb12.mono HB10.out.size)); obtain ⟨z4, z5⟩ := HX.out _ HB12.out; have Hb12 := Lib.hid hb12; have HC12 := Lib.hid hC12; have HL12 := Lib.hid hl12; clear ho12 hg12 hat12 hC12 hl12) | (go_simp; go_at_call 77; refine (HIH.out _ _ _ _ _ _ _ _ _ HR1 (HCT.out _ (by first | exact HB12.out | exact below_drew HB12.out)) (Kd.C_below HC10.out (by first | exact Hb12.out | exact below_drew Hb12.out)) HL10.out (by first | exact HC12.out | exact Kd.C_drew HC12.out) HL12.out (by have := HC1.out; have := H39.out; omega) HC2.out HC3.out).mono ?_; rintro e w13 ⟨A13, c13, rfl, hl13, hC13, hb13⟩))
                    all_goals go_wp2
                    all_goals go_ret
                    all_goals exact gopost_of (by rw [HGE.out]; exact HB1.out.trans (Below.mono (by first | exact HB12.out | exact below_drew HB12.out) (by rw [← HGE.out]; exact HB1.out.size))) hl13 hC13 hb13
                · have b6 : ((l.length : Int) + 1 == 1) = false := by
                    have : 0 < l.length := List.length_pos_iff.2 hl0
                    rw [beq_eq_false_iff_ne]; omega
                  clear hlast hl0
                  by_cases hfull : hs.length = 40
                  · rw [if_pos hfull] at hR
                    have hR := Option.some.inj hR
                    subst hR
                    have bf : ((hs.length : Int) == 40) = true := by rw [hfull]; rfl
                    clear hfull HRE HPT HNS HIH
                    go_enter Try.func77, Try.ntmps77
                    go_upto_region 1 with (fail)
                    have h1 := heap_alloc_new W (.cells #[.slice A L.length c, .int .i64 last] 28)
                    have HB1 := Lib.hid ((Below.refl _ W).alloc (Nat.le_refl _) (.cells #[.slice A L.length c, .int .i64 last] 28))
                    generalize W.alloc (.cells #[.slice A L.length c, .int .i64 last] 28) = w1 at h1 HB1 ⊢
                    generalize hge : W.heap.size = g at h1 HB1 ⊢
                    have HGE := Lib.hid hge
                    have HH1 := Lib.hid h1
                    have hg1 := blk_lt h1
                    have HX := Lib.hid (fun (W' : World) (h : Below w1.heap.size w1 W') => show W'.cell? ⟨g, 0, none⟩ = some (.slice A L.length c) ∧ W'.cell? ⟨g, 1, none⟩ = some (.int .i64 last) by
                      have h5 := (h.block _ (blk_lt HH1.out)).trans HH1.out
                      exact ⟨by rw [blk_cell h5]; rfl, by rw [blk_cell h5]; rfl⟩)
                    have HCT := Lib.hid (fun (W' : World) (h : Below w1.heap.size w1 W') => Kd.C_below (Kd.C_below HTR.out (by rw [HGE.out]; exact HB1.out)) (h.mono (Nat.le_refl _)))
                    clear h1 hge
                    obtain ⟨x0, x1⟩ := HX.out _ (Below.refl _ _)
                    have HHD := Lib.hid (fun (W' : World) (h : Below w1.heap.size w1 W') => Kd.C_below HH.out (by rw [HGE.out]; exact HB1.out.trans (h.mono (by rw [← HGE.out]; exact HB1.out.size))))
                    have HLD := Lib.hid (fun (W' : World) (h : Below w1.heap.size w1 W') => hAd W' (Kd.C_below HL.out (by rw [HGE.out]; exact HB1.out.trans (h.mono (by rw [← HGE.out]; exact HB1.out.size)))))
                    have HXS := Lib.hid (fun (W' : World) (h : Below w1.heap.size w1 W') => pw_cell_below (w := W) (by rw [HGE.out]; exact HB1.out.trans (h.mono (by rw [← HGE.out]; exact HB1.out.size))) XS0.out)
                    go_upto_region 3 with (go_at_call 49; refine (HAT.out _ (HCT.out _ (Below.refl _ _))).mono ?_; rintro e w2 ⟨rfl, hb2⟩)
                    have xs2 := HXS.out _ hb2
                    obtain ⟨z0, z1⟩ := HX.out _ hb2
                    have HB2 := Lib.hid hb2
                    clear x0 x1 hb2
                    go_upto_region 5 with (fail)
                    go_region_held3 (fun w' => w'.cell? ⟨g, 0, none⟩ = some (.slice A L.length c) ∧ w'.cell? ⟨g, 1, none⟩ = some (.int .i64 last) ∧ w'.cell? ad = some (.string s)) (first | (go_keep; done) | exact ⟨(HX.out _ HB3.out).1, (HX.out _ HB3.out).2, HXS.out _ HB3.out⟩)
                      ((go_at_call 70; refine (HIN.out _ (by first | exact HCT.out _ HB2.out | exact HCT.out _ (below_drew HB2.out))).mono ?_; rintro e w3 ⟨rfl, hb3⟩; have HB3 : Hid (Below w1.heap.size w1 w3) := Lib.hid (by first | exact HB2.out.trans (hb3.mono HB2.out.size) | exact (below_drew HB2.out).trans (hb3.mono HB2.out.size)); clear hb3))
                    clear z0 z1 xs2
                    obtain ⟨z0, z1⟩ := HX.out _ HB3.out
                    go_upto_region 7 with (go_at_call 49; refine (HAN.out _ (HCT.out _ HB3.out)).mono ?_; rintro e w4 ⟨rfl, hb4⟩; have HB4 := Lib.hid (HB3.out.trans (hb4.mono HB3.out.size)); clear hb4)
                    have h5 := heap_alloc_new w4 (.cells #[.int .i64 m0, .int .i64 m1, .string m2, .int .i64 3, .string m4] 97)
                    have HB5 := Lib.hid (HB4.out.alloc HB4.out.size (.cells #[.int .i64 m0, .int .i64 m1, .string m2, .int .i64 3, .string m4] 97))
                    generalize w4.alloc (.cells #[.int .i64 m0, .int .i64 m1, .string m2, .int .i64 3, .string m4] 97) = w5 at h5 HB5 ⊢
                    generalize w4.heap.size = g5 at h5 ⊢
                    have H5 := Lib.hid h5
                    have xs5 := HXS.out _ HB5.out
                    clear h5 z0 z1
                    go_upto_region 9 with (go_at_call 64; refine (HCK.out _).mono ?_; rintro e w6 ⟨rfl, hd6⟩; have HB6 := Lib.hid (HB5.out.trans (hd6.below.mono HB5.out.size)); have H6 := Lib.hid ((hd6.below.block _ (blk_lt H5.out)).trans H5.out); clear hd6)
                    have y3 : w6.cell? ⟨g5, 3, none⟩ = some (.int .i64 3) := by rw [blk_cell H6.out]; rfl
                    go_wp2
                    go_ret
                    have hb : Below g W w6 := HB1.out.trans (HB6.out.mono (by rw [← HGE.out]; exact HB1.out.size))
                    exact ⟨_, _, rfl, hc3, Kd.C_below HH.out (by rw [HGE.out]; exact hb), by rw [HGE.out]; exact hb⟩
                  · rw [if_neg hfull] at hR
                    have bf : ((hs.length : Int) == 40) = false := beq_eq_false_iff_ne.2 (by omega)
                    have HR1 := Lib.hid hR
                    have H39 := Lib.hid (show hs.length < 40 by omega)
                    clear hR hfull
                    go_enter Try.func77, Try.ntmps77
                    go_upto_region 1 with (fail)
                    have h1 := heap_alloc_new W (.cells #[.slice A L.length c, .int .i64 last] 28)
                    have HB1 := Lib.hid ((Below.refl _ W).alloc (Nat.le_refl _) (.cells #[.slice A L.length c, .int .i64 last] 28))
                    generalize W.alloc (.cells #[.slice A L.length c, .int .i64 last] 28) = w1 at h1 HB1 ⊢
                    generalize hge : W.heap.size = g at h1 HB1 ⊢
                    have HGE := Lib.hid hge
                    have HH1 := Lib.hid h1
                    have hg1 := blk_lt h1
                    have HX := Lib.hid (fun (W' : World) (h : Below w1.heap.size w1 W') => show W'.cell? ⟨g, 0, none⟩ = some (.slice A L.length c) ∧ W'.cell? ⟨g, 1, none⟩ = some (.int .i64 last) by
                      have h5 := (h.block _ (blk_lt HH1.out)).trans HH1.out
                      exact ⟨by rw [blk_cell h5]; rfl, by rw [blk_cell h5]; rfl⟩)
                    have HCT := Lib.hid (fun (W' : World) (h : Below w1.heap.size w1 W') => Kd.C_below (Kd.C_below HTR.out (by rw [HGE.out]; exact HB1.out)) (h.mono (Nat.le_refl _)))
                    clear h1 hge
                    obtain ⟨x0, x1⟩ := HX.out _ (Below.refl _ _)
                    have HHD := Lib.hid (fun (W' : World) (h : Below w1.heap.size w1 W') => Kd.C_below HH.out (by rw [HGE.out]; exact HB1.out.trans (h.mono (by rw [← HGE.out]; exact HB1.out.size))))
                    have HLD := Lib.hid (fun (W' : World) (h : Below w1.heap.size w1 W') => hAd W' (Kd.C_below HL.out (by rw [HGE.out]; exact HB1.out.trans (h.mono (by rw [← HGE.out]; exact HB1.out.size)))))
                    have HXS := Lib.hid (fun (W' : World) (h : Below w1.heap.size w1 W') => pw_cell_below (w := W) (by rw [HGE.out]; exact HB1.out.trans (h.mono (by rw [← HGE.out]; exact HB1.out.size))) XS0.out)
                    go_upto_region 3 with (go_at_call 49; refine (HAT.out _ (HCT.out _ (Below.refl _ _))).mono ?_; rintro e w2 ⟨rfl, hb2⟩)
                    have xs2 := HXS.out _ hb2
                    obtain ⟨z0, z1⟩ := HX.out _ hb2
                    have HB2 := Lib.hid hb2
                    clear x0 x1 hb2
                    go_upto_region 5 with (fail)
                    go_region_held3 (fun w' => w'.cell? ⟨g, 0, none⟩ = some (.slice A L.length c) ∧ w'.cell? ⟨g, 1, none⟩ = some (.int .i64 last) ∧ w'.cell? ad = some (.string s)) (first | (go_keep; done) | exact ⟨(HX.out _ HB3.out).1, (HX.out _ HB3.out).2, HXS.out _ HB3.out⟩)
                      ((go_at_call 70; refine (HIN.out _ (by first | exact HCT.out _ HB2.out | exact HCT.out _ (below_drew HB2.out))).mono ?_; rintro e w3 ⟨rfl, hb3⟩; have HB3 : Hid (Below w1.heap.size w1 w3) := Lib.hid (by first | exact HB2.out.trans (hb3.mono HB2.out.size) | exact (below_drew HB2.out).trans (hb3.mono HB2.out.size)); clear hb3))
                    clear z0 z1 xs2
                    obtain ⟨z0, z1⟩ := HX.out _ HB3.out
                    go_upto_region 7 with (go_at_call 49; refine (HAN.out _ (HCT.out _ HB3.out)).mono ?_; rintro e w4 ⟨rfl, hb4⟩; have HB4 := Lib.hid (HB3.out.trans (hb4.mono HB3.out.size)); clear hb4)
                    have h5 := heap_alloc_new w4 (.cells #[.int .i64 m0, .int .i64 m1, .string m2, .int .i64 3, .string m4] 97)
                    have HB5 := Lib.hid (HB4.out.alloc HB4.out.size (.cells #[.int .i64 m0, .int .i64 m1, .string m2, .int .i64 3, .string m4] 97))
                    generalize w4.alloc (.cells #[.int .i64 m0, .int .i64 m1, .string m2, .int .i64 3, .string m4] 97) = w5 at h5 HB5 ⊢
                    generalize w4.heap.size = g5 at h5 ⊢
                    have H5 := Lib.hid h5
                    have xs5 := HXS.out _ HB5.out
                    clear h5 z0 z1
                    go_upto_region 9 with (go_at_call 64; refine (HCK.out _).mono ?_; rintro e w6 ⟨rfl, hd6⟩; have HB6 := Lib.hid (HB5.out.trans (hd6.below.mono HB5.out.size)); have H6 := Lib.hid ((hd6.below.block _ (blk_lt H5.out)).trans H5.out); clear hd6)
                    have y3 : w6.cell? ⟨g5, 3, none⟩ = some (.int .i64 3) := by rw [blk_cell H6.out]; rfl
                    obtain ⟨z0, z1⟩ := HX.out _ HB6.out
                    go_upto_region 14 with (go_at_call 29; refine (HRE.out _ (HCT.out _ HB6.out)).mono ?_; rintro e w7 ⟨rfl, hb7⟩; have HB7 := Lib.hid (HB6.out.trans (hb7.mono HB6.out.size)); have H7 := Lib.hid ((hb7.block _ (blk_lt H6.out)).trans H6.out); clear hb7)
                    clear y3 z0 z1
                    have y4 : w7.cell? ⟨g5, 4, none⟩ = some (.string m4) := by rw [blk_cell H7.out]; rfl
                    have h0m : (0 : Int) < (m4.size : Int) := by omega
                    go_wp2
                    all_goals rename_i hsq K0 HK0
                    all_goals have HR2 := Aside0.mk (show ∃ a', a' = (if slashB m4 = true then (1 : Int) else a) from ⟨_, rfl⟩)
                    all_goals first
                      | (have hsl : slashB m4 = true := HNS.out.2 ((bt_at m4 0 hpos).symm.trans (beq_iff_eq.1 hsq))
                         rw [if_pos hsl] at HR1)
                      | (have hsl : ¬ slashB m4 = true := fun e => (beq_eq_false_iff_ne.1 hsq) ((bt_at m4 0 hpos).trans (HNS.out.1 e))
                         rw [if_neg hsl] at HR1)
                    all_goals clear hsq hsl HNS
                    all_goals obtain ⟨ql, HQL⟩ : ∃ ql, Hid (ql = partsB m4 ++ l) := ⟨_, Lib.hid rfl⟩
                    all_goals obtain ⟨hq, HHQ⟩ : ∃ hq : List HQ, Hid (hq = hs ++ [⟨rs, m4⟩]) := ⟨_, Lib.hid rfl⟩
                    all_goals rw [← HQL.out, ← HHQ.out] at HR1
                    all_goals have HC1 := Lib.hid (show hq.length = hs.length + 1 by rw [HHQ.out, List.length_append]; rfl)
                    all_goals have HC2 := Lib.hid (show (ql.length : Int) ≤ 100000 + 70000 * hq.length by rw [HC1.out, HQL.out, List.length_append]; have := HLE.out; omega)
                    all_goals have HC3 := Lib.hid (show ∀ x ∈ ql, x.size ≤ 65536 from fun x hx => by rw [HQL.out] at hx; rcases List.mem_append.1 hx with h | h; exact Nat.le_trans (hpz x h) hdz; exact HSZ.out x h)
                    all_goals have HLD2 := Lib.hid (fun (W' : World) (h : Below w1.heap.size w1 W') => show Kd.C Kd.string W' A' l.length l from HLD.out W' h)
                    all_goals have hcut' : ∀ W : World, (Instr.slice 42 (.slice (some ad) (l.length + 1) c2) (some (.int .i64 1)) none none).run Try.prog W = .ok (.slice A' l.length (c2 - 1)) W := hcut
                    all_goals clear hcut HLD
                    all_goals have HLS := Lib.hid (show ((partsB m4).length + l.length) * 16 ≤ 140737488355328 by have := HLE.out; have := H39.out; omega)
                    all_goals have HLH := Lib.hid (show (hs.length + 1) * 32 ≤ 140737488355328 by have := H39.out; omega)
                    all_goals clear hpl hpz hrz hdz h0m
                    all_goals go_region_law (first | (refine Kd.R_append_rows_step Kd.string (w0 := w8) w8.heap.size (by simp [Region.wanted]) (.const (.slice none 0 0)) (.tmp 95) 42 9 (.string ⟨#[]⟩) 16 rfl Try.underlying42 infoS rfl (by decide) (by omega) _ [] (partsB m4) A8 (partsB m4).length c8 (fun _ => True) (fun _ => False) (by rfl) (by rfl) (Kd.R_nil _ _ _ _ _) HC8.out (fun _ _ h => h) (fun _ h => h.elim) (fun _ _ => trivial) (Below.refl _ _) (Nat.le_refl _) (by have := HLS.out; simp; omega) ?_; intro v9 w9 ho9 hb9 hg9 hat9; have HB9 := Lib.hid (HB8.out.trans (hb9.mono HB8.out.size)); have HO9 := Lib.hid ho9; have Hb9 := Lib.hid hb9; clear ho9 hg9 hat9) | (refine Kd.R_append_rows_step Kd.string (w0 := w8) w8.heap.size (by simp [Region.wanted]) (.tmp 96) (.tmp 98) 42 9 (.string ⟨#[]⟩) 16 rfl Try.underlying42 infoS rfl (by decide) (by omega) v9 ([] ++ partsB m4) l A' l.length (c2 - 1) (fun _ => True) (fun _ => False) (by rfl) (by rfl) HO9.out (HLD2.out _ HB9.out) (fun _ _ h => h) (fun _ h => h.elim) (fun _ _ => trivial) Hb9.out Hb9.out.size (by have := HLS.out; simp; omega) ?_; intro v10 w10 ho10 hb10 hg10 hat10; obtain ⟨A10, c10, rfl, hl10, hC10⟩ := Kd.R_reads (show Kd.R Kd.string 9 w10 w8.heap.size (fun _ => True) v10 ql by rw [HQL.out]; exact ho10); have HB10 := Lib.hid (HB8.out.trans (hb10.mono HB8.out.size)); have H10 := Lib.hid ((hb10.block _ (blk_lt H8.out)).trans H8.out); have HL10 := Lib.hid hl10; have HC10 := Lib.hid hC10; clear ho10 hb10 hg10 hat10 hl10 hC10) | (go_simp; go_at_call 61; refine (HPT.out _).mono ?_; rintro e w8 ⟨v8, rfl, ho8, hb8⟩; obtain ⟨A8, c8, rfl, hl8, hC8⟩ := Kd.R_reads ho8; have HB8 := Lib.hid ((below_drew HB7.out).trans (hb8.mono (below_drew HB7.out).size)); have H8 := Lib.hid ((hb8.block _ (blk_lt H7.out)).trans H7.out); have HC8 := Lib.hid hC8; clear ho8 hb8 hC8))
                    all_goals clear y4 H7 HB7 hl8 xs5 H6 HB6 H5 HB5 HB4 HB3 HRE HPT HAN HCK HIN HAT HXS HLD2 hcut'
                    all_goals go_wp2
                    all_goals obtain ⟨z0, z1⟩ := HX.out _ HB10.out
                    all_goals have y4 : w10.cell? ⟨g5, 4, none⟩ = some (.string m4) := by rw [blk_cell H10.out]; rfl
                    all_goals have hg10 := blk_lt H10.out
                    all_goals have hgg := Nat.lt_of_lt_of_le hg1 HB10.out.size
                    all_goals obtain ⟨zC, zD⟩ := HX.out _ (below_drew (HB10.out.alloc HB10.out.size (.cells #[.string rs, .string m4] 75)))
                    all_goals go_region_law (first | (refine Kd.R_append_rows_step k75 (w0 := w10) w10.heap.size (by simp [Region.wanted]) (.const (.slice none 0 0)) (.tmp 104) 71 75 _ 32 rfl Try.underlying71 infoQ rfl (by decide) (by omega) _ [] hs A3 hs.length c3 (fun _ => True) (fun _ => False) (by rfl) (by rfl) (Kd.R_nil _ _ _ _ _) (HHD.out _ (below_drew HB10.out)) (fun _ _ h => by obtain rfl := k75_open h; exact k75_mkM _ _ _ _) (fun _ h => h.elim) (fun _ _ => trivial) (below_drew (Below.refl _ _)) (by simp) (by have := HLH.out; simp; omega) ?_; intro v11 w11 ho11 hb11 hg11 hat11; have HB11 := Lib.hid (HB10.out.trans (hb11.mono HB10.out.size)); obtain ⟨z2, z3⟩ := HX.out _ HB11.out; obtain ⟨zA, zB⟩ := HX.out _ (HB11.out.alloc HB11.out.size (.cells #[.string rs, .string m4] 75)); have H11 := Lib.hid ((hb11.block _ hg10).trans H10.out); have y11 : w11.cell? ⟨g5, 4, none⟩ = some (.string m4) := (by rw [blk_cell H11.out]; rfl); have HO11 := Lib.hid ho11; have Hb11 := Lib.hid hb11; clear ho11 hg11 hat11) | (refine Kd.R_append_rows_step k75 (w0 := (w10.alloc (.cells #[.string rs, .string m4] 75)).drew) (w10.heap.size + 1) (by simp [Region.wanted]) (.const (.slice none 0 0)) (.tmp 104) 71 75 _ 32 rfl Try.underlying71 infoQ rfl (by decide) (by omega) _ [] hs A3 hs.length c3 (fun _ => True) (fun _ => False) (by rfl) (by rfl) (Kd.R_nil _ _ _ _ _) (Kd.C_drew (Kd.C_alloc (HHD.out _ HB10.out) _)) (fun _ _ h => by obtain rfl := k75_open h; exact k75_mkM _ _ _ _) (fun _ h => h.elim) (fun _ _ => trivial) (Below.refl _ _) (by simp) (by have := HLH.out; simp; omega) ?_; intro v11 w11 ho11 hb11' hg11 hat11; have hb11 := alloc_below w10 (.cells #[.string rs, .string m4] 75) w11 hb11'; have HV11 := Lib.hid (oneQ (x := ⟨rs, m4⟩) (hb11'.block w10.heap.size (by simp)) (heap_alloc_new w10 _)); have HB11 := Lib.hid (HB10.out.trans (hb11.mono HB10.out.size)); obtain ⟨z2, z3⟩ := HX.out _ HB11.out; have H11 := Lib.hid ((hb11.block _ hg10).trans H10.out); have y11 : w11.cell? ⟨g5, 4, none⟩ = some (.string m4) := (by rw [blk_cell H11.out]; rfl); have HO11 := Lib.hid ho11; have Hb11 := Lib.hid hb11; have Hb11' := Lib.hid hb11'; clear ho11 hg11 hat11) | (refine Kd.R_append_step k75 (w0 := w10) w10.heap.size (by simp [Region.wanted]) (.tmp 105) (.tmp 110) 71 75 _ 32 rfl Try.underlying71 infoQ rfl (by decide) (by omega) v11 ([] ++ hs) ⟨rs, m4⟩ _ (fun _ => True) (fun _ => False) (by rfl) (by rfl) (k75_mkM _ _ _ _) (fun _ h => h.elim) (fun _ _ => trivial) HO11.out Hb11.out Hb11.out.size (by have := HLH.out; simp; omega) ?_; intro v12 w12 ho12 hb12 hg12 hat12; obtain ⟨A12, c12, rfl, hl12, hC12⟩ := Kd.R_reads (show Kd.R k75 75 w12 w10.heap.size (fun _ => True) v12 hq by rw [HHQ.out]; exact ho12); have HB12 := Lib.hid (HB10.out.trans (hb12.mono HB10.out.size)); obtain ⟨z4, z5⟩ := HX.out _ HB12.out; have Hb12 := Lib.hid hb12; have HC12 := Lib.hid hC12; have HL12 := Lib.hid hl12; clear ho12 hg12 hat12 hC12 hl12) | (refine Kd.R_append_rows_step k75 (w0 := w11) (w10.heap.size + 1) (by simp [Region.wanted]) (.tmp 105) (.tmp 110) 71 75 _ 32 rfl Try.underlying71 infoQ rfl (by decide) (by omega) v11 ([] ++ hs) [⟨rs, m4⟩] _ 1 1 (fun _ => True) (fun _ => False) (by rfl) (by rfl) HO11.out HV11.out (fun _ _ h => by obtain rfl := k75_open h; exact k75_mkM _ _ _ _) (fun _ h => h.elim) (fun _ _ => trivial) (Below.refl _ _) (Nat.le_trans (by simp) Hb11'.out.size) (by have := HLH.out; simp; omega) ?_; intro v12 w12 ho12 hb12' hg12 hat12; have hb12 := Hb11.out.trans (hb12'.mono (Nat.le_succ _)); obtain ⟨A12, c12, rfl, hl12, hC12⟩ := Kd.R_reads (show Kd.R k75 75 w12 (w10.heap.size + 1) (fun _ => True) v12 hq by rw [HHQ.out]; exact ho12); have HB12 := Lib.hid (HB10.out.trans (hb12.mono HB10.out.size)); obtain ⟨z4, z5⟩ := HX.out _ HB12.out; have Hb12 := Lib.hid hb12; have HC12 := Lib.hid hC12; have HL12 := Lib.hid hl12; clear ho12 hg12 hat12 hC12 hl12) | (go_simp; go_at_call 77; refine (HIH.out _ _ _ _ _ _ _ _ _ HR1 (HCT.out _ (by first | exact HB12.out | exact below_drew HB12.out)) (Kd.C_below HC10.out (by first | exact Hb12.out | exact below_drew Hb12.out)) HL10.out (by first | exact HC12.out | exact Kd.C_drew HC12.out) HL12.out (by have := HC1.out; have := H39.out; omega) HC2.out HC3.out).mono ?_; rintro e w13 ⟨A13, c13, rfl, hl13, hC13, hb13⟩))
                    all_goals go_wp2
                    all_goals go_ret
                    all_goals exact gopost_of (by rw [HGE.out]; exact HB1.out.trans (Below.mono (by first | exact HB12.out | exact below_drew HB12.out) (by rw [← HGE.out]; exact HB1.out.size))) hl13 hC13 hb13
            · rw [if_pos (.inl hk3)] at hR
              have HR1 := Lib.hid hR
              have b4 : ((atR L n).f3 != 3) = true := bne_iff_ne.2 hk3
              clear hR HREAL HLK hk3 HAR hreal
              generalize (atR L n).f0 = m0 at *
              generalize (atR L n).f1 = m1 at *
              generalize (atR L n).f2 = m2 at *
              generalize (atR L n).f3 = m3 at *
              generalize (atR L n).f4 = m4 at *
              go_enter Try.func77, Try.ntmps77
              go_upto_region 1 with (fail)
              have h1 := heap_alloc_new W (.cells #[.slice A L.length c, .int .i64 last] 28)
              have HB1 := Lib.hid ((Below.refl _ W).alloc (Nat.le_refl _) (.cells #[.slice A L.length c, .int .i64 last] 28))
              generalize W.alloc (.cells #[.slice A L.length c, .int .i64 last] 28) = w1 at h1 HB1 ⊢
              generalize hge : W.heap.size = g at h1 HB1 ⊢
              have HGE := Lib.hid hge
              have HH1 := Lib.hid h1
              have hg1 := blk_lt h1
              have HX := Lib.hid (fun (W' : World) (h : Below w1.heap.size w1 W') => show W'.cell? ⟨g, 0, none⟩ = some (.slice A L.length c) ∧ W'.cell? ⟨g, 1, none⟩ = some (.int .i64 last) by
                have h5 := (h.block _ (blk_lt HH1.out)).trans HH1.out
                exact ⟨by rw [blk_cell h5]; rfl, by rw [blk_cell h5]; rfl⟩)
              have HCT := Lib.hid (fun (W' : World) (h : Below w1.heap.size w1 W') => Kd.C_below (Kd.C_below HTR.out (by rw [HGE.out]; exact HB1.out)) (h.mono (Nat.le_refl _)))
              clear h1 hge
              obtain ⟨x0, x1⟩ := HX.out _ (Below.refl _ _)
              have HHD := Lib.hid (fun (W' : World) (h : Below w1.heap.size w1 W') => Kd.C_below HH.out (by rw [HGE.out]; exact HB1.out.trans (h.mono (by rw [← HGE.out]; exact HB1.out.size))))
              have HLD := Lib.hid (fun (W' : World) (h : Below w1.heap.size w1 W') => hAd W' (Kd.C_below HL.out (by rw [HGE.out]; exact HB1.out.trans (h.mono (by rw [← HGE.out]; exact HB1.out.size)))))
              have HXS := Lib.hid (fun (W' : World) (h : Below w1.heap.size w1 W') => pw_cell_below (w := W) (by rw [HGE.out]; exact HB1.out.trans (h.mono (by rw [← HGE.out]; exact HB1.out.size))) XS0.out)
              go_upto_region 3 with (go_at_call 49; refine (HAT.out _ (HCT.out _ (Below.refl _ _))).mono ?_; rintro e w2 ⟨rfl, hb2⟩)
              have xs2 := HXS.out _ hb2
              obtain ⟨z0, z1⟩ := HX.out _ hb2
              have HB2 := Lib.hid hb2
              clear x0 x1 hb2
              go_upto_region 5 with (fail)
              go_region_held3 (fun w' => w'.cell? ⟨g, 0, none⟩ = some (.slice A L.length c) ∧ w'.cell? ⟨g, 1, none⟩ = some (.int .i64 last) ∧ w'.cell? ad = some (.string s)) (first | (go_keep; done) | exact ⟨(HX.out _ HB3.out).1, (HX.out _ HB3.out).2, HXS.out _ HB3.out⟩)
                ((go_at_call 70; refine (HIN.out _ (by first | exact HCT.out _ HB2.out | exact HCT.out _ (below_drew HB2.out))).mono ?_; rintro e w3 ⟨rfl, hb3⟩; have HB3 : Hid (Below w1.heap.size w1 w3) := Lib.hid (by first | exact HB2.out.trans (hb3.mono HB2.out.size) | exact (below_drew HB2.out).trans (hb3.mono HB2.out.size)); clear hb3))
              clear z0 z1 xs2
              obtain ⟨z0, z1⟩ := HX.out _ HB3.out
              go_upto_region 7 with (go_at_call 49; refine (HAN.out _ (HCT.out _ HB3.out)).mono ?_; rintro e w4 ⟨rfl, hb4⟩; have HB4 := Lib.hid (HB3.out.trans (hb4.mono HB3.out.size)); clear hb4)
              have h5 := heap_alloc_new w4 (.cells #[.int .i64 m0, .int .i64 m1, .string m2, .int .i64 m3, .string m4] 97)
              have HB5 := Lib.hid (HB4.out.alloc HB4.out.size (.cells #[.int .i64 m0, .int .i64 m1, .string m2, .int .i64 m3, .string m4] 97))
              generalize w4.alloc (.cells #[.int .i64 m0, .int .i64 m1, .string m2, .int .i64 m3, .string m4] 97) = w5 at h5 HB5 ⊢
              generalize w4.heap.size = g5 at h5 ⊢
              have H5 := Lib.hid h5
              have xs5 := HXS.out _ HB5.out
              clear h5 z0 z1
              go_upto_region 9 with (go_at_call 64; refine (HCK.out _).mono ?_; rintro e w6 ⟨rfl, hd6⟩; have HB6 := Lib.hid (HB5.out.trans (hd6.below.mono HB5.out.size)); have H6 := Lib.hid ((hd6.below.block _ (blk_lt H5.out)).trans H5.out); clear hd6)
              have y3 : w6.cell? ⟨g5, 3, none⟩ = some (.int .i64 m3) := by rw [blk_cell H6.out]; rfl
              obtain ⟨z0, z1⟩ := HX.out _ HB6.out
              go_upto_region 10 with (fail)
              go_region_held3 (fun w' => w'.cell? ⟨g, 0, none⟩ = some (.slice A L.length c) ∧ w'.cell? ⟨g, 1, none⟩ = some (.int .i64 last)) (first | (go_keep; done) | exact HX.out _ (HB6.out.trans (hb7.mono HB6.out.size)) | exact HX.out _ ((below_drew HB6.out).trans (hb7.mono HB6.out.size)))
                ((go_at_call 77; refine (HIH.out _ _ _ _ _ _ _ _ _ HR1.out (HCT.out _ (by first | exact HB6.out | exact below_drew HB6.out)) (HLD.out _ (by first | exact HB6.out | exact below_drew HB6.out)) (by omega) (HHD.out _ (by first | exact HB6.out | exact below_drew HB6.out)) hc3 h40 HLE.out HSZ.out).mono ?_; rintro e w7 ⟨A9, c9, rfl, hl9, hC9, hb7⟩))
              go_wp2
              go_ret
              exact gopost_of (w3 := w6.drew) (by rw [HGE.out]; exact HB1.out.trans ((below_drew HB6.out).mono (by rw [← HGE.out]; exact HB1.out.size))) hl9 hC9 hb7
        · rw [if_neg hck, if_pos rfl] at hR
          have hR := Option.some.inj hR
          subst hR
          have b3 : (Sp.check s.data.toList != 0) = true := bne_iff_ne.2 hck
          generalize Sp.check s.data.toList = ck at *
          generalize hnn : inR L a s = n at *
          generalize (atR L n).f0 = m0 at *
          generalize (atR L n).f1 = m1 at *
          generalize (atR L n).f2 = m2 at *
          generalize (atR L n).f3 = m3 at *
          generalize (atR L n).f4 = m4 at *
          clear HIH hreal hck hnn
          go_enter Try.func77, Try.ntmps77
          go_upto_region 1 with (fail)
          have h1 := heap_alloc_new W (.cells #[.slice A L.length c, .int .i64 last] 28)
          have HB1 := Lib.hid ((Below.refl _ W).alloc (Nat.le_refl _) (.cells #[.slice A L.length c, .int .i64 last] 28))
          generalize W.alloc (.cells #[.slice A L.length c, .int .i64 last] 28) = w1 at h1 HB1 ⊢
          generalize hge : W.heap.size = g at h1 HB1 ⊢
          have HGE := Lib.hid hge
          have HH1 := Lib.hid h1
          have hg1 := blk_lt h1
          have HX := Lib.hid (fun (W' : World) (h : Below w1.heap.size w1 W') => show W'.cell? ⟨g, 0, none⟩ = some (.slice A L.length c) ∧ W'.cell? ⟨g, 1, none⟩ = some (.int .i64 last) by
            have h5 := (h.block _ (blk_lt HH1.out)).trans HH1.out
            exact ⟨by rw [blk_cell h5]; rfl, by rw [blk_cell h5]; rfl⟩)
          have HCT := Lib.hid (fun (W' : World) (h : Below w1.heap.size w1 W') => Kd.C_below (Kd.C_below HTR.out (by rw [HGE.out]; exact HB1.out)) (h.mono (Nat.le_refl _)))
          clear h1 hge
          obtain ⟨x0, x1⟩ := HX.out _ (Below.refl _ _)
          have HHD := Lib.hid (fun (W' : World) (h : Below w1.heap.size w1 W') => Kd.C_below HH.out (by rw [HGE.out]; exact HB1.out.trans (h.mono (by rw [← HGE.out]; exact HB1.out.size))))
          have HLD := Lib.hid (fun (W' : World) (h : Below w1.heap.size w1 W') => hAd W' (Kd.C_below HL.out (by rw [HGE.out]; exact HB1.out.trans (h.mono (by rw [← HGE.out]; exact HB1.out.size)))))
          have HXS := Lib.hid (fun (W' : World) (h : Below w1.heap.size w1 W') => pw_cell_below (w := W) (by rw [HGE.out]; exact HB1.out.trans (h.mono (by rw [← HGE.out]; exact HB1.out.size))) XS0.out)
          go_upto_region 3 with (go_at_call 49; refine (HAT.out _ (HCT.out _ (Below.refl _ _))).mono ?_; rintro e w2 ⟨rfl, hb2⟩)
          have xs2 := HXS.out _ hb2
          obtain ⟨z0, z1⟩ := HX.out _ hb2
          have HB2 := Lib.hid hb2
          clear x0 x1 hb2
          go_upto_region 5 with (fail)
          go_region_held3 (fun w' => w'.cell? ⟨g, 0, none⟩ = some (.slice A L.length c) ∧ w'.cell? ⟨g, 1, none⟩ = some (.int .i64 last) ∧ w'.cell? ad = some (.string s)) (first | (go_keep; done) | exact ⟨(HX.out _ HB3.out).1, (HX.out _ HB3.out).2, HXS.out _ HB3.out⟩)
            ((go_at_call 70; refine (HIN.out _ (by first | exact HCT.out _ HB2.out | exact HCT.out _ (below_drew HB2.out))).mono ?_; rintro e w3 ⟨rfl, hb3⟩; have HB3 : Hid (Below w1.heap.size w1 w3) := Lib.hid (by first | exact HB2.out.trans (hb3.mono HB2.out.size) | exact (below_drew HB2.out).trans (hb3.mono HB2.out.size)); clear hb3))
          clear z0 z1 xs2
          obtain ⟨z0, z1⟩ := HX.out _ HB3.out
          go_upto_region 7 with (go_at_call 49; refine (HAN.out _ (HCT.out _ HB3.out)).mono ?_; rintro e w4 ⟨rfl, hb4⟩; have HB4 := Lib.hid (HB3.out.trans (hb4.mono HB3.out.size)); clear hb4)
          have h5 := heap_alloc_new w4 (.cells #[.int .i64 m0, .int .i64 m1, .string m2, .int .i64 m3, .string m4] 97)
          have HB5 := Lib.hid (HB4.out.alloc HB4.out.size (.cells #[.int .i64 m0, .int .i64 m1, .string m2, .int .i64 m3, .string m4] 97))
          generalize w4.alloc (.cells #[.int .i64 m0, .int .i64 m1, .string m2, .int .i64 m3, .string m4] 97) = w5 at h5 HB5 ⊢
          generalize w4.heap.size = g5 at h5 ⊢
          have H5 := Lib.hid h5
          have xs5 := HXS.out _ HB5.out
          clear h5 z0 z1
          go_wp2_with (go_at_call 64; refine (HCK.out _).mono ?_; rintro e w6 ⟨rfl, hd6⟩; have HB6 := Lib.hid (HB5.out.trans (hd6.below.mono HB5.out.size)); clear hd6)
          go_ret
          have hb : Below g W w6 := HB1.out.trans (HB6.out.mono (by rw [← HGE.out]; exact HB1.out.size))
          exact ⟨_, _, rfl, hc3, Kd.C_below HH.out (by rw [HGE.out]; exact hb), by rw [HGE.out]; exact hb⟩
    · rw [if_pos (by rw [if_pos hkd])] at hR
      have hR := Option.some.inj hR
      subst hR
      have b1 : ((atR L a).f3 != 1) = true := bne_iff_ne.2 hkd
      generalize (atR L a).f3 = k3 at *
      generalize (atR L a).f0 = k0 at *
      generalize (atR L a).f1 = k1 at *
      generalize (atR L a).f2 = k2 at *
      generalize (atR L a).f4 = k4 at *
      clear HIH hreal hkd
      go_enter Try.func77, Try.ntmps77
      go_upto_region 1 with (fail)
      have h1 := heap_alloc_new W (.cells #[.slice A L.length c, .int .i64 last] 28)
      have HB1 := Lib.hid ((Below.refl _ W).alloc (Nat.le_refl _) (.cells #[.slice A L.length c, .int .i64 last] 28))
      generalize W.alloc (.cells #[.slice A L.length c, .int .i64 last] 28) = w1 at h1 HB1 ⊢
      generalize hge : W.heap.size = g at h1 HB1 ⊢
      have HGE := Lib.hid hge
      have HH1 := Lib.hid h1
      have hg1 := blk_lt h1
      have HX := Lib.hid (fun (W' : World) (h : Below w1.heap.size w1 W') => show W'.cell? ⟨g, 0, none⟩ = some (.slice A L.length c) ∧ W'.cell? ⟨g, 1, none⟩ = some (.int .i64 last) by
        have h5 := (h.block _ (blk_lt HH1.out)).trans HH1.out
        exact ⟨by rw [blk_cell h5]; rfl, by rw [blk_cell h5]; rfl⟩)
      have HCT := Lib.hid (fun (W' : World) (h : Below w1.heap.size w1 W') => Kd.C_below (Kd.C_below HTR.out (by rw [HGE.out]; exact HB1.out)) (h.mono (Nat.le_refl _)))
      clear h1 hge
      obtain ⟨x0, x1⟩ := HX.out _ (Below.refl _ _)
      have HHD := Lib.hid (fun (W' : World) (h : Below w1.heap.size w1 W') => Kd.C_below HH.out (by rw [HGE.out]; exact HB1.out.trans (h.mono (by rw [← HGE.out]; exact HB1.out.size))))
      go_wp2_with (go_at_call 49; refine (HAT.out _ (HCT.out _ (Below.refl _ _))).mono ?_; rintro e w2 ⟨rfl, hb2⟩)
      go_ret
      have hb : Below g W w2 := HB1.out.trans (hb2.mono (by rw [← HGE.out]; exact HB1.out.size))
      exact ⟨_, _, rfl, hc3, Kd.C_below HH.out (by rw [HGE.out]; exact hb), by rw [HGE.out]; exact hb⟩
end Go.Proofs.Ytjfigngmpagloaa.Tw

namespace Go.Proofs.Ytjfigngmpagloaa.Tw
open Go Go.RowKit Go.Shelf Go.Proofs Go.Proofs.Ytjfigngmpagloaa Go.Proofs.YtjfigngmpagloaaW.PrintWords Go.Proofs.Ytjfigngmpagloaa.Ext Go.Proofs.Ytjfigngmpagloaa.X Go.Proofs.Ytjfigngmpagloaa.Pu
set_option linter.unusedVariables false
set_option linter.unusedSimpArgs false
def IsI (u : Value) : Prop := ∃ m : Int, u = .int .i64 m
def OwnN (w : World) (base : Nat) (v : Value) (l : List Int) : Prop :=
  (v = .slice none 0 0 ∧ l = []) ∨
  ∃ g cap cur, v = .slice (some ⟨g, 0, none⟩) l.length cap ∧ base ≤ g ∧ w.heap[g]? = some (.cells cur 3 (0, 0)) ∧ l.length ≤ cap ∧ cap ≤ maxLen ∧ cur.size = cap ∧ cur.toList.take l.length = l.map (Value.int .i64) ∧ ∀ u ∈ cur.toList, IsI u
theorem infoI : (Try.prog.info? 3).map (fun i => (i.zero, i.size, i.bytes)) = some (some (.int .i64 0), 1, 8) := by kernel_rfl
theorem OwnN.made (W : World) (base : Nat) (hb : base ≤ W.heap.size) : OwnN (W.alloc (.cells #[] 3)) base (.slice (some ⟨W.heap.size, 0, none⟩) 0 0) [] :=
  .inr ⟨W.heap.size, 0, #[], rfl, hb, heap_alloc_new W _, Nat.le_refl _, by simp [maxLen], rfl, rfl, by simp⟩
theorem OwnN.toR {w : World} {base : Nat} {v : Value} {l : List Int} (h : OwnN w base v l) : Kd.R (Kd.int .i64) 3 w base (fun _ => True) v l := by
  refine Kd.R_of_own ?_ (fun _ _ => trivial)
  refine ⟨by simp [encs], ?_⟩
  rcases h with ⟨rfl, rfl⟩ | ⟨g, cap, cur, rfl, hb, hh, hle, hm, hc, ht, _⟩
  · exact .inl ⟨rfl, rfl⟩
  · refine .inr ⟨g, cap, cur, rfl, hb, hh, hle, hm, by omega, ?_⟩
    rw [Nat.mul_one, ht]; rfl
theorem OwnN.step {w w' : World} {base : Nat} {v : Value} {l : List Int} (h : OwnN w base v l) (hs : ∀ k cur, k < w.heap.size → w.heap[k]? = some (.cells cur 3 (0, 0)) → w'.heap[k]? = w.heap[k]?) : OwnN w' base v l := by
  rcases h with h | ⟨g, cap, cur, e, hb, hh, r⟩
  · exact .inl h
  · exact .inr ⟨g, cap, cur, e, hb, (hs g cur (blk_lt hh) hh).trans hh, r⟩
theorem OwnN.below {w w' : World} {base : Nat} {v : Value} {l : List Int} (h : OwnN w base v l) (hb : Below w.heap.size w w') : OwnN w' base v l := h.step (fun k _ hk _ => hb.block k hk)
theorem OwnN.frm {w w' : World} {p B base : Nat} {T : Tr} {v : Value} {l : List Int} (h : OwnN w base v l) (hT : TreeB w p B T) (hf : Frm w w' p B) : OwnN w' base v l := by
  obtain ⟨hp, es, clock, hB⟩ := hT.two
  refine h.step (fun k cur hk hh => hf.block k hk ?_ ?_)
  · rintro rfl
    rw [hp] at hh
    injection hh with hh
    injection hh with _ hh
    exact absurd hh (by decide)
  · rintro rfl
    rw [hB] at hh
    cases hh
theorem OwnN.but {w w' : World} {k base : Nat} {v : Value} {l : List Int} {cs : Array Value} {t : TypeId} {fr : Nat × Nat} (h : OwnN w base v l) (hk : w.heap[k]? = some (.cells cs t fr)) (ht : t ≠ 3) (hb : But w w' k) : OwnN w' base v l := by
  refine h.step (fun j cur hj hh => hb.g.block j hj ?_)
  intro e
  obtain rfl : j = k := Option.some.inj e
  rw [hk] at hh
  injection hh with hh
  injection hh with _ hh
  exact ht hh
theorem OwnN.noS {w : World} {base : Nat} {v : Value} {l : List Int} (h : OwnN w base v l) (k : Nat) (hk : v.ownBlock = some k) : ∀ a s, a.block = k → w.cell? a ≠ some (.string s) := by
  rcases h with ⟨rfl, _⟩ | ⟨g, cap, cur, rfl, hb, hh, hle, hm, hc, ht, ha⟩
  · cases hk
  · injection hk with hk
    change g = k at hk
    subst hk
    rintro ⟨b, o, sp⟩ s rfl
    simp only [World.cell?, hh]
    split
    · simp
    · intro e
      obtain ⟨m, hm⟩ := ha _ (List.mem_of_getElem? (by simpa using e))
      cases hm
theorem drewAlloc (w : World) (o : Obj) (row : Option Nat) : w.grownBy (w.drew.alloc o) row := ⟨rfl, rfl, rfl, by simp, fun k hk _ => heap_alloc_old w.drew o k hk⟩
theorem zero_is (n : Nat) : ∀ u ∈ (Builtin.zeroCells (Value.cells (.int .i64 0)) n).toList, IsI u := by
  intro u hu
  simp only [Builtin.zeroCells] at hu
  simp at hu
  obtain ⟨_, hu⟩ := hu
  have : u = .int .i64 0 := by simp [Value.cells, Nat.mod_one] at hu; exact hu.2.symm
  exact ⟨0, this⟩
theorem OwnN.append {W : World} {base : Nat} {v : Value} {l : List Int} (h : OwnN W base v l) (x : Int) (ty : TypeId) (hb : base ≤ W.heap.size) (hl : l.length < 1000000) :
    ∃ v' w', (Builtin.append_ #[91, 91] ty #[v, .slice (some ⟨W.heap.size, 0, none⟩) 1 1]).run Try.prog (W.alloc (.cells #[.int .i64 x] 3)) = .ok v' w' ∧ OwnN w' base v' (l ++ [x]) ∧ W.grownBy w' v.ownBlock := by
  obtain ⟨i0, hi, hz0, hz1, hz2⟩ := info_parts infoI
  have ht := Try.underlying91
  have hnews := cell_one_new W (.int .i64 x) 3
  have h1 : ∀ u ∈ [Value.int .i64 x], u.oneCell' = true := by intro u hu; rw [List.mem_singleton.1 hu]; rfl
  have hgr := World.grownBy_alloc W (.cells #[.int .i64 x] 3)
  rcases h with ⟨rfl, rfl⟩ | ⟨g, cap, cur, rfl, hbg, hh, hle, hm, hc, htk, ha⟩
  · have hr := run_append_nil (P := Try.prog) (W.alloc (.cells #[.int .i64 x] 3)) 91 ty 3 i0 (.int .i64 0) ht hi hz0 ⟨W.heap.size, 0, none⟩ 1 1 [.int .i64 x] (by rw [hz1]; rfl) hnews (by omega) (by omega) (by rw [hz2]; omega)
    refine ⟨_, _, hr, .inr ⟨_, _, _, rfl, ?_, heap_alloc_new _ _, ?_, ?_, ?_, ?_, ?_⟩, ?_⟩
    · show base ≤ (W.alloc _).heap.size
      simp; omega
    · exact grownCap_ge _ 1 0 _
    · exact grownCap_le_maxLen _ 1 0 _ (by simp [maxLen])
    · have := grownCap_ge (W.alloc (.cells #[.int .i64 x] 3)) 1 0 3
      simp only [Array.size_append, List.size_toArray, size_zeroCells]
      simp [Value.cells]
      omega
    · simp
    · intro u hu
      rw [Array.toList_append] at hu
      rcases List.mem_append.1 hu with hu | hu
      · exact ⟨x, by simpa using hu⟩
      · exact zero_is _ u hu
    · exact World.grownBy.trans (hgr _) (drewAlloc _ _ _)
  · have hg' : (W.alloc (.cells #[.int .i64 x] 3)).heap[g]? = some (.cells cur 3 (0, 0)) := (heap_alloc_old W _ g (blk_lt hh)).trans hh
    have hgr := World.grownBy_alloc W (.cells #[.int .i64 x] 3) (some g)
    by_cases hroom : l.length + 1 ≤ cap
    · have hr := run_append_room (P := Try.prog) (W.alloc (.cells #[.int .i64 x] 3)) 91 ty 3 i0 ht hi g l.length cap cur hg' ⟨W.heap.size, 0, none⟩ 1 1 [.int .i64 x] (by rw [hz1]; rfl) hnews h1 hroom (by rw [hz1]; simp; omega)
      rw [hz1, Nat.mul_one] at hr
      refine ⟨_, _, hr, .inr ⟨g, cap, _, by simp, hbg, setRow_heap _ g cur _ _ _ hg', by simpa using hroom, hm, ?_, ?_, ?_⟩, ?_⟩
      · have hcl : cur.toList.length = cap := by simpa using hc
        simp only [List.size_toArray, List.length_append, List.length_take, List.length_drop, hcl, List.length_singleton]
        omega
      · rw [htk, List.map_append, List.length_append]
        have e : (l.map (Value.int .i64) ++ [Value.int .i64 x]).length = l.length + 1 := by simp
        show List.take (l.length + 1) (l.map (Value.int .i64) ++ [Value.int .i64 x] ++ _) = _
        rw [← e]
        exact List.take_left
      · intro u hu
        simp only [List.mem_append] at hu
        rcases hu with (hu | hu) | hu
        · exact ha u (List.mem_of_mem_take hu)
        · exact ⟨x, by simpa using hu⟩
        · exact ha u (List.mem_of_mem_drop hu)
      · exact hgr.trans ⟨rfl, rfl, rfl, by simp [World.setRow], fun k hk hne => setRow_other _ g k _ (fun e => hne (by simp [e]))⟩
    · have holds : ∀ j u, (l.map (Value.int .i64))[j]? = some u → (W.alloc (.cells #[.int .i64 x] 3)).cell? ((⟨g, 0, none⟩ : Addr).add j) = some u := by
        intro j u hu
        rw [← htk, List.getElem?_take] at hu
        have hadd : (⟨g, 0, none⟩ : Addr).add j = ⟨g, j, none⟩ := by simp [Addr.add_lit]
        rw [hadd, cell_of_row _ g j cur _ (0, 0) hg']
        split at hu
        · simpa using hu
        · cases hu
      have hle2 : l.length ≤ cap := hle
      have hr := run_append_grow (P := Try.prog) (W.alloc (.cells #[.int .i64 x] 3)) 91 ty 3 i0 (.int .i64 0) ht hi hz0 ⟨g, 0, none⟩ l.length cap (l.map (Value.int .i64)) (by rw [hz1]; simp) holds ⟨W.heap.size, 0, none⟩ 1 1 [.int .i64 x] (by rw [hz1]; rfl) hnews (by omega) (by omega) (growslice_fits (by omega) (by rw [hz2]; omega))
      refine ⟨_, _, hr, .inr ⟨_, grownCap (W.alloc (.cells #[.int .i64 x] 3)) (l.length + 1) cap 3, _, by simp, ?_, heap_alloc_new _ _, ?_, ?_, ?_, ?_, ?_⟩, ?_⟩
      · show base ≤ (W.alloc _).heap.size
        simp; omega
      · simpa using grownCap_ge _ (l.length + 1) cap _
      · exact grownCap_le_maxLen _ (l.length + 1) cap _ (by simp [maxLen]; omega)
      · have := grownCap_ge (W.alloc (.cells #[.int .i64 x] 3)) (l.length + 1) cap 3
        simp only [Array.size_append, List.size_toArray, size_zeroCells]
        simp [Value.cells]
        omega
      · rw [Array.toList_append, Array.toList_append]
        have e : (l.map (Value.int .i64) ++ [Value.int .i64 x]).length = l.length + 1 := by simp
        show List.take (l ++ [x]).length (l.map (Value.int .i64) ++ [Value.int .i64 x] ++ _) = _
        rw [List.length_append, List.map_append]
        show List.take (l.length + 1) _ = _
        rw [← e]
        exact List.take_left
      · intro u hu
        rw [Array.toList_append, Array.toList_append] at hu
        simp only [List.mem_append] at hu
        rcases hu with (hu | hu) | hu
        · obtain ⟨m, _, rfl⟩ := List.mem_map.1 hu
          exact ⟨m, rfl⟩
        · exact ⟨x, by simpa using hu⟩
        · exact zero_is _ u hu
      · exact hgr.trans (drewAlloc _ _ _)
theorem OwnN.blk {w : World} {base : Nat} {v : Value} {l : List Int} (h : OwnN w base v l) (k : Nat) (hk : v.ownBlock = some k) : base ≤ k ∧ ∃ cur, w.heap[k]? = some (.cells cur 3 (0, 0)) := by
  rcases h with ⟨rfl, _⟩ | ⟨g, cap, cur, rfl, hb, hh, _⟩
  · cases hk
  · injection hk with hk
    change g = k at hk
    subst hk
    exact ⟨hb, cur, hh⟩
theorem TreeB.app {w w' : World} {p B base : Nat} {T : Tr} {v : Value} {l : List Int} (h : TreeB w p B T) (hN : OwnN w base v l) (hg : w.grownBy w' v.ownBlock) : TreeB w' p B T := by
  cases hk : v.ownBlock with
  | none => rw [hk] at hg; exact h.below ⟨hg.os, hg.tape, hg.output, hg.size, fun k hk => hg.block k hk (by simp)⟩
  | some k =>
    rw [hk] at hg
    obtain ⟨_, cur, hc⟩ := hN.blk k hk
    obtain ⟨hp, es, clock, hB⟩ := h.two
    refine h.but ⟨hg, hN.noS k hk⟩ ?_ ?_
    · rintro rfl
      rw [hp] at hc
      injection hc with hc
      injection hc with _ hc
      exact absurd hc (by decide)
    · rintro rfl
      rw [hB] at hc
      cases hc
theorem RAt.app {w w' : World} {base : Nat} {u v : Value} {L : List RN} {last : Int} {l : List Int} (h : RAt w u L last) (hN : OwnN w base v l) (hg : w.grownBy w' v.ownBlock) : RAt w' u L last := by
  cases hk : v.ownBlock with
  | none => rw [hk] at hg; exact h.below ⟨hg.os, hg.tape, hg.output, hg.size, fun k hk => hg.block k hk (by simp)⟩
  | some k => rw [hk] at hg; exact h.but ⟨hg, hN.noS k hk⟩
theorem cells_app {w w' : World} {base k : Nat} {v : Value} {l : List Int} {cs : Array Value} {t : TypeId} {fr : Nat × Nat} (h : w.heap[k]? = some (.cells cs t fr)) (ht : t ≠ 3) (hN : OwnN w base v l) (hg : w.grownBy w' v.ownBlock) : w'.heap[k]? = some (.cells cs t fr) := by
  refine (hg.block k (blk_lt h) (fun e => ?_)).trans h
  obtain ⟨_, cur, hc⟩ := hN.blk k e.symm
  rw [h] at hc
  injection hc with hc
  injection hc with _ hc
  exact ht hc
theorem below_app {w0 w w' : World} {base : Nat} {v : Value} {l : List Int} (hB : Below base w0 w) (hN : OwnN w base v l) (hb : base ≤ w.heap.size) (hg : w.grownBy w' v.ownBlock) : Below base w0 w' := hB.grown hg hb (fun k hk => (hN.blk k hk).1)
theorem two_set {w : World} {k : Nat} {v0 v1 u0 u1 : Value} {t : TypeId} (h : w.heap[k]? = some (.cells #[v0, v1] t (0, 0))) : ((w.setCell ⟨k, 0, none⟩ u0).setCell ⟨k, 1, none⟩ u1).heap[k]? = some (.cells #[u0, u1] t (0, 0)) := by
  have k1 : (w.setCell ⟨k, 0, none⟩ u0).heap[k]? = some (.cells #[u0, v1] t (0, 0)) := by rw [setCell_eq_setRow w _ 0 _ _ _ _ h, setRow_heap w _ _ _ _ _ h]; rfl
  rw [setCell_eq_setRow _ _ 1 _ _ _ _ k1, setRow_heap _ _ _ _ _ _ k1]; rfl
section
variable {ops : Array Oper} {rest : List Oper} {o : Oper} {a : Act} {Q : Exit → Act → World → Prop}
theorem wpList_append_ints {W : World} (hgd : o.guard = none) (s x : Operand) (ho : o.op = .call { callee := .builtin .append, args := #[s, x], argTypes := #[91, 91] }) (base : Nat) (v : Value) (l : List Int) (n : Int) (hs : a.eval s = v) (hx : a.eval x = .slice (some ⟨W.heap.size, 0, none⟩) 1 1)
    (HO : OwnN W base v l) (hb : base ≤ W.heap.size) (hl : l.length < 1000000)
    (h : ∀ v' w', OwnN w' base v' (l ++ [n]) → W.grownBy w' v.ownBlock → wpList Try.prog ops Q rest (a.put o.dst v') w') :
    wpList Try.prog ops Q (o :: rest) a (W.alloc (.cells #[.int .i64 n] 3)) := by
  obtain ⟨v', w', hr, h2, h3⟩ := HO.append n o.type hb hl
  refine wpList_plain hgd fun K hK => ?_
  have hw := h v' w' h2 h3
  unfold Oper.wp execOp
  simp only [ho, resolve, invoke, builtin, Sem.run_bind, Sem.run_pure, Result.andThen_ok, List.map_toArray, List.map_cons, List.map_nil, hs, hx, hr]
  exact hK _ _ hw
end
end Go.Proofs.Ytjfigngmpagloaa.Tw

namespace Go.Proofs.Ytjfigngmpagloaa.Tw
open Go Go.RowKit Go.Shelf Go.Proofs Go.Proofs.Ytjfigngmpagloaa Go.Proofs.YtjfigngmpagloaaW.PrintWords Go.Proofs.Ytjfigngmpagloaa.Ext Go.Proofs.Ytjfigngmpagloaa.X Go.Proofs.Ytjfigngmpagloaa.Pu
set_option linter.unusedVariables false
set_option linter.unusedSimpArgs false
structure MW (w wr : World) (p B r : Nat) (v6 : Value) (st : MSt) : Prop where
  hb : Below w.heap.size w wr
  tree : TreeB wr p B (trOf st.L st.last)
  hp : w.heap.size ≤ p
  hB : w.heap.size ≤ B
  hr : w.heap.size < r
  cell : ∃ A c, wr.heap[r]? = some (.cells #[.slice A st.L.length c, .int .i64 st.last] 28 (0, 0)) ∧ st.L.length ≤ c ∧ Kd.C k97 wr A st.L.length st.L
  nums : OwnN wr w.heap.size v6 st.nums
  res : wr.heap[w.heap.size]? = some (.cells #[.slice none 0 0, .int .i64 0] 28 (0, 0))
theorem made_round {w w8 w9 : World} {p B r : Nat} {A7 : Option Addr} {c7 : Nat} {L7 : List RN} {n7 : Int} {v : Value} {l : List Int} {T : Tr}
    (F : TreeB w8 p B T ∧ RAt w8 (.agg #[.slice A7 L7.length c7, .int .i64 n7]) L7 n7 ∧ OwnN w8 w.heap.size v l ∧ w8.heap[w.heap.size]? = some (.cells #[.slice none 0 0, .int .i64 0] 28 (0, 0)) ∧ w8.heap[r]? = some (.cells #[.slice A7 L7.length c7, .int .i64 n7] 28 (0, 0)) ∧ Below w.heap.size w w8) (hle : L7.length ≤ c7) (hg : w8.grownBy w9 v.ownBlock) :
    Below w.heap.size w w9 ∧ TreeB w9 p B T ∧ w9.heap[r]? = some (.cells #[.slice A7 L7.length c7, .int .i64 n7] 28 (0, 0)) ∧ L7.length ≤ c7 ∧ Kd.C k97 w9 A7 L7.length L7 ∧ w9.heap[w.heap.size]? = some (.cells #[.slice none 0 0, .int .i64 0] 28 (0, 0)) := by
  obtain ⟨hT, hR, hN, hS, hc, hB⟩ := F
  obtain ⟨A', c', e, h1, h2⟩ := hR.app hN hg
  simp only [Value.agg.injEq, Array.mk.injEq, List.cons.injEq, Value.slice.injEq, true_and, and_true] at e
  obtain ⟨rfl, rfl⟩ := e
  exact ⟨below_app hB hN hB.size hg, hT.app hN hg, cells_app hc (by decide) hN hg, h1, h2, cells_app hS (by decide) hN hg⟩
set_option maxHeartbeats 2000000 in
set_option maxRecDepth 1000000 in
theorem made_calls (A : Option Addr) (c : Nat) (l : List MN) (w : World) (hC : Kd.C k89 w A l.length l) (hc : l.length ≤ c) (hl : l.length ≤ 60) (hs : ∀ x ∈ l, x.f1.size < 4294967281) :
    Calls Try.prog 12 #[.slice A l.length c] w fun e w' => ∃ p B v, e = .returned (.tuple #[pT p, v]) ∧ TreeB w' p B (trOf (madeF l).L (madeF l).last) ∧ RAt w' v (madeF l).L (madeF l).last ∧ Below w.heap.size w w' ∧ w.heap.size ≤ p ∧ w.heap.size ≤ B := by
  have HC := Lib.hid hC
  have HS := Lib.hid hs
  have HN := Lib.hid (fun W => new_calls W)
  have HRN := Lib.hid (fun W => linhayref07_New.calls [⟨1, 1, ⟨#[]⟩, 1, ⟨#[]⟩⟩] 1 W rfl)
  clear hC hs
  go_enter Try.func12, Try.ntmps12
  go_wp2_with (first | (go_at_call 45; refine (HN.out _).mono ?_; rintro e w2 ⟨p, B, rfl, hT2, hb2, hp2, hB2⟩) | (go_at_call 43; refine (HRN.out _).mono ?_; rintro e w3 ⟨v3, rfl, ho3, hb3⟩; obtain ⟨A3, c3, rfl, hle3, hC3⟩ := Kd.R_reads ho3))
  have hM0 : MW w ((w3.alloc (.cells #[.slice A3 1 c3, .int .i64 1] 28)).alloc (.cells #[] 3)) p B w3.heap.size (.slice (some ⟨w3.heap.size + 1, 0, none⟩) 0 0) made0 := by
    have hb0 := (Below.refl w.heap.size w).alloc (Nat.le_refl _) (.cells #[.slice none 0 0, .int .i64 0] 28)
    have hsz0 : w.heap.size + 1 = (w.alloc (.cells #[.slice none 0 0, .int .i64 0] 28)).heap.size := by simp
    have hbA := below_two w3 (.cells #[.slice A3 1 c3, .int .i64 1] 28) (.cells #[] 3)
    have hb3' : Below w.heap.size w w3 := (hb0.trans (hb2.mono (by omega))).trans (hb3.mono (Nat.le_trans (by omega) hb2.size))
    have hle : w.heap.size + 1 ≤ w3.heap.size := Nat.le_trans (Nat.le_trans (by omega) hb2.size) hb3.size
    have h1 := heap_alloc_new w (.cells #[.slice none 0 0, .int .i64 0] 28)
    refine ⟨hb3'.trans (hbA.mono hb3'.size), by
      have := (hT2.below hb3).below hbA
      rw [T0_eq] at this
      exact this, by omega, by omega, by omega, ⟨A3, c3, ?_, hle3, Kd.C_below hC3 hbA⟩, ?_, ?_⟩
    · exact (((Below.refl _ (w3.alloc (.cells #[.slice A3 1 c3, .int .i64 1] 28))).alloc (Nat.le_refl _) (.cells #[] 3)).block w3.heap.size (by simp)).trans (heap_alloc_new w3 _)
    · have := OwnN.made (w3.alloc (.cells #[.slice A3 1 c3, .int .i64 1] 28)) w.heap.size (by simp; omega)
      simpa [made0] using this
    · exact (hbA.block _ (by omega)).trans ((hb3.block _ (by have := hb2.size; omega)).trans ((hb2.block _ (by omega)).trans h1))
  have HM0 := Aside0.mk hM0
  clear hM0 hb2 hb3 hT2 hp2 hB2 ho3 hle3 hC3
  go_loopw [6, 7] (fun v6 v7 wr => ∃ i : Nat, v7 = .int .i64 (i : Int) ∧ i ≤ l.length ∧ MW w wr p B w3.heap.size v6 ((l.take i).foldl madeStep made0) ∧ MInv ((l.take i).foldl madeStep made0) i) (fun _ v _ => l.length - (intOf v).toNat)
  case atStart => exact ⟨0, rfl, Nat.zero_le _, HM0.out, minv0⟩
  case round =>
    obtain ⟨i, rfl, hi, hM, hI⟩ := hrel
    have HM := Aside0.mk hM
    have HI := Aside0.mk hI
    by_cases hlt : i < l.length
    · obtain ⟨ad, eA, a0, a1, a2, a3⟩ := at_T89 (Kd.C_below HC.out hM.hb) (i : Int) (by omega) (by omega)
      have hrd : rd_T89 l (i : Int) = l[i] := by simp [rd_T89, hlt]
      rw [hrd] at a0 a1 a2 a3
      rw [Int.toNat_natCast] at a0 a1 a2 a3
      subst eA
      have hsz := HS.out l[i] (List.getElem_mem hlt)
      have htk : (l.take (i + 1)).foldl madeStep made0 = madeStep ((l.take i).foldl madeStep made0) l[i] := by
        rw [List.take_succ_eq_append_getElem hlt, List.foldl_append]; rfl
      have HTK := Lib.hid htk
      have HRD := Lib.hid hrd
      clear htk hrd
      generalize (l.take i).foldl madeStep made0 = st at *
      generalize l[i] = x at *
      obtain ⟨A5, c5, hcl, hle5, hC5⟩ := hM.cell
      obtain ⟨A6, c6, rfl, hle6, hC6⟩ := Kd.R_reads hM.nums.toR
      have hlen := hI.len
      have hlt' : (i : Int) < (l.length : Int) := by omega
      have hi0 : (0 : Int) ≤ (i : Int) := by omega
      have HCL := Aside0.mk (And.intro hcl (And.intro hle5 hC5))
      have HARG := Lib.hid (fun (W : World) (h : Below w.heap.size w W) => show W.cell? ⟨(ad.add (i * 4)).block, (ad.add (i * 4)).off + 1, none⟩ = some (.string x.f1) ∧ W.cell? ⟨(ad.add (i * 4)).block, (ad.add (i * 4)).off + 2, none⟩ = some (.int .i64 x.f2) ∧ W.cell? ⟨(ad.add (i * 4)).block, (ad.add (i * 4)).off + 3, none⟩ = some (.string x.f3) by
        obtain ⟨ad', e', b0, b1, b2, b3⟩ := at_T89 (Kd.C_below HC.out h) (i : Int) hi0 hlt'
        cases e'
        rw [Int.toNat_natCast, HRD.out] at b0 b1 b2 b3
        exact ⟨b1, b2, b3⟩)
      have hdin := dirAt_in HI.out x
      have hla : st.last < 1000000 := by have := HI.out.last; omega
      have HPT := Lib.hid (fun W h => tput_calls p B st.L st.last (dirAt st.nums x) x.f1 x.f2 x.f3 W h HI.out.good (wf_of (by omega)) hsz hla)
      have HRP := Lib.hid (fun v W h => rput_calls st.L st.last (dirAt st.nums x) v x.f1 x.f2 x.f3 W h HI.out.good hla)
      have HSTEP := Lib.hid (show madeStep st x = ⟨putL st.L st.last (dirAt st.nums x) x.f1 x.f2 x.f3, putN st.L st.last (dirAt st.nums x) x.f1 x.f2 x.f3, st.nums ++ [putA st.L st.last (dirAt st.nums x) x.f1 x.f2 x.f3]⟩ from rfl)
      have hdir0 : dirAt st.nums x = (if 0 ≤ x.f0 ∧ x.f0 < (i : Int) then st.nums.getD x.f0.toNat 0 else 1) := by
        unfold dirAt; rw [hlen]
      generalize putL st.L st.last (dirAt st.nums x) x.f1 x.f2 x.f3 = L7 at HPT HRP HSTEP
      generalize putN st.L st.last (dirAt st.nums x) x.f1 x.f2 x.f3 = n7 at HPT HRP HSTEP
      generalize putA st.L st.last (dirAt st.nums x) x.f1 x.f2 x.f3 = m7 at HPT HRP HSTEP
      generalize putRE st.L (dirAt st.nums x) x.f1 x.f2 x.f3 = e7 at HPT HRP
      have HNL := Lib.hid hlen
      by_cases hd : 0 ≤ x.f0 ∧ x.f0 < (i : Int)
      case' pos =>
        obtain ⟨d0, d1⟩ := hd
        obtain ⟨a6, eA6, n0⟩ := Kd.at_int hC6 x.f0 d0 (by omega)
        have hdir : dirAt st.nums x = rd st.nums x.f0 := by
          rw [hdir0, if_pos ⟨d0, d1⟩]; rfl
        have d2 : x.f0 < (st.nums.length : Int) := by omega
        rw [← hdir] at n0
        subst eA6
        clear hdir
      case' neg =>
        have hdir : dirAt st.nums x = 1 := by rw [hdir0, if_neg hd]
        rw [hdir] at HPT HRP
        have hd2 : x.f0 < 0 ∨ ((0 : Int) ≤ x.f0 ∧ (i : Int) ≤ x.f0) := by omega
        clear hdir hd
        rcases hd2 with hd2 | ⟨hd2, hd3⟩
      all_goals
        clear hM hI hcl hle5 hC5 hC6 hdin hla hsz hlen hdir0
        go_upto_region 9 with (fail)
        go_region_held3 (fun w' => w'.cell? ⟨(ad.add (i * 4)).block, (ad.add (i * 4)).off + 1, none⟩ = some (.string x.f1) ∧ w'.cell? ⟨(ad.add (i * 4)).block, (ad.add (i * 4)).off + 2, none⟩ = some (.int .i64 x.f2) ∧ w'.cell? ⟨(ad.add (i * 4)).block, (ad.add (i * 4)).off + 3, none⟩ = some (.string x.f3)) (first | (go_keep; done) | exact HA5.out)
          ((go_at_call 46; refine (HPT.out _ (by first | exact HM.out.tree | exact HM.out.tree.drew | exact HM.out.tree.below (pw_below_drewN (Below.refl _ _) _))).mono ?_; rintro e w5 ⟨rfl, hT5, hf5⟩; have hf5' : Frm wr w5 p B := (by first | exact hf5 | exact (Frm.ofBelow (below_drew (Below.refl _ wr))).trans hf5 | exact (Frm.ofBelow (pw_below_drewN (Below.refl _ wr) _)).trans hf5); have HB5 := Aside0.mk (HM.out.hb.trans (Frm.below hf5' HM.out.hb.size HM.out.hp HM.out.hB)); have HA5 := Lib.hid (HARG.out w5 HB5.out)))
        obtain ⟨hcl, hle5, hC5⟩ := HCL.out
        have hcl5 := cells_frm hcl (by decide) HM.out.tree hf5'
        have hR5 : RAt w5 (.agg #[.slice A5 st.L.length c5, .int .i64 st.last]) st.L st.last := RAt.frm ⟨A5, c5, rfl, hle5, hC5⟩ HM.out.tree hf5'
        have hN5 := HM.out.nums.frm HM.out.tree hf5'
        have hS5 := cells_frm HM.out.res (by decide) HM.out.tree hf5'
        have r0 : w5.cell? ⟨w3.heap.size, 0, none⟩ = some (.slice A5 st.L.length c5) := by rw [blk_cell hcl5]; rfl
        have r1 : w5.cell? ⟨w3.heap.size, 1, none⟩ = some (.int .i64 st.last) := by rw [blk_cell hcl5]; rfl
        obtain ⟨b1, b2, b3⟩ := HA5.out
        have hrlt : w3.heap.size < w5.heap.size := blk_lt hcl5
        have HK5 := Lib.hid (fun (W : World) (h : Below w5.heap.size w5 W) => show W.cell? ⟨w3.heap.size, 0, none⟩ = some (.slice A5 st.L.length c5) ∧ W.cell? ⟨w3.heap.size, 1, none⟩ = some (.int .i64 st.last) ∧ W.cell? ⟨(ad.add (i * 4)).block, (ad.add (i * 4)).off + 1, none⟩ = some (.string x.f1) ∧ W.cell? ⟨(ad.add (i * 4)).block, (ad.add (i * 4)).off + 2, none⟩ = some (.int .i64 x.f2) ∧ W.cell? ⟨(ad.add (i * 4)).block, (ad.add (i * 4)).off + 3, none⟩ = some (.string x.f3) from ⟨pw_cell_below h r0, pw_cell_below h r1, pw_cell_below h b1, pw_cell_below h b2, pw_cell_below h b3⟩)
        have HF5 := Aside0.mk (And.intro hcl5 (And.intro hR5 (And.intro hN5 (And.intro hS5 hT5))))
        have HP := Aside0.mk (And.intro HM.out.hp (And.intro HM.out.hB HM.out.hr))
        clear hcl hle5 hC5 hcl5 hR5 hN5 hS5 hT5 hf5 hf5' HM HCL HARG HA5 HPT a0 a1 a2 a3
        go_upto_region 10 with (fail)
        go_region_held3 (fun w' => w'.cell? ⟨w3.heap.size, 0, none⟩ = some (.slice A5 st.L.length c5) ∧ w'.cell? ⟨w3.heap.size, 1, none⟩ = some (.int .i64 st.last) ∧ w'.cell? ⟨(ad.add (i * 4)).block, (ad.add (i * 4)).off + 1, none⟩ = some (.string x.f1) ∧ w'.cell? ⟨(ad.add (i * 4)).block, (ad.add (i * 4)).off + 2, none⟩ = some (.int .i64 x.f2) ∧ w'.cell? ⟨(ad.add (i * 4)).block, (ad.add (i * 4)).off + 3, none⟩ = some (.string x.f3)) (first | (go_keep; done) | exact HK5.out _ hb56 | exact HK5.out _ (hb56.alloc hb56.size _) | exact HK5.out _ (hb56.setCell (p := ⟨w5.heap.size, 0, none⟩) (Nat.le_refl _) _) | exact HK5.out _ ((hb56.setCell (p := ⟨w5.heap.size, 0, none⟩) (Nat.le_refl _) _).setCell (p := ⟨w5.heap.size, 1, none⟩) (Nat.le_refl _) _))
          ((go_at_call 47; refine (HRP.out _ _ (by first | exact HF5.out.2.1 | exact HF5.out.2.1.below (below_drew (Below.refl _ _)) | exact HF5.out.2.1.below (below_drew ((Below.refl _ w5).alloc (Nat.le_refl _) _)) | exact HF5.out.2.1.below ((Below.refl _ w5).alloc (Nat.le_refl _) _) | exact HF5.out.2.1.below (pw_below_drewN (Below.refl _ _) _) | exact HF5.out.2.1.below (pw_below_drewN ((Below.refl _ w5).alloc (Nat.le_refl _) _) _))).mono ?_; rintro e w6 ⟨v', rfl, ⟨A7, c7, rfl, hle7, hC7⟩, hb6⟩; have hb56 : Below w5.heap.size w5 w6 := (by first | exact (below_drew (Below.refl _ w5)).trans hb6 | exact (below_drew ((Below.refl _ w5).alloc (Nat.le_refl _) _)).trans (hb6.mono (by simp)) | exact (pw_below_drewN (Below.refl _ w5) _).trans hb6 | exact (pw_below_drewN ((Below.refl _ w5).alloc (Nat.le_refl _) _) _).trans (hb6.mono (by simp))); have HC7 := Aside0.mk hC7; clear hC7; (first | (have h9 := (hb6.block w5.heap.size (by simp)).trans (heap_alloc_new w5 _); have x90 : w6.cell? ⟨w5.heap.size, 0, none⟩ = some (.slice none 0 0) := (by rw [blk_cell h9]; rfl); have x91 : w6.cell? ⟨w5.heap.size, 1, none⟩ = some (.int .i64 0) := (by rw [blk_cell h9]; rfl); have f90 := blk_frozen h9 0; have f91 := blk_frozen h9 1; have H9 := Aside0.mk h9; clear h9) | skip)))
        all_goals first
          | (have h9' := H9.out; have hR7 : RAt ((w6.setCell ⟨w5.heap.size, 0, none⟩ (.slice A7 L7.length c7)).setCell ⟨w5.heap.size, 1, none⟩ (.int .i64 n7)) (.agg #[.slice A7 L7.length c7, .int .i64 n7]) L7 n7 := RAt.but ⟨A7, c7, rfl, hle7, HC7.out⟩ (but_two h9' (by simp) (by simp)); have hb57 : Below w5.heap.size w5 ((w6.setCell ⟨w5.heap.size, 0, none⟩ (.slice A7 L7.length c7)).setCell ⟨w5.heap.size, 1, none⟩ (.int .i64 n7)) := (hb56.setCell (p := ⟨w5.heap.size, 0, none⟩) (Nat.le_refl _) _).setCell (p := ⟨w5.heap.size, 1, none⟩) (Nat.le_refl _) _; have h7 := two_set (u0 := .slice A7 L7.length c7) (u1 := .int .i64 n7) h9'; have hgr : w3.heap.size < w5.heap.size := hrlt; clear x90 x91 f90 f91 H9 h9'; generalize (w6.setCell ⟨w5.heap.size, 0, none⟩ (.slice A7 L7.length c7)).setCell ⟨w5.heap.size, 1, none⟩ (.int .i64 n7) = w7 at hR7 hb57 h7 ⊢; generalize w5.heap.size = g at h7 hgr ⊢)
          | (have hb57 : Below w5.heap.size w5 (w6.alloc (.cells #[.slice A7 L7.length c7, .int .i64 n7] 28)) := hb56.alloc hb56.size _; have hR7 : RAt (w6.alloc (.cells #[.slice A7 L7.length c7, .int .i64 n7] 28)) (.agg #[.slice A7 L7.length c7, .int .i64 n7]) L7 n7 := RAt.below ⟨A7, c7, rfl, hle7, HC7.out⟩ ((Below.refl _ w6).alloc (Nat.le_refl _) _); have h7 := heap_alloc_new w6 (.cells #[.slice A7 L7.length c7, .int .i64 n7] 28); have hgr : w3.heap.size < w6.heap.size := Nat.lt_of_lt_of_le hrlt hb56.size; generalize w6.alloc (.cells #[.slice A7 L7.length c7, .int .i64 n7] 28) = w7 at hR7 hb57 h7 ⊢; generalize w6.heap.size = g at h7 hgr ⊢)
        all_goals
          obtain ⟨hcl5, hR5, hN5, hS5, hT5⟩ := HF5.out
          have hcl7 := (hb57.block _ hrlt).trans hcl5
          have hS7 := (hb57.block _ (blk_lt hS5)).trans hS5
          have hN7 := hN5.below hb57
          have hT7 := hT5.below hb57
          have hB7 := HB5.out.trans (hb57.mono HB5.out.size)
          have y0 : w7.cell? ⟨g, 0, none⟩ = some (.slice A7 L7.length c7) := by rw [blk_cell h7]; rfl
          have y1 : w7.cell? ⟨g, 1, none⟩ = some (.int .i64 n7) := by rw [blk_cell h7]; rfl
          have z0 : w7.cell? ⟨w3.heap.size, 0, none⟩ = some (.slice A5 st.L.length c5) := by rw [blk_cell hcl7]; rfl
          have z1 : w7.cell? ⟨w3.heap.size, 1, none⟩ = some (.int .i64 st.last) := by rw [blk_cell hcl7]; rfl
          have f0 := blk_frozen hcl7 0
          have f1 := blk_frozen hcl7 1
          have hgne : g ≠ w3.heap.size := by omega
          have hpne : p ≠ w3.heap.size := by
            rintro rfl
            have h1 := hcl7
            rw [hT7.two.1] at h1
            injection h1 with h1
            injection h1 with _ h1
            exact absurd h1 (by decide)
          have hBne : B ≠ w3.heap.size := by
            rintro rfl
            have h1 := hcl7
            obtain ⟨_, es, ck, h2⟩ := hT7.two
            rw [h2] at h1
            cases h1
          have hbut := but_two (u0 := .slice A7 L7.length c7) (u1 := .int .i64 n7) hcl7 (by simp) (by simp)
          have hT8 := hT7.but hbut hpne hBne
          have hR8 := RAt.but hR7 hbut
          have hN8 := hN7.but hcl7 (by decide) hbut
          have hS8 := (hbut.g.block _ (blk_lt hS7) (fun e => by have := Option.some.inj e; have := HP.out.2.2; omega)).trans hS7
          have hcl8 := two_set (u0 := .slice A7 L7.length c7) (u1 := .int .i64 n7) hcl7
          have hB8 := (hB7.setCell (p := ⟨w3.heap.size, 0, none⟩) (Nat.le_of_lt HP.out.2.2) (.slice A7 L7.length c7)).setCell (p := ⟨w3.heap.size, 1, none⟩) (Nat.le_of_lt HP.out.2.2) (.int .i64 n7)
          have F8 := Aside0.mk (And.intro hT8 (And.intro hR8 (And.intro hN8 (And.intro hS8 (And.intro hcl8 hB8)))))
          clear hcl5 hR5 hN5 hS5 hT5 hS7 hN7 hT7 hT8 hR8 hN8 hS8 hcl8 hB8 hbut hcl7 h7 hR7 hb57 hB7 hpne hBne hb6 HC7 r0 r1 b1 b2 b3 HF5 HK5
          go_upto_region 12 with (fail)
          generalize (w7.setCell ⟨w3.heap.size, 0, none⟩ (.slice A7 L7.length c7)).setCell ⟨w3.heap.size, 1, none⟩ (.int .i64 n7) = w8 at F8 ⊢
          clear y0 y1 z0 z1 f0 f1
          go_wp2_with ((with_reducible refine gate_builtin (b := .append) (xs := #[.tmp 85, .tmp 87]) rfl ?_); at_builtin; refine wpList_append_ints rfl (.tmp 85) (.tmp 87) rfl w.heap.size _ st.nums m7 rfl rfl F8.out.2.2.1 F8.out.2.2.2.2.2.size (by have := HNL.out; omega) ?_; intro v9 w9 ho9 hg9)
          have HO9 := Aside0.mk ho9
          have F9 := made_round F8.out hle7 hg9
          have HF9 := Aside0.mk F9
          clear ho9 hg9 F9
          go_roundw
          case rel =>
            refine ⟨i + 1, by go_num, hlt, ?_, ?_⟩
            · rw [HTK.out, HSTEP.out]
              obtain ⟨g1, g2, g3, g4, g5, g6⟩ := HF9.out
              exact ⟨g1, g2, HP.out.1, HP.out.2.1, HP.out.2.2, ⟨A7, c7, g3, g4, g5⟩, HO9.out, g6⟩
            · rw [HTK.out]; exact minv_step HI.out x
          case measure => simp [intOf]; omega
    · obtain rfl : i = l.length := by omega
      rw [List.take_length] at hM hI
      obtain ⟨A5, c5, hcl, hle5, hC5⟩ := hM.cell
      change wr.heap[w3.heap.size]? = some (.cells #[.slice A5 (madeF l).L.length c5, .int .i64 (madeF l).last] _ (0, 0)) at hcl
      change (madeF l).L.length ≤ c5 at hle5
      change Kd.C _ wr A5 (madeF l).L.length (madeF l).L at hC5
      have HT := Aside0.mk (show TreeB wr p B (trOf (madeF l).L (madeF l).last) from hM.tree)
      have HX := Aside0.mk (And.intro hle5 hC5)
      have HP := Aside0.mk (And.intro hM.hp hM.hB)
      have HBB := Aside0.mk hM.hb
      have HRES := Aside0.mk hM.res
      have x0 : wr.cell? ⟨w3.heap.size, 0, none⟩ = some (.slice A5 (madeF l).L.length c5) := by rw [blk_cell hcl]; rfl
      have x1 : wr.cell? ⟨w3.heap.size, 1, none⟩ = some (.int .i64 (madeF l).last) := by rw [blk_cell hcl]; rfl
      have y0 : wr.cell? ⟨w.heap.size, 0, none⟩ = some (.slice none 0 0) := by rw [blk_cell hM.res]; rfl
      have y1 : wr.cell? ⟨w.heap.size, 1, none⟩ = some (.int .i64 0) := by rw [blk_cell hM.res]; rfl
      have f0 := blk_frozen hM.res 0
      have f1 := blk_frozen hM.res 1
      have hbut := but_two (u0 := .slice A5 (madeF l).L.length c5) (u1 := .int .i64 (madeF l).last) hM.res (by simp) (by simp)
      have hpne : p ≠ w.heap.size := by
        rintro rfl
        have h1 := hM.res
        rw [hM.tree.two.1] at h1
        injection h1 with h1
        injection h1 with _ h1
        exact absurd h1 (by decide)
      have hBne : B ≠ w.heap.size := by
        rintro rfl
        have h1 := hM.res
        obtain ⟨_, es, ck, h2⟩ := hM.tree.two
        rw [h2] at h1
        cases h1
      have hT9 := HT.out.but hbut hpne hBne
      have hR9 : RAt ((wr.setCell ⟨w.heap.size, 0, none⟩ (.slice A5 (madeF l).L.length c5)).setCell ⟨w.heap.size, 1, none⟩ (.int .i64 (madeF l).last)) (.agg #[.slice A5 (madeF l).L.length c5, .int .i64 (madeF l).last]) (madeF l).L (madeF l).last := RAt.but ⟨A5, c5, rfl, hle5, hC5⟩ hbut
      have hB9 : Below w.heap.size w ((wr.setCell ⟨w.heap.size, 0, none⟩ (.slice A5 (madeF l).L.length c5)).setCell ⟨w.heap.size, 1, none⟩ (.int .i64 (madeF l).last)) := (hM.hb.setCell (Nat.le_refl _) _).setCell (Nat.le_refl _) _
      have k2 : ((wr.setCell ⟨w.heap.size, 0, none⟩ (.slice A5 (madeF l).L.length c5)).setCell ⟨w.heap.size, 1, none⟩ (.int .i64 (madeF l).last)).heap[w.heap.size]? = some (.cells #[.slice A5 (madeF l).L.length c5, .int .i64 (madeF l).last] 28 (0, 0)) := by
        have k1 : (wr.setCell ⟨w.heap.size, 0, none⟩ (.slice A5 (madeF l).L.length c5)).heap[w.heap.size]? = some (.cells #[.slice A5 (madeF l).L.length c5, .int .i64 0] 28 (0, 0)) := by rw [setCell_eq_setRow wr _ 0 _ _ _ _ hM.res, setRow_heap wr _ _ _ _ _ hM.res]; rfl
        rw [setCell_eq_setRow _ _ 1 _ _ _ _ k1, setRow_heap _ _ _ _ _ _ k1]; rfl
      have FIN := Aside0.mk (And.intro hT9 (And.intro hR9 (And.intro hB9 (And.intro k2 (And.intro hM.hp hM.hB)))))
      clear hM hI hcl hle5 hC5 hbut hpne hBne hT9 hR9 hB9 k2 HT HX HP HBB HRES
      go_wp2
      go_region
      go_wp2
      obtain ⟨hT9, hR9, hB9, k2, hp9, hBB9⟩ := FIN.out
      generalize (wr.setCell ⟨w.heap.size, 0, none⟩ (.slice A5 (madeF l).L.length c5)).setCell ⟨w.heap.size, 1, none⟩ (.int .i64 (madeF l).last) = w9 at hT9 hR9 hB9 k2 ⊢
      have c0 : w9.cell? ⟨w.heap.size, 0, none⟩ = some (.slice A5 (madeF l).L.length c5) := by rw [blk_cell k2]; rfl
      have c1 : w9.cell? ⟨w.heap.size, 1, none⟩ = some (.int .i64 (madeF l).last) := by rw [blk_cell k2]; rfl
      have hu := Try.underlying28
      refine bodyPost_ret (v := .tuple #[pT p, .agg #[.slice A5 (madeF l).L.length c5, .int .i64 (madeF l).last]]) (by simp [results, Try.results12, go_sem, c0, c1, hu]) rfl ⟨p, B, _, rfl, hT9.drew, hR9.below (below_drew (Below.refl _ _)), below_drew hB9, hp9, hBB9⟩
end Go.Proofs.Ytjfigngmpagloaa.Tw

namespace Go.Proofs.Ytjfigngmpagloaa.Tw
open Go Go.RowKit Go.Shelf Go.Proofs Go.Proofs.Ytjfigngmpagloaa Go.Proofs.YtjfigngmpagloaaW.PrintWords Go.Proofs.Ytjfigngmpagloaa.Ext Go.Proofs.Ytjfigngmpagloaa.X Go.Proofs.Ytjfigngmpagloaa.Pu
set_option linter.unusedVariables false
set_option linter.unusedSimpArgs false
end Go.Proofs.Ytjfigngmpagloaa.Tw

namespace Go.Proofs.Ytjfigngmpagloaa.Tw
open Go Go.RowKit Go.Shelf Go.Proofs Go.Proofs.Ytjfigngmpagloaa Go.Proofs.YtjfigngmpagloaaW.PrintWords Go.Proofs.Ytjfigngmpagloaa.Ext Go.Proofs.Ytjfigngmpagloaa.X Go.Proofs.Ytjfigngmpagloaa.Pu
set_option linter.unusedVariables false
set_option linter.unusedSimpArgs false
theorem get_of {L : List RN} {last : Int} {n : Int} {x : Nd} (h : (trOf L last).get n = some x) : ∃ r ∈ L, x = ndOf L r := by
  unfold trOf at h
  obtain ⟨r, hr, rfl⟩ := Option.map_eq_some_iff.1 h
  exact ⟨r, List.mem_of_find?_eq_some hr, rfl⟩
theorem trOK {L : List RN} {last : Int} (h : GoodL L last) (hl : last ≤ 1000000) : TrOK (trOf L last) := by
  refine ⟨fun n x hx => ?_, fun n x hx => ?_, fun n x hx => ?_, fun n x hx e he => ?_, fun n x hx => ?_⟩
  · obtain ⟨r, hr, rfl⟩ := get_of hx
    exact h.rt _
  · obtain ⟨r, hr, rfl⟩ := get_of hx
    have h1 := ents_len L r.f0
    have h2 := h.len
    show (entsOf L r.f0).length < _
    omega
  · obtain ⟨r, hr, rfl⟩ := get_of hx
    obtain ⟨q, hq, hqn, _⟩ := at_kind (L := L) (n := r.f1) (by rw [h.up r hr]; decide)
    have := h.num q hq
    exact wf_of (n := r.f1) (by omega)
  · obtain ⟨r, hr, rfl⟩ := get_of hx
    obtain ⟨q, hq, _, rfl⟩ := mem_ents.1 (show e ∈ entsOf L r.f0 from he)
    have := h.num q hq
    exact wf_of (n := q.f0) (by omega)
  · obtain ⟨r, hr, rfl⟩ := get_of hx
    exact h.data r hr
end Go.Proofs.Ytjfigngmpagloaa.Tw

namespace Go.Proofs.Ytjfigngmpagloaa.Tw
open Go Go.RowKit Go.Shelf Go.Proofs Go.Proofs.Ytjfigngmpagloaa Go.Proofs.YtjfigngmpagloaaW.PrintWords Go.Proofs.Ytjfigngmpagloaa.Ext Go.Proofs.Ytjfigngmpagloaa.X Go.Proofs.Ytjfigngmpagloaa.Pu
set_option linter.unusedVariables false
set_option linter.unusedSimpArgs false
def cellsN (x : MN) : List Value := [.int .i64 x.f0, .string x.f1, .int .i64 x.f2, .string x.f3]
theorem flat4 : ∀ (l : List MN) (j i : Nat) (x : MN) (u : Value), l[j]? = some x → (cellsN x)[i]? = some u → (l.flatMap cellsN)[j * 4 + i]? = some u
  | [], j, i, x, u, h, _ => by simp at h
  | a :: l, 0, i, x, u, h, hu => by
    have : a = x := by simpa using h
    subst this
    rw [List.flatMap_cons, Nat.zero_mul, Nat.zero_add, List.getElem?_append_left (List.getElem?_eq_some_iff.1 hu).1]
    exact hu
  | a :: l, j + 1, i, x, u, h, hu => by
    have hl : (cellsN a).length = 4 := rfl
    rw [List.flatMap_cons, List.getElem?_append_right (by rw [hl]; omega), hl, show (j + 1) * 4 + i - 4 = j * 4 + i by omega]
    exact flat4 l j i x u (by simpa using h) hu
theorem litN (w : World) (g : Nat) (l : List MN) (t : TypeId) (h : w.heap[g]? = some (.cells (l.flatMap cellsN).toArray t (0, 0))) (hn : l.length ≤ 1000000) : Kd.C k89 w (some ⟨g, 0, none⟩) l.length l := by
  refine ⟨rfl, by omega, fun _ => ⟨_, rfl, fun j x hj => ?_⟩⟩
  refine ⟨cellsN x, rfl, k89_mk _ _, fun i u hu => ?_⟩
  rw [Addr.add_lit, Nat.zero_add, cell_of_row w g _ _ t (0, 0) h]
  have := flat4 l j i x u hj hu
  have e : k89.sz = 4 := rfl
  rw [e]
  simpa using this
end Go.Proofs.Ytjfigngmpagloaa.Tw

namespace Go.Proofs.Ytjfigngmpagloaa.Tw
open Go Go.RowKit Go.Shelf Go.Proofs Go.Proofs.Ytjfigngmpagloaa Go.Proofs.YtjfigngmpagloaaW.PrintWords Go.Proofs.Ytjfigngmpagloaa.Ext Go.Proofs.Ytjfigngmpagloaa.X Go.Proofs.Ytjfigngmpagloaa.Pu
set_option linter.unusedVariables false
set_option linter.unusedSimpArgs false
def bulkN (x : MN) : Nat := 1 + (x.f1.size + 1 + (1 + (x.f3.size + 1))) + 1
theorem sum_in8 {α : Type} (β : α → Nat) {x : α} : ∀ {l : List α}, x ∈ l → β x ≤ (l.map β).sum
  | y :: l, h => by
    rw [List.map_cons, List.sum_cons]
    rcases List.mem_cons.1 h with rfl | h
    · omega
    · have := sum_in8 β h; omega
theorem few_ev (l : List MN) (hl : l.length < 4294967296) : ∃ b, Ev (fun k => linhaylaw08_Few.f k l) b ∧ (b = true → l.length ≤ 60) := by
  have key : ∀ (d i : Nat), i + d = l.length → ∃ b, Ev (fun k => linhaylaw08_Few.l0 k l (i : Int)) b ∧ (b = true → l.length ≤ 60) := by
    intro d
    induction d with
    | zero =>
      intro i hi
      refine ⟨decide ((l.length : Int) ≤ 60), ?_, fun h => by have := of_decide_eq_true h; omega⟩
      refine Ev.step (fun k => by rw [linhaylaw08_Few.l0]) ?_
      exact ev_neg (by omega) (Ev.now _)
    | succ d ih =>
      intro i hi
      obtain ⟨b, h1, h2⟩ := ih (i + 1) (by omega)
      by_cases hz : (((rd_T89 l (i : Int)).f3).size : Int) > 2000
      · refine ⟨false, ?_, fun h => by cases h⟩
        refine Ev.step (fun k => by rw [linhaylaw08_Few.l0]) ?_
        exact ev_pos (by omega) (ev_pos (by omega) (ev_pos hz (Ev.now _)))
      · refine ⟨b, ?_, h2⟩
        refine Ev.step (fun k => by rw [linhaylaw08_Few.l0]) ?_
        refine ev_pos (by omega) (ev_pos (by omega) (ev_neg hz ?_))
        rw [w1 (by omega)]
        exact h1
  exact key l.length 0 (by omega)
end Go.Proofs.Ytjfigngmpagloaa.Tw

namespace Go.Proofs.Ytjfigngmpagloaa.Tw
open Go Go.RowKit Go.Shelf Go.Proofs Go.Proofs.Ytjfigngmpagloaa Go.Proofs.YtjfigngmpagloaaW.PrintWords Go.Proofs.Ytjfigngmpagloaa.Ext Go.Proofs.Ytjfigngmpagloaa.X Go.Proofs.Ytjfigngmpagloaa.Pu
set_option linter.unusedVariables false
set_option linter.unusedSimpArgs false
theorem three_set {w : World} {k : Nat} {v0 v1 v2 u0 u1 u2 : Value} {t : TypeId} (h : w.heap[k]? = some (.cells #[v0, v1, v2] t (0, 0))) : (((w.setCell ⟨k, 0, none⟩ u0).setCell ⟨k, 1, none⟩ u1).setCell ⟨k, 2, none⟩ u2).heap[k]? = some (.cells #[u0, u1, u2] t (0, 0)) := by
  have k1 : (w.setCell ⟨k, 0, none⟩ u0).heap[k]? = some (.cells #[u0, v1, v2] t (0, 0)) := by rw [setCell_eq_setRow w _ 0 _ _ _ _ h, setRow_heap w _ _ _ _ _ h]; rfl
  have k2 : ((w.setCell ⟨k, 0, none⟩ u0).setCell ⟨k, 1, none⟩ u1).heap[k]? = some (.cells #[u0, u1, v2] t (0, 0)) := by rw [setCell_eq_setRow _ _ 1 _ _ _ _ k1, setRow_heap _ _ _ _ _ _ k1]; rfl
  rw [setCell_eq_setRow _ _ 2 _ _ _ _ k2, setRow_heap _ _ _ _ _ _ k2]; rfl
def sizeT (T : Tr) (n : Int) : Int := ((T.node n).data.size : Int) + ((T.node n).ents.length : Int)
def stT (T : Tr) (R : Int × Int) : Int × Int × Int := if R.2 = 0 then (R.1, (T.node R.1).kind, sizeT T R.1) else (0, 0, 0)
abbrev v3 (x : Int × Int × Int) : Value := .agg #[.int .i64 x.1, .int .i64 x.2.1, .int .i64 x.2.2]
set_option maxHeartbeats 2000000 in
set_option maxRecDepth 1000000 in
theorem stat_calls (p : Nat) (T : Tr) (s : ByteArray) (last : Bool) (k : Nat) (R : Int × Int) (w : World) (hT : TreeAt w p T) (hO : TrOK T) (hw : wf R.1) (hR : findF T last k s = some R) :
    Calls Try.prog 48 #[pT p, .string s, .bool last] w fun e w' => e = .returned (.tuple #[v3 (stT T R), .int .i64 R.2]) ∧ Below w.heap.size w w' := by
  have HF := Lib.hid (fun W h => seekFind_calls p T s last k R W h hO hR)
  have HK := Lib.hid (fun W h => kind_calls p T R.1 W h hw)
  have HD := Lib.hid (fun W h => data_calls p T R.1 W h hw)
  have HL := Lib.hid (fun W h => list_calls p T R.1 W h hw (hO.small.node R.1))
  have hdz := hO.sz R.1
  have hlz := hO.small.node R.1
  have HT := Lib.hid hT
  have HST := Lib.hid (show stT T R = if R.2 = 0 then (R.1, (T.node R.1).kind, ((T.node R.1).data.size : Int) + ((T.node R.1).ents.length : Int)) else (0, 0, 0) from rfl)
  generalize stT T R = st at *
  obtain ⟨n, e⟩ := R
  simp only [] at *
  generalize T.node n = nd at *
  obtain ⟨kd, up, dt, es⟩ := nd
  simp only [] at *
  clear hT hO hw hR
  have hu := Try.underlying32
  have HB0 := Lib.hid ((Below.refl w.heap.size w).alloc (Nat.le_refl _) (.cells #[.int .i64 0, .int .i64 0, .int .i64 0] 32))
  have HX0 := Lib.hid (heap_alloc_new w (.cells #[.int .i64 0, .int .i64 0, .int .i64 0] 32))
  by_cases he : e = 0
  · subst he
    have hst := HST.out
    rw [if_pos rfl] at hst
    subst hst
    clear HST
    go_enter Try.func48, Try.ntmps48
    go_upto_region 4 with (go_at_call 24; refine (HF.out _ (HT.out.below HB0.out)).mono ?_; rintro e w2 ⟨rfl, hb2⟩)
    have HB2 := Lib.hid (HB0.out.trans (hb2.mono HB0.out.size))
    have H2 := Lib.hid ((hb2.block _ (blk_lt HX0.out)).trans HX0.out)
    have HT2 := Lib.hid (HT.out.below HB2.out)
    clear hb2
    go_wp2_with (first
      | (go_at_call 41; refine (HK.out _ HT2.out).mono ?_; rintro e w3 ⟨rfl, hb3⟩)
      | (go_at_call 53; refine (HD.out _ (HT2.out.below hb3)).mono ?_; rintro e w4 ⟨rfl, hb4⟩)
      | (go_at_call 40; refine (HL.out _ ((HT2.out.below hb3).below hb4)).mono ?_; rintro e w5 ⟨v, rfl, ho, hb5⟩; obtain ⟨A5, c5, rfl, hl5, hC5⟩ := Kd.R_reads ho; have HB5 := Lib.hid (hb3.trans ((hb4.mono hb3.size).trans (hb5.mono (Nat.le_trans hb3.size hb4.size)))); have h5 := (HB5.out.block _ (blk_lt H2.out)).trans H2.out; have x0 : w5.cell? ⟨w.heap.size, 0, none⟩ = some (.int .i64 0) := (by rw [blk_cell h5]; rfl); have x1 : w5.cell? ⟨w.heap.size, 1, none⟩ = some (.int .i64 0) := (by rw [blk_cell h5]; rfl); have x2 : w5.cell? ⟨w.heap.size, 2, none⟩ = some (.int .i64 0) := (by rw [blk_cell h5]; rfl); have f0 := blk_frozen h5 0; have f1 := blk_frozen h5 1; have f2 := blk_frozen h5 2; have H5 := Lib.hid h5; clear h5 ho hC5 hb3 hb4 hb5))
    have H9 := Lib.hid (three_set (u0 := .int .i64 n) (u1 := .int .i64 kd) (u2 := .int .i64 ((dt.size : Int) + (es.length : Int))) H5.out)
    have HB9 := Lib.hid ((((HB2.out.trans (HB5.out.mono HB2.out.size)).setCell (p := ⟨w.heap.size, 0, none⟩) (Nat.le_refl _) (.int .i64 n)).setCell (p := ⟨w.heap.size, 1, none⟩) (Nat.le_refl _) (.int .i64 kd)).setCell (p := ⟨w.heap.size, 2, none⟩) (Nat.le_refl _) (.int .i64 ((dt.size : Int) + (es.length : Int))))
    clear x0 x1 x2
    generalize ((w5.setCell ⟨w.heap.size, 0, none⟩ (.int .i64 n)).setCell ⟨w.heap.size, 1, none⟩ (.int .i64 kd)).setCell ⟨w.heap.size, 2, none⟩ (.int .i64 ((dt.size : Int) + (es.length : Int))) = w9 at H9 HB9 ⊢
    have c0 : w9.cell? ⟨w.heap.size, 0, none⟩ = some (.int .i64 n) := by rw [blk_cell H9.out]; rfl
    have c1 : w9.cell? ⟨w.heap.size, 1, none⟩ = some (.int .i64 kd) := by rw [blk_cell H9.out]; rfl
    have c2 : w9.cell? ⟨w.heap.size, 2, none⟩ = some (.int .i64 ((dt.size : Int) + (es.length : Int))) := by rw [blk_cell H9.out]; rfl
    refine bodyPost_ret (v := .tuple #[.agg #[.int .i64 n, .int .i64 kd, .int .i64 ((dt.size : Int) + (es.length : Int))], .int .i64 0]) (by simp [results, Try.results48, go_sem, c0, c1, c2, hu]) rfl ⟨rfl, HB9.out⟩
  · have hst := HST.out
    rw [if_neg he] at hst
    subst hst
    have he' : (e != 0) = true := bne_iff_ne.2 he
    clear HST he
    go_enter Try.func48, Try.ntmps48
    go_upto_region 3 with (go_at_call 24; refine (HF.out _ (HT.out.below HB0.out)).mono ?_; rintro e w2 ⟨rfl, hb2⟩)
    have h2 := (hb2.block _ (blk_lt HX0.out)).trans HX0.out
    have hB2 := HB0.out.trans (hb2.mono HB0.out.size)
    have x0 : w2.cell? ⟨w.heap.size, 0, none⟩ = some (.int .i64 0) := by rw [blk_cell h2]; rfl
    have x1 : w2.cell? ⟨w.heap.size, 1, none⟩ = some (.int .i64 0) := by rw [blk_cell h2]; rfl
    have x2 : w2.cell? ⟨w.heap.size, 2, none⟩ = some (.int .i64 0) := by rw [blk_cell h2]; rfl
    have f0 := blk_frozen h2 0
    have f1 := blk_frozen h2 1
    have f2 := blk_frozen h2 2
    have H3 := Lib.hid (three_set (u0 := .int .i64 0) (u1 := .int .i64 0) (u2 := .int .i64 0) h2)
    have HB3 := Lib.hid (((hB2.setCell (p := ⟨w.heap.size, 0, none⟩) (Nat.le_refl _) (.int .i64 0)).setCell (p := ⟨w.heap.size, 1, none⟩) (Nat.le_refl _) (.int .i64 0)).setCell (p := ⟨w.heap.size, 2, none⟩) (Nat.le_refl _) (.int .i64 0))
    clear h2 hB2 hb2
    go_wp2
    generalize ((w2.setCell ⟨w.heap.size, 0, none⟩ (.int .i64 0)).setCell ⟨w.heap.size, 1, none⟩ (.int .i64 0)).setCell ⟨w.heap.size, 2, none⟩ (.int .i64 0) = w9 at H3 HB3 ⊢
    have c0 : w9.cell? ⟨w.heap.size, 0, none⟩ = some (.int .i64 0) := by rw [blk_cell H3.out]; rfl
    have c1 : w9.cell? ⟨w.heap.size, 1, none⟩ = some (.int .i64 0) := by rw [blk_cell H3.out]; rfl
    have c2 : w9.cell? ⟨w.heap.size, 2, none⟩ = some (.int .i64 0) := by rw [blk_cell H3.out]; rfl
    refine bodyPost_ret (v := .tuple #[.agg #[.int .i64 0, .int .i64 0, .int .i64 0], .int .i64 e]) (by simp [results, Try.results48, go_sem, c0, c1, c2, hu]) rfl ⟨rfl, HB3.out⟩
end Go.Proofs.Ytjfigngmpagloaa.Tw

namespace Go.Proofs.Ytjfigngmpagloaa.Tw
open Go Go.RowKit Go.Shelf Go.Proofs Go.Proofs.Ytjfigngmpagloaa Go.Proofs.YtjfigngmpagloaaW.PrintWords Go.Proofs.Ytjfigngmpagloaa.Ext Go.Proofs.Ytjfigngmpagloaa.X Go.Proofs.Ytjfigngmpagloaa.Pu
set_option linter.unusedVariables false
set_option linter.unusedSimpArgs false
def OnlyV (W : World) (v : Value) (kind e : Int) : Prop := ∃ g h : Nat, v = .func (.func 96) #[] #[.pointer (some ⟨g, 0, none⟩), .pointer (some ⟨h, 0, none⟩)] ∧ W.heap[g]? = some (.cells #[.int .i64 kind] 3 (0, 0)) ∧ W.heap[h]? = some (.cells #[.int .i64 e] 33 (0, 0))
theorem OnlyV.below {w W : World} {v : Value} {kind e : Int} (h : OnlyV w v kind e) (hb : Below w.heap.size w W) : OnlyV W v kind e := by
  obtain ⟨g, k, rfl, h1, h2⟩ := h
  exact ⟨g, k, rfl, (hb.block _ (blk_lt h1)).trans h1, (hb.block _ (blk_lt h2)).trans h2⟩
set_option maxHeartbeats 1000000 in
set_option maxRecDepth 1000000 in
theorem only_calls (kind e : Int) (w : World) : Calls Try.prog 52 #[.int .i64 kind, .int .i64 e] w fun r w' => ∃ v, r = .returned v ∧ OnlyV w' v kind e ∧ Below w.heap.size w w' := by
  go_enter Try.func52, Try.ntmps52
  go_wp2
  go_ret
  have h1 := heap_alloc_new w (.cells #[.int .i64 kind] 3)
  have h2 := heap_alloc_new (w.alloc (.cells #[.int .i64 kind] 3)) (.cells #[.int .i64 e] 33)
  have e2 : (w.alloc (.cells #[.int .i64 kind] 3)).heap.size = w.heap.size + 1 := Array.size_push _
  rw [e2] at h2
  refine ⟨_, rfl, ⟨_, _, rfl, (heap_alloc_old _ _ _ (blk_lt h1)).trans h1, h2⟩, ?_⟩
  exact ((Below.refl w.heap.size w).alloc (Nat.le_refl _) _).alloc (by rw [e2]; omega) _
set_option maxHeartbeats 1000000 in
set_option maxRecDepth 1000000 in
theorem only1_calls (k kind e : Int) (g h : Nat) (w : World) (h1 : w.heap[g]? = some (.cells #[.int .i64 kind] 3 (0, 0))) (h2 : w.heap[h]? = some (.cells #[.int .i64 e] 33 (0, 0))) :
    Calls Try.prog 96 #[.int .i64 k, .pointer (some ⟨g, 0, none⟩), .pointer (some ⟨h, 0, none⟩)] w fun r w' => r = .returned (.int .i64 (if k = kind then 0 else e)) ∧ Below w.heap.size w w' := by
  have x1 : w.cell? ⟨g, 0, none⟩ = some (.int .i64 kind) := by rw [blk_cell h1]; rfl
  have x2 : w.cell? ⟨h, 0, none⟩ = some (.int .i64 e) := by rw [blk_cell h2]; rfl
  by_cases hk : k = kind
  · subst hk
    rw [if_pos rfl]
    go_enter Try.func96, Try.ntmps96
    go_wp2
    go_ret
    exact ⟨rfl, Below.refl _ _⟩
  · rw [if_neg hk]
    have hk' : (k != kind) = true := bne_iff_ne.2 hk
    clear hk
    go_enter Try.func96, Try.ntmps96
    go_wp2
    go_ret
    exact ⟨rfl, Below.refl _ _⟩
def askD (T : Tr) (R : Int × Int) (kind e0 : Int) : ByteArray × Int := if R.2 ≠ 0 then (⟨#[]⟩, R.2) else if (T.node R.1).kind = kind then ((T.node R.1).data, 0) else (⟨#[]⟩, e0)
set_option maxHeartbeats 2000000 in
set_option maxRecDepth 1000000 in
theorem asked_calls (p : Nat) (T : Tr) (s : ByteArray) (last : Bool) (k : Nat) (R : Int × Int) (kind e0 : Int) (v : Value) (w : World) (hT : TreeAt w p T) (hO : TrOK T) (hw : wf R.1) (hR : findF T last k s = some R) (he0 : e0 ≠ 0) (hv : OnlyV w v kind e0) :
    Calls Try.prog 51 #[pT p, .string s, .bool last, v, .func (.func 53) #[pT p] #[]] w fun e w' => e = .returned (.tuple #[.string (askD T R kind e0).1, .int .i64 (askD T R kind e0).2]) ∧ Below w.heap.size w w' := by
  have HS := Lib.hid (fun W h => stat_calls p T s last k R W h hO hw hR)
  have HD := Lib.hid (fun W h => data_calls p T R.1 W h hw)
  have HT := Lib.hid hT
  have HV := Lib.hid hv
  obtain ⟨g, h, rfl, h1, h2⟩ := hv
  have HO := Lib.hid (fun x W q1 q2 => only1_calls x kind e0 g h W q1 q2)
  have H1 := Lib.hid h1
  have H2 := Lib.hid h2
  have HA : Hid (askD T R kind e0 = if R.2 ≠ 0 then (⟨#[]⟩, R.2) else if (T.node R.1).kind = kind then ((T.node R.1).data, 0) else (⟨#[]⟩, e0)) := Lib.hid rfl
  have HST : Hid (stT T R = if R.2 = 0 then (R.1, (T.node R.1).kind, sizeT T R.1) else (0, 0, 0)) := Lib.hid rfl
  generalize askD T R kind e0 = ak at *
  generalize sizeT T R.1 = sz at *
  generalize stT T R = st at *
  obtain ⟨n, e⟩ := R
  simp only [] at *
  generalize T.node n = nd at *
  obtain ⟨kd, up, dt, es⟩ := nd
  simp only [] at *
  clear hT hO hw hR h1 h2
  have hu := Try.underlying32
  have arm5 : True := trivial
  by_cases he : e = 0
  · subst he
    have hst := HST.out
    rw [if_pos rfl] at hst
    subst hst
    have ha := HA.out
    rw [if_neg (by simp)] at ha
    have HBX := Lib.hid (fun (W : World) (o : Obj) (hb : Below w.heap.size w W) => (show TreeAt (W.alloc o) p T ∧ (W.alloc o).heap[g]? = some (.cells #[.int .i64 kind] 3 (0, 0)) ∧ (W.alloc o).heap[h]? = some (.cells #[.int .i64 e0] 33 (0, 0)) ∧ Below w.heap.size w (W.alloc o) from (fun hb2 => ⟨HT.out.below hb2, (hb2.block _ (blk_lt H1.out)).trans H1.out, (hb2.block _ (blk_lt H2.out)).trans H2.out, hb2⟩) (hb.alloc hb.size o)))
    by_cases hk : kd = kind
    · subst hk
      rw [if_pos rfl] at ha
      subst ha
      have HO1 := Lib.hid (fun W q1 q2 => HO.out kd W q1 q2)
      rw [if_pos rfl] at HO1
      clear HST HA HO
      go_enter Try.func51, Try.ntmps51
      go_wp2_with (first
        | (go_at_call 48; refine (HS.out _ HT.out).mono ?_; rintro e w2 ⟨rfl, hb2⟩; have HB2 := Lib.hid hb2; clear hb2)
        | (go_at_call 96; refine (HO1.out _ (HBX.out _ _ HB2.out).2.1 (HBX.out _ _ HB2.out).2.2.1).mono ?_; rintro e w4 ⟨rfl, hb4⟩; have h4 := (hb4.block _ (blk_lt (heap_alloc_new _ _))).trans (heap_alloc_new _ _); have x0 : w4.cell? ⟨w2.heap.size, 0, none⟩ = some (.int .i64 n) := (by rw [blk_cell h4]; rfl); have HB4 := Lib.hid ((HBX.out _ _ HB2.out).2.2.2.trans (hb4.mono (HBX.out _ _ HB2.out).2.2.2.size)); clear h4 hb4)
        | (go_at_call 53; refine (HD.out _ (HT.out.below HB4.out)).mono ?_; rintro e w5 ⟨rfl, hb5⟩))
      refine bodyPost_ret (v := .tuple #[.string dt, .int .i64 0]) (by simp [results, Try.results51, go_sem]) rfl ⟨rfl, HB4.out.trans (hb5.mono HB4.out.size)⟩
    · rw [if_neg hk] at ha
      subst ha
      have HO1 := Lib.hid (fun W q1 q2 => HO.out kd W q1 q2)
      rw [if_neg hk] at HO1
      have he0' : (e0 != 0) = true := bne_iff_ne.2 he0
      clear HST HA HO hk he0
      go_enter Try.func51, Try.ntmps51
      go_wp2_with (first
        | (go_at_call 48; refine (HS.out _ HT.out).mono ?_; rintro e w2 ⟨rfl, hb2⟩; have HB2 := Lib.hid hb2; clear hb2)
        | (go_at_call 96; refine (HO1.out _ (HBX.out _ _ HB2.out).2.1 (HBX.out _ _ HB2.out).2.2.1).mono ?_; rintro e w4 ⟨rfl, hb4⟩; have HB4 := Lib.hid ((HBX.out _ _ HB2.out).2.2.2.trans (hb4.mono (HBX.out _ _ HB2.out).2.2.2.size)); clear hb4))
      refine bodyPost_ret (v := .tuple #[.string ⟨#[]⟩, .int .i64 e0]) (by simp [results, Try.results51, go_sem]) rfl ⟨rfl, HB4.out⟩
  · have ha := HA.out
    rw [if_pos he] at ha
    subst ha
    have hst := HST.out
    rw [if_neg he] at hst
    subst hst
    have he' : (e != 0) = true := bne_iff_ne.2 he
    clear HA HST he
    go_enter Try.func51, Try.ntmps51
    go_wp2_with (go_at_call 48; refine (HS.out _ HT.out).mono ?_; rintro e w2 ⟨rfl, hb2⟩)
    refine bodyPost_ret (v := .tuple #[.string ⟨#[]⟩, .int .i64 e]) (by simp [results, Try.results51, go_sem]) rfl ⟨rfl, hb2.alloc hb2.size _⟩
set_option maxHeartbeats 1000000 in
set_option maxRecDepth 1000000 in
theorem readlink_calls (p : Nat) (T : Tr) (s : ByteArray) (k : Nat) (R : Int × Int) (w : World) (hT : TreeAt w p T) (hO : TrOK T) (hw : wf R.1) (hR : findF T false k s = some R) :
    Calls Try.prog 16 #[pT p, .string s] w fun e w' => e = .returned (.tuple #[.string (askD T R 3 13).1, .int .i64 (askD T R 3 13).2]) ∧ Below w.heap.size w w' := by
  have HS := Lib.hid (fun v W h hv => asked_calls p T s false k R 3 13 v W h hO hw hR (by decide) hv)
  have HN := Lib.hid (fun W => only_calls 3 13 W)
  have HT := Lib.hid hT
  generalize askD T R 3 13 = ak at *
  obtain ⟨d, e⟩ := ak
  clear hT hO hw hR
  go_enter Try.func16, Try.ntmps16
  go_wp2_with (first
    | (go_at_call 52; refine (HN.out _).mono ?_; rintro e w2 ⟨v, rfl, hv, hb2⟩; have HB2 := Lib.hid hb2; have HV := Lib.hid hv; clear hb2 hv)
    | (go_at_call 51; refine (HS.out _ _ (HT.out.below HB2.out) HV.out).mono ?_; rintro e w3 ⟨rfl, hb3⟩))
  refine bodyPost_ret (v := .tuple #[.string d, .int .i64 e]) (by simp [results, Try.results16, go_sem]) rfl ⟨rfl, HB2.out.trans (hb3.mono HB2.out.size)⟩
end Go.Proofs.Ytjfigngmpagloaa.Tw

namespace Go.Proofs.Ytjfigngmpagloaa.Tw
open Go Go.RowKit Go.Shelf Go.Proofs Go.Proofs.Ytjfigngmpagloaa Go.Proofs.YtjfigngmpagloaaW.PrintWords Go.Proofs.Ytjfigngmpagloaa.Ext Go.Proofs.Ytjfigngmpagloaa.X Go.Proofs.Ytjfigngmpagloaa.Pu
set_option linter.unusedVariables false
set_option linter.unusedSimpArgs false
def StrV (W : World) (v : Value) (l : List ByteArray) : Prop := ∃ A c, v = .slice A l.length c ∧ l.length ≤ c ∧ Kd.C Kd.string W A l.length l
theorem StrV.below {w W : World} {v : Value} {l : List ByteArray} (h : StrV w v l) (hb : Below w.heap.size w W) : StrV W v l := by
  obtain ⟨A, c, rfl, h1, h2⟩ := h
  exact ⟨A, c, rfl, h1, Kd.C_below h2 hb⟩
end Go.Proofs.Ytjfigngmpagloaa.Tw

namespace Go.Proofs.Ytjfigngmpagloaa.Tw
open Go Go.RowKit Go.Shelf Go.Proofs Go.Proofs.Ytjfigngmpagloaa Go.Proofs.YtjfigngmpagloaaW.PrintWords Go.Proofs.Ytjfigngmpagloaa.Ext Go.Proofs.Ytjfigngmpagloaa.X Go.Proofs.Ytjfigngmpagloaa.Pu
set_option linter.unusedVariables false
set_option linter.unusedSimpArgs false
end Go.Proofs.Ytjfigngmpagloaa.Tw

namespace Go.Proofs.Ytjfigngmpagloaa.Ext
end Go.Proofs.Ytjfigngmpagloaa.Ext
namespace Go.Proofs.Ytjfigngmpagloaa.X
open Go.RowKit Go.Proofs.YtjfigngmpagloaaW.PrintWords Go.Proofs.YtjfigngmpagloaaW.PrintLast Go.Proofs.YtjfigngmpagloaaW.PrintMore Go.Proofs.Ytjfigngmpagloaa.Ext
attribute [local go_sem] max2_int min2_int max_two min_two max_three min_three max_four min_four   -- for this text's walks alone
set_option linter.unusedVariables false
set_option linter.unusedSimpArgs false

end Go.Proofs.Ytjfigngmpagloaa.X

namespace Go.Proofs.Ytjfigngmpagloaa.Ext
end Go.Proofs.Ytjfigngmpagloaa.Ext
namespace Go.Proofs.Ytjfigngmpagloaa.X
open Go.RowKit Go.Proofs.YtjfigngmpagloaaW.PrintWords Go.Proofs.YtjfigngmpagloaaW.PrintLast Go.Proofs.YtjfigngmpagloaaW.PrintMore Go.Proofs.Ytjfigngmpagloaa.Ext
attribute [local go_sem] max2_int min2_int max_two min_two max_three min_three max_four min_four   -- for this text's walks alone
set_option linter.unusedVariables false
set_option linter.unusedSimpArgs false

end Go.Proofs.Ytjfigngmpagloaa.X

namespace Go.Proofs.Ytjfigngmpagloaa.Ext
end Go.Proofs.Ytjfigngmpagloaa.Ext
namespace Go.Proofs.Ytjfigngmpagloaa.X
open Go.RowKit Go.Proofs.YtjfigngmpagloaaW.PrintWords Go.Proofs.YtjfigngmpagloaaW.PrintLast Go.Proofs.YtjfigngmpagloaaW.PrintMore Go.Proofs.Ytjfigngmpagloaa.Ext
attribute [local go_sem] max2_int min2_int max_two min_two max_three min_three max_four min_four   -- for this text's walks alone
set_option linter.unusedVariables false
set_option linter.unusedSimpArgs false

end Go.Proofs.Ytjfigngmpagloaa.X

namespace Go.Proofs.Ytjfigngmpagloaa.Tw
open Go Go.RowKit Go.Proofs Go.Proofs.Ytjfigngmpagloaa Go.Proofs.YtjfigngmpagloaaW.PrintWords Go.Proofs.Ytjfigngmpagloaa.Ext Go.Proofs.Ytjfigngmpagloaa.X Go.Proofs.Ytjfigngmpagloaa.Pu
set_option linter.unusedVariables false
set_option linter.unusedSimpArgs false
end Go.Proofs.Ytjfigngmpagloaa.Tw

namespace Go.Proofs.Ytjfigngmpagloaa.Tw
open Go Go.RowKit Go.Proofs Go.Proofs.Ytjfigngmpagloaa Go.Proofs.YtjfigngmpagloaaW.PrintWords Go.Proofs.Ytjfigngmpagloaa.Ext Go.Proofs.Ytjfigngmpagloaa.X Go.Proofs.Ytjfigngmpagloaa.Pu
set_option linter.unusedVariables false
set_option linter.unusedSimpArgs false
theorem walk_rng {L : List RN} {last : Int} (hG : GoodL L last) (hM : GoodM L) (lst : Bool) : ∀ (k : Nat) (a h : Int) (l : List ByteArray) (R : Int × Int), walkF (trOf L last) lst k a h l = some R → (atR L a).f3 ≠ 0 → R.2 = 0 → (atR L R.1).f3 ≠ 0 := by
  intro k
  induction k with
  | zero => intro a h l R hw; cases hw
  | succ k ih =>
    intro a h l R hw ha hR
    cases l with
    | nil =>
      rw [walk_nil] at hw
      obtain rfl := Option.some.inj hw
      exact ha
    | cons s l =>
      rw [walk_cons, node_of hG a] at hw
      simp only [] at hw
      split at hw
      · obtain rfl := Option.some.inj hw; cases hR
      rename_i hk
      have hk1 : (atR L a).f3 = 1 := by simpa using hk
      split at hw
      · obtain ⟨r, hr, _, hat⟩ := at_kind ha
        refine ih _ _ _ _ hw ?_ hR
        rw [hat, hG.up r hr]
        decide
      split at hw
      · rename_i h3
        obtain rfl := Option.some.inj hw
        exact absurd hR h3
      rename_i h3
      have hd : (atR L (downT (trOf L last) a s).1).f3 ≠ 0 := by
        rw [downT_of hG] at h3 ⊢
        split at h3
        · rename_i hc
          rw [if_pos hc]
          split at h3
          · simp at h3
          · rename_i h0
            rw [if_neg h0]
            obtain ⟨r, hr, _, _, _, _, hat⟩ := inR_mem hG h0
            rw [show (inR L a s, (0 : Int)).1 = inR L a s from rfl, hat]
            have := hM.kind r hr
            omega
        · rename_i hc
          simp at h3
          exact absurd h3 hc
      split at hw
      · exact ih _ _ _ _ hw hd hR
      split at hw
      · obtain rfl := Option.some.inj hw; cases hR
      refine ih _ _ _ _ hw ?_ hR
      split
      · obtain ⟨r, hr, h1, _, h2⟩ := hG.root
        rw [← h1, at_mem hG hr, h2]
        decide
      · exact ha
theorem find_rng {L : List RN} {last : Int} (hG : GoodL L last) (hM : GoodM L) {lst : Bool} {k : Nat} {s : ByteArray} {R : Int × Int} (h : findF (trOf L last) lst k s = some R) : (R.2 = 0 → 1 ≤ R.1 ∧ R.1 ≤ last) ∧ (R.2 ≠ 0 → R.1 = 0) := by
  have hroot : (atR L 1).f3 ≠ 0 := by
    obtain ⟨r, hr, h1, _, h2⟩ := hG.root
    rw [← h1, at_mem hG hr, h2]
    decide
  unfold findF at h
  split at h
  · obtain ⟨q, hq, hr⟩ := Option.bind_eq_some_iff.1 h
    split at hr
    · rename_i h0
      obtain rfl := Option.some.inj hr
      refine ⟨fun _ => ?_, fun h => absurd rfl h⟩
      obtain ⟨r, hr, h1, _⟩ := at_kind (walk_rng hG hM lst k 1 0 (partsB s) q hq hroot h0)
      have := hG.num r hr
      omega
    · rename_i h0
      obtain rfl := Option.some.inj hr
      exact ⟨fun h => absurd h h0, fun _ => rfl⟩
  · rename_i h0
    obtain rfl := Option.some.inj h
    exact ⟨fun h => absurd h h0, fun _ => rfl⟩
theorem find_wf {L : List RN} {last : Int} (hG : GoodL L last) (hM : GoodM L) (hla : last ≤ 1000000) {lst : Bool} {k : Nat} {s : ByteArray} {R : Int × Int} (h : findF (trOf L last) lst k s = some R) : wf R.1 := by
  obtain ⟨h1, h2⟩ := find_rng hG hM h
  by_cases h0 : R.2 = 0
  · have := h1 h0
    exact wf_of (by omega)
  · rw [h2 h0]
    exact wf0
section
variable {L : List RN} {last : Int} {s : ByteArray} {lst : Bool} {R : Int × Int}
end
end Go.Proofs.Ytjfigngmpagloaa.Tw

namespace Go.Proofs.Ytjfigngmpagloaa.Tw
open Go Go.RowKit Go.Shelf Go.Proofs Go.Proofs.Ytjfigngmpagloaa Go.Proofs.YtjfigngmpagloaaW.PrintWords Go.Proofs.Ytjfigngmpagloaa.Ext Go.Proofs.Ytjfigngmpagloaa.X Go.Proofs.Ytjfigngmpagloaa.Pu
set_option linter.unusedVariables false
set_option linter.unusedSimpArgs false
theorem room_chain {L : List RN} {last : Int} (hM : GoodM L) {n : Int} {p : List ByteArray} (h : Chain L n p) : Sp.room (p.map (·.data.toList)) ≤ 65 * p.length := by
  have hn := chain_nm (last := last) hM h
  clear h
  induction p with
  | nil => simp
  | cons x p ih =>
    have h1 := (check_zero (hn x List.mem_cons_self)).2.2.1
    have h2 := ih (fun y hy => hn y (List.mem_cons_of_mem _ hy))
    rw [List.map_cons, Sp.room_cons, List.length_cons]
    omega
end Go.Proofs.Ytjfigngmpagloaa.Tw

namespace Go.Proofs.Ytjfigngmpagloaa.Tw
open Go Go.RowKit Go.Shelf Go.Proofs Go.Proofs.Ytjfigngmpagloaa Go.Proofs.YtjfigngmpagloaaW.PrintWords Go.Proofs.Ytjfigngmpagloaa.Ext Go.Proofs.Ytjfigngmpagloaa.X Go.Proofs.Ytjfigngmpagloaa.Pu
set_option linter.unusedVariables false
set_option linter.unusedSimpArgs false
theorem traceF_ex (T : Tr) (rl : Int → ByteArray) (last : Bool) (P : HP → Prop) (hP : ∀ n, (T.node n).kind = 3 → P ⟨rl n, (T.node n).data⟩) : ∀ (m : Nat) (l : List ByteArray) (a : Int) (hs : List HP), hs.length + m = 40 → (∀ x ∈ hs, P x) → ∃ k R, traceF T rl last k a l hs = some R ∧ R.length ≤ 40 ∧ ∀ x ∈ R, P x := by
  intro m
  induction m with
  | zero =>
    intro l
    induction l with
    | nil => exact fun a hs h hp => ⟨1, hs, rfl, by omega, hp⟩
    | cons s l ih =>
      intro a hs h hp
      by_cases h1 : nextT T a s = 0
      · exact ⟨1, hs, by rw [traceF, if_pos h1], by omega, hp⟩
      · by_cases h2 : (T.node (nextT T a s)).kind ≠ 3 ∨ (l = [] ∧ last = false)
        · obtain ⟨k, R, e, h3, h4⟩ := ih (nextT T a s) hs h hp
          exact ⟨k + 1, R, by rw [traceF, if_neg h1, if_pos h2, e], h3, h4⟩
        · exact ⟨1, hs, by rw [traceF, if_neg h1, if_neg h2, if_pos (by omega)], by omega, hp⟩
  | succ m ihm =>
    intro l
    induction l with
    | nil => exact fun a hs h hp => ⟨1, hs, rfl, by omega, hp⟩
    | cons s l ih =>
      intro a hs h hp
      by_cases h1 : nextT T a s = 0
      · exact ⟨1, hs, by rw [traceF, if_pos h1], by omega, hp⟩
      · by_cases h2 : (T.node (nextT T a s)).kind ≠ 3 ∨ (l = [] ∧ last = false)
        · obtain ⟨k, R, e, h3, h4⟩ := ih (nextT T a s) hs h hp
          exact ⟨k + 1, R, by rw [traceF, if_neg h1, if_pos h2, e], h3, h4⟩
        · have hk : (T.node (nextT T a s)).kind = 3 := Decidable.byContradiction fun e => h2 (.inl e)
          obtain ⟨k, R, e, h3, h4⟩ := ihm (partsB (T.node (nextT T a s)).data ++ l) (if slashB (T.node (nextT T a s)).data = true then 1 else a) (hs ++ [⟨rl (nextT T a s), (T.node (nextT T a s)).data⟩]) (by rw [List.length_append]; simp; omega) (fun x hx => by
            rcases List.mem_append.1 hx with hx | hx
            · exact hp x hx
            · obtain rfl := List.mem_singleton.1 hx; exact hP _ hk)
          exact ⟨k + 1, R, by rw [traceF, if_neg h1, if_neg h2, if_neg (by omega), e], h3, h4⟩
open Classical in
noncomputable def rlF (L : List RN) (n : Int) : ByteArray := if h : ∃ p, Chain L n p then slash1 ++ joinB (Classical.choose h) else ⟨#[]⟩
theorem rlF_chain {L : List RN} {last : Int} (hG : GoodL L last) {n : Int} {p : List ByteArray} (h : Chain L n p) : rlF L n = slash1 ++ joinB p := by
  have hx : ∃ p, Chain L n p := ⟨p, h⟩
  unfold rlF
  rw [dif_pos hx, chain_uniq hG (Classical.choose_spec hx) h]
theorem link_real {L : List RN} {last : Int} (hG : GoodL L last) (hM : GoodM L) (hla : last ≤ 1000000) (n : Int) (hk : (atR L n).f3 ≠ 0) :
    (rlF L n).size < 1000000 ∧ (∃ k, linhayref08_Real.f k L last n = some (rlF L n, true)) ∧ (wf n → ∀ W p, TreeAt W p (trOf L last) → Calls Try.prog 28 #[pT p, .int .i64 n] W fun e w' => e = .returned (.tuple #[.string (rlF L n), .bool true]) ∧ Below W.heap.size W w') ∧ ((rlF L n).size ≤ 1024 → ∃ k, findF (trOf L last) false k (rlF L n) = some (n, 0)) := by
  have hO := trOK hG hla
  have hkn : ((trOf L last).node n).kind = (atR L n).f3 := by rw [node_of hG]
  obtain ⟨p0, hc, hpl⟩ := chain_ex hG hM n hk
  obtain ⟨k, hu⟩ := real_up hG hc
  have hr := room_chain (last := last) hM hc
  have hl := hG.len
  have hj := Sp.join_room (p0.map (·.data.toList))
  rw [rlF_chain hG hc]
  refine ⟨?_, Ev.rounds (ref_real hG hM hc hpl), fun hn W p h => ?_, fun hz => find_chain hG hM false hc (.inl rfl) hz⟩
  · rw [slash_join, Sp.size_eq, ← toL, toList_mk, Sp.text]
    simp only [List.length_cons]
    omega
  · have := real_calls p (trOf L last) k n p0.reverse W h hO hn (by rw [hkn]; exact hk) hu (by rw [List.length_reverse]; omega) (by rw [List.reverse_reverse]; omega)
    rw [List.reverse_reverse] at this
    exact this
set_option maxHeartbeats 4000000 in
set_option maxRecDepth 1000000 in
theorem rof_calls {L : List RN} {last : Int} (hG : GoodL L last) (hM : GoodM L) (rl : Int → ByteArray) (lst : Bool) (hreal : ∀ n, (atR L n).f3 = 3 → (rl n).size < 1000000000 ∧ ∃ ok k, linhayref08_Real.f k L last n = some (rl n, ok)) (A : Option Addr) (c : Nat) (hcA : L.length ≤ c) (k : Nat) (s : ByteArray) (h1 : s.toList ≠ []) (h2 : (s.size : Int) ≤ 1024) (R : List HQ) (W : World) (hR : refF (trOf L last) rl lst k 1 (partsB s) [] = some R) (hTR : Kd.C k97 W A L.length L) :
    Calls Try.prog 36 #[.agg #[.slice A L.length c, .int .i64 last], .string s, .bool lst] W (GoPost W R) := by
  have hu28 := Try.underlying28
  have HTR := Lib.hid hTR
  obtain ⟨kp, hkp⟩ := Ev.rounds (r04_parts s (by omega))
  have HPT := Lib.hid (fun W => linhayref04_Parts.calls kp s (partsB s) W hkp)
  have hpl := partsB_len' s
  have hpz := partsB_sz s
  have HG := Lib.hid (fun A2 c2 W h3 h4 h5 => rgo_calls hG hM rl lst hreal A c hcA k 1 (partsB s) [] R A2 c2 none 0 W hR h3 h4 h5 ⟨rfl, Nat.zero_le _, fun h => absurd h (Nat.lt_irrefl 0)⟩ (Nat.le_refl _) (by simp) (by simp; omega) (fun x hx => Nat.le_trans (hpz x hx) (by omega)))
  have b1 : (s.toList == []) = false := by simpa using h1
  have b2 : s.toList.isEmpty = false := by simpa using h1
  have d1 : decide ((1024 : Int) < (s.size : Int)) = false := decide_eq_false (by omega)
  have d2 : decide (1024 < s.size) = false := decide_eq_false (by omega)
  have hb1 := (Below.refl W.heap.size W).alloc (Nat.le_refl _) (.cells #[.slice A L.length c, .int .i64 last] 28)
  have h9 := heap_alloc_new W (.cells #[.slice A L.length c, .int .i64 last] 28)
  clear hreal hR hpl hpz hkp hTR
  go_enter Try.func36, Try.ntmps36
  go_upto_region 1 with (fail)
  have HB1 := Lib.hid hb1
  have H9 := Lib.hid h9
  clear hb1
  generalize W.alloc (.cells #[.slice A L.length c, .int .i64 last] 28) = w1 at h9 H9 HB1 ⊢
  have HX := Lib.hid (fun (W' : World) (h : Below w1.heap.size w1 W') => show W'.cell? ⟨W.heap.size, 0, none⟩ = some (.slice A L.length c) ∧ W'.cell? ⟨W.heap.size, 1, none⟩ = some (.int .i64 last) by
    have h5 := (h.block _ (blk_lt H9.out)).trans H9.out
    exact ⟨by rw [blk_cell h5]; rfl, by rw [blk_cell h5]; rfl⟩)
  clear h9
  generalize hgg : W.heap.size = g at HX ⊢
  have HGG := Lib.hid hgg
  clear hgg
  obtain ⟨x0, x1⟩ := HX.out _ (Below.refl _ _)
  go_upto_region 3 with (fail)
  go_region_held3 (fun w' => w'.cell? ⟨g, 0, none⟩ = some (.slice A L.length c) ∧ w'.cell? ⟨g, 1, none⟩ = some (.int .i64 last)) (first | (go_keep; done) | exact HX.out _ HB2.out | exact HX.out _ (HB2.out.trans (hb3.mono HB2.out.size)))
    (first | (go_at_call 61; refine (HPT.out _).mono ?_; rintro e w2 ⟨v2, rfl, ho2, hb2⟩; obtain ⟨A2, c2, rfl, hl2, hC2⟩ := Kd.R_reads ho2; have HB2 : Hid (Below w1.heap.size w1 w2) := Lib.hid (by first | exact hb2 | exact (below_drew (Below.refl _ w1)).trans hb2); have HC2 := Lib.hid hC2; clear ho2 hb2 hC2) | (go_at_call 77; refine (HG.out _ _ _ (Kd.C_below HTR.out (HB1.out.trans (HB2.out.mono HB1.out.size))) HC2.out hl2).mono ?_; rintro e w4 ⟨A9, c9, rfl, hl9, hC9, hb4⟩; have hb3 := hb4))
  go_wp2
  go_ret
  exact gopost_of (HB1.out.trans (HB2.out.mono HB1.out.size)) hl9 hC9 hb4
set_option maxRecDepth 1000000 in
theorem rof_none {L : List RN} {last : Int} (lst : Bool) (A : Option Addr) (c : Nat) (s : ByteArray) (hs : s.toList = [] ∨ (1024 : Int) < (s.size : Int)) (W : World) :
    Calls Try.prog 36 #[.agg #[.slice A L.length c, .int .i64 last], .string s, .bool lst] W fun e w' => e = .returned (.slice none 0 0) ∧ Below W.heap.size W w' := by
  have hu28 := Try.underlying28
  have hb1 := (Below.refl W.heap.size W).alloc (Nat.le_refl _) (.cells #[.slice A L.length c, .int .i64 last] 28)
  by_cases h0 : s.toList = []
  · have b1 : (s.toList == []) = true := by rw [h0]; rfl
    clear h0 hs
    go_enter Try.func36, Try.ntmps36
    go_wp2
    go_ret
    exact ⟨rfl, hb1⟩
  · have h1 : (1024 : Int) < (s.size : Int) := hs.resolve_left h0
    have b1 : (s.toList == []) = false := by simpa using h0
    have b2 : s.toList.isEmpty = false := by simpa using h0
    have d1 : decide ((1024 : Int) < (s.size : Int)) = true := decide_eq_true h1
    have d2 : decide (1024 < s.size) = true := decide_eq_true (by omega)
    clear h0 hs h1
    go_enter Try.func36, Try.ntmps36
    go_wp2
    go_ret
    exact ⟨rfl, hb1⟩
end Go.Proofs.Ytjfigngmpagloaa.Tw

namespace Go.Proofs.Ytjfigngmpagloaa.Tw
open Go Go.RowKit Go.Shelf Go.Proofs Go.Proofs.Ytjfigngmpagloaa Go.Proofs.YtjfigngmpagloaaW.PrintWords Go.Proofs.Ytjfigngmpagloaa.Ext Go.Proofs.Ytjfigngmpagloaa.X Go.Proofs.Ytjfigngmpagloaa.Pu
set_option linter.unusedVariables false
set_option linter.unusedSimpArgs false
abbrev nodesC : List MN := [⟨-1, ⟨#[108]⟩, 3, ⟨#[97]⟩⟩, ⟨-1, ⟨#[97]⟩, 3, ⟨#[98]⟩⟩, ⟨-1, ⟨#[98]⟩, 1, ⟨#[]⟩⟩]
abbrev rowsC : List RN := [⟨1, 1, ⟨#[]⟩, 1, ⟨#[]⟩⟩, ⟨2, 1, ⟨#[108]⟩, 3, ⟨#[97]⟩⟩, ⟨3, 1, ⟨#[97]⟩, 3, ⟨#[98]⟩⟩, ⟨4, 1, ⟨#[98]⟩, 1, ⟨#[]⟩⟩]
theorem madeC : madeF nodesC = ⟨rowsC, 4, [2, 3, 4]⟩ := by
  simp [madeF, made0, madeStep, dirAt, putL, putN, putA, putRE, dirE, atR, inR, inQ, toL, mayE, Sp.check, ByteArray.size]
theorem goodC : GoodL rowsC 4 ∧ GoodM rowsC := by
  have h := made_good nodesC
  rw [madeC] at h
  exact ⟨h.1, h.2.1⟩
theorem findC : ∃ k, findF (trOf rowsC 4) true k ⟨#[108]⟩ = some (4, 0) := by
  have hG := goodC.1
  refine ⟨10, ?_⟩
  simp [findF, beginE, toL, ByteArray.size, partsB, bs, Sp.parts, Sp.go, Sp.keep, walk_cons, walk_nil, node_of hG, downT_of hG, atR, inR, inQ, Sp.check, slashB, Lib.hasPrefix, Sp.mk]
def rlC (n : Int) : ByteArray := if n = 2 then ⟨#[47, 108]⟩ else ⟨#[47, 97]⟩
theorem traceC : traceF (trOf rowsC 4) rlC true 10 1 (partsB ⟨#[108]⟩) [] = some [⟨⟨#[47, 108]⟩, ⟨#[97]⟩⟩, ⟨⟨#[47, 97]⟩, ⟨#[98]⟩⟩] := by
  have hG := goodC.1
  simp [traceF, next_of hG, toL, ByteArray.size, partsB, bs, Sp.parts, Sp.go, Sp.keep, node_of hG, atR, inR, inQ, Sp.check, slashB, Lib.hasPrefix, Sp.mk, rlC]
theorem realC (n : Int) (hk : ((trOf rowsC 4).node n).kind = 3) (hn : wf n) : ∃ ok, ∀ p W, TreeAt W p (trOf rowsC 4) → Calls Try.prog 28 #[pT p, .int .i64 n] W fun e w' => e = .returned (.tuple #[.string (rlC n), .bool ok]) ∧ Below W.heap.size W w' := by
  obtain ⟨hG, hM⟩ := goodC
  rw [node_of hG] at hk
  have hk' : (atR rowsC n).f3 = 3 := hk
  obtain ⟨-, -, h3, -⟩ := link_real hG hM (by decide) n (by rw [hk']; decide)
  obtain ⟨r, hr, hrn, hra⟩ := at_kind (L := rowsC) (n := n) (by rw [hk']; decide)
  refine ⟨true, fun p W h => ?_⟩
  have he : rlF rowsC n = rlC n := by
    rw [hra] at hk'
    simp only [rowsC, List.mem_cons, List.not_mem_nil, or_false] at hr
    rcases hr with rfl | rfl | rfl | rfl
    · cases hk'
    · subst hrn
      rw [rlF_chain hG (Chain.step (r := ⟨2, 1, ⟨#[108]⟩, 3, ⟨#[97]⟩⟩) (p := []) (by simp) (by decide) .root), slash_join, flat_text]
      rfl
    · subst hrn
      rw [rlF_chain hG (Chain.step (r := ⟨3, 1, ⟨#[97]⟩, 3, ⟨#[98]⟩⟩) (p := []) (by simp) (by decide) .root), slash_join, flat_text]
      rfl
    · cases hk'
  rw [← he]
  exact h3 hn W p h
theorem made_C (g : Nat) (W : World) (h : W.heap[g]? = some (.cells (nodesC.flatMap cellsN).toArray 89 (0, 0))) :
    Calls Try.prog 12 #[.slice (some ⟨g, 0, none⟩) 3 3] W fun e w' => ∃ p B v, e = .returned (.tuple #[pT p, v]) ∧ TreeB w' p B (trOf rowsC 4) ∧ RAt w' v rowsC 4 ∧ Below W.heap.size W w' ∧ W.heap.size ≤ p ∧ W.heap.size ≤ B := by
  have := made_calls (some ⟨g, 0, none⟩) 3 nodesC W (litN W g nodesC _ h (by decide)) (by decide) (by decide) (by intro x hx; simp only [nodesC, List.mem_cons, List.not_mem_nil, or_false] at hx; rcases hx with rfl | rfl | rfl <;> decide)
  rw [madeC] at this
  exact this
abbrev hopsC : List HP := [⟨⟨#[47, 108]⟩, ⟨#[97]⟩⟩, ⟨⟨#[47, 97]⟩, ⟨#[98]⟩⟩]
theorem of_C (p : Nat) (W : World) (h : TreeAt W p (trOf rowsC 4)) : Calls Try.prog 35 #[pT p, .string ⟨#[108]⟩, .bool true] W fun e w' => ∃ A c, e = .returned (.tuple #[.slice A 2 c, .int .i64 4, .int .i64 0]) ∧ 2 ≤ c ∧ Kd.C k76 w' A 2 hopsC ∧ Below W.heap.size W w' := by
  obtain ⟨kf, hkf⟩ := findC
  exact traceOf_calls p (trOf rowsC 4) rlC ⟨#[108]⟩ true kf 10 (4, 0) hopsC W h (trOK goodC.1 (by decide)) hkf (by rw [toL]; decide) (by decide) traceC (fun n hk hn => by obtain ⟨ok, h⟩ := realC n hk hn; exact ⟨ok, fun W h' => h p W h'⟩)
def lineF (x : HP) : ByteArray := x.f0 ++ ⟨#[32, 45, 62, 32]⟩ ++ x.f1
theorem rdH_get {l : List HP} {i : Nat} (h : i < l.length) : rd_T76 l (i : Int) = l[i] := by
  simp [rd_T76, h]
theorem lines_ev (l : List HP) (hz : ∀ x ∈ l, x.f0.size ≤ 1000000000 ∧ x.f1.size ≤ 1000000000) (hl : l.length ≤ 1000000) : Ev (fun k => trace_Lines.f k l) (l.map lineF) := by
  have key : ∀ (d i : Nat) (acc : List ByteArray), i + d = l.length → acc.length + d ≤ 2000000 → Ev (fun k => trace_Lines.l0 k acc l (l.length : Int) (i : Int)) (acc ++ (l.drop i).map lineF) := by
    intro d
    induction d with
    | zero =>
      intro i acc hi ha
      rw [List.drop_eq_nil_of_le (by omega), List.map_nil, List.append_nil]
      refine Ev.step (fun k => by rw [trace_Lines.l0]) ?_
      exact ev_neg (by omega) (Ev.now _)
    | succ d ih =>
      intro i acc hi ha
      have hlt : i < l.length := by omega
      obtain ⟨z0, z1⟩ := hz _ (List.getElem_mem hlt)
      refine Ev.step (fun k => by rw [trace_Lines.l0]) (ev_pos (by omega) (ev_pos (by omega) (ev_pos (by omega) ?_)))
      rw [rdH_get hlt]
      refine ev_pos (by omega) (ev_pos ?_ (ev_pos (by omega) ?_))
      · rw [ByteArray.size_append]
        have : (⟨#[32, 45, 62, 32]⟩ : ByteArray).size = 4 := rfl
        omega
      · rw [w1 (by omega), List.drop_eq_getElem_cons hlt, List.map_cons]
        have := ih (i + 1) (acc ++ [lineF l[i]]) (by omega) (by simp; omega)
        rw [List.append_assoc, List.singleton_append] at this
        exact this
  unfold trace_Lines.f
  have := key l.length 0 [] (by omega) (by simp; omega)
  simpa using this
set_option maxHeartbeats 1000000 in
set_option maxRecDepth 1000000 in
theorem lives45_calls (w : World) : Calls Try.prog 34 #[] w fun e w' => e = .returned (.bool true) ∧ Below w.heap.size w w' := by
  have HBX := Lib.hid (heap_alloc_new w (.cells (nodesC.flatMap cellsN).toArray 89))
  have HB0 := Lib.hid ((Below.refl w.heap.size w).alloc (Nat.le_refl _) (.cells (nodesC.flatMap cellsN).toArray 89))
  have HM := Lib.hid (made_C w.heap.size)
  have HF := Lib.hid of_C
  obtain ⟨kl, hkl⟩ := Ev.rounds (lines_ev hopsC (by intro x hx; simp only [hopsC, List.mem_cons, List.not_mem_nil, or_false] at hx; rcases hx with rfl | rfl <;> decide) (by decide))
  have HR := Lib.hid (fun A c W h1 h2 => trace_Lines.calls kl A c hopsC _ W h1 h2 hkl)
  clear hkl
  go_enter Try.func34, Try.ntmps34
  go_upto_region 4 with (first | (go_at_call 12; refine (HM.out _ HBX.out).mono ?_; rintro e w2 ⟨p, B, v, rfl, hT2, ⟨A2, c2, rfl, _, _⟩, hb2, _, _⟩; have HT2 := Lib.hid hT2.at_; have HB2 := Lib.hid (HB0.out.trans (hb2.mono HB0.out.size)); clear hT2 hb2) | (go_at_call 35; refine (HF.out _ _ (HT2.out.below ((Below.refl _ w2).alloc (Nat.le_refl _) _))).mono ?_; rintro e w3 ⟨A3, c3, rfl, hc3, hC3, hb3⟩; have HC3 := Lib.hid hC3; have HB3 := Lib.hid ((HB2.out.alloc HB2.out.size _).trans (hb3.mono (HB2.out.alloc HB2.out.size _).size)); clear hb3 hC3) | (go_at_call 37; refine (HR.out _ _ _ HC3.out hc3).mono ?_; rintro e w4 ⟨v4, rfl, ho4, hb4⟩; obtain ⟨A4, c4, rfl, hl4, hC4⟩ := Kd.R_reads ho4; have HB4 := Lib.hid (HB3.out.trans (hb4.mono HB3.out.size)); have HC4 := Lib.hid hC4; clear hC4 ho4 hb4))
  obtain ⟨ad, eA, x0⟩ := Kd.at_string HC4.out 0 (by omega) (by simp)
  obtain ⟨ad', eA', x1⟩ := Kd.at_string HC4.out 1 (by omega) (by simp)
  have e0 : rdOf ByteArray.empty (List.map lineF hopsC) 0 = ⟨#[47, 108, 32, 45, 62, 32, 97]⟩ := rfl
  have e1 : rdOf ByteArray.empty (List.map lineF hopsC) 1 = ⟨#[47, 97, 32, 45, 62, 32, 98]⟩ := rfl
  rw [e0] at x0
  rw [e1] at x1
  subst eA
  obtain rfl : ad = ad' := Option.some.inj eA'
  rw [show ad.add (0 : Int).toNat = ad from rfl] at x0
  have x1' : w4.cell? ⟨ad.block, ad.off + 1, none⟩ = some (.string ⟨#[47, 97, 32, 45, 62, 32, 98]⟩) := x1
  clear x1
  have hl4' : 2 ≤ c4 := hl4
  have z1 : (⟨#[47, 108, 32, 45, 62, 32, 97]⟩ : ByteArray).toList = [47, 108, 32, 45, 62, 32, 97] := by rw [toL]
  have z2 : (⟨#[47, 97, 32, 45, 62, 32, 98]⟩ : ByteArray).toList = [47, 97, 32, 45, 62, 32, 98] := by rw [toL]
  clear e0 e1 eA' HR HF HM
  go_wp2
  go_ret
  exact ⟨rfl, by first | exact HB4.out | exact below_drew HB4.out⟩
end Go.Proofs.Ytjfigngmpagloaa.Tw

namespace Go.Proofs.Ytjfigngmpagloaa.Tw
open Go Go.RowKit Go.Shelf Go.Proofs Go.Proofs.Ytjfigngmpagloaa Go.Proofs.YtjfigngmpagloaaW.PrintWords Go.Proofs.Ytjfigngmpagloaa.Ext Go.Proofs.Ytjfigngmpagloaa.X Go.Proofs.Ytjfigngmpagloaa.Pu
set_option linter.unusedVariables false
set_option linter.unusedSimpArgs false
def HopOk (T : Tr) (x : HP) : Prop := x.f0.size ≤ 1000000 ∧ x.f1.size ≤ 65536 ∧ ∃ (d : ByteArray) (er : Int), (∀ W p, TreeAt W p T → Calls Try.prog 16 #[pT p, .string x.f0] W fun e w' => e = .returned (.tuple #[.string d, .int .i64 er]) ∧ Below W.heap.size W w') ∧ ((x.f0.size : Int) ≤ 1024 → d = x.f1 ∧ er = 0)
theorem hop_ok {L : List RN} {last : Int} (hG : GoodL L last) (hM : GoodM L) (hla : last ≤ 1000000) (n : Int) (hk : (atR L n).f3 = 3) : HopOk (trOf L last) ⟨rlF L n, ((trOf L last).node n).data⟩ := by
  have hO := trOK hG hla
  obtain ⟨hz, -, -, hf⟩ := link_real hG hM hla n (by rw [hk]; decide)
  obtain ⟨q, hq, hqn, hqa⟩ := at_kind (L := L) (n := n) (by rw [hk]; decide)
  have hkn : ((trOf L last).node n).kind = 3 := by rw [node_of hG]; exact hk
  have hwn : wf n := wf_of (by have := hG.num q hq; omega)
  refine ⟨by show (rlF L n).size ≤ 1000000; omega, ?_, ?_⟩
  · show ((trOf L last).node n).data.size ≤ 65536
    rw [node_of hG]
    show (atR L n).f4.size ≤ 65536
    rw [hqa]
    exact hG.data q hq
  · by_cases h : (rlF L n).size ≤ 1024
    · obtain ⟨k, hk1⟩ := hf h
      refine ⟨(askD (trOf L last) (n, 0) 3 13).1, (askD (trOf L last) (n, 0) 3 13).2, fun W p hT => readlink_calls p _ _ k (n, 0) W hT hO hwn hk1, fun _ => ?_⟩
      unfold askD
      rw [if_neg (by simp), if_pos hkn]
      exact ⟨rfl, rfl⟩
    · obtain ⟨k, R, hR, -⟩ := find_both hG hM false (rlF L n)
      exact ⟨(askD (trOf L last) R 3 13).1, (askD (trOf L last) R 3 13).2, fun W p hT => readlink_calls p _ _ k R W hT hO (find_wf hG hM hla hR) hR, fun h1 => absurd h1 (by show ¬ ((rlF L n).size : Int) ≤ 1024; omega)⟩
theorem trace_both {L : List RN} {last : Int} (hG : GoodL L last) (hM : GoodM L) (hla : last ≤ 1000000) (s : ByteArray) (lst : Bool) : ∃ (R : List HP) (F : Int × Int), R.length ≤ 40 ∧ (∀ x ∈ R, HopOk (trOf L last) x)
    ∧ (∀ W p, TreeAt W p (trOf L last) → Calls Try.prog 35 #[pT p, .string s, .bool lst] W fun e w' => ∃ A c, e = .returned (.tuple #[.slice A R.length c, .int .i64 F.1, .int .i64 F.2]) ∧ R.length ≤ c ∧ Kd.C k76 w' A R.length R ∧ Below W.heap.size W w')
    ∧ Ev (fun k => linhayref08_Find.f k L last s lst) F
    ∧ (∀ A c W, L.length ≤ c → Kd.C k97 W A L.length L → Calls Try.prog 36 #[.agg #[.slice A L.length c, .int .i64 last], .string s, .bool lst] W (GoPost W (R.map cvH))) := by
  have hO := trOK hG hla
  obtain ⟨k, F, hF, hE⟩ := find_both hG hM lst s
  by_cases hs : s.toList = [] ∨ (1024 : Int) < (s.size : Int)
  · refine ⟨[], F, by simp, by simp, fun W p hT => (traceOf_none p _ s lst k F W hT hO hF hs).mono ?_, hE, fun A c W hc hC => (rof_none lst A c s hs W).mono ?_⟩
    · rintro e w' ⟨rfl, hb⟩
      exact ⟨none, 0, rfl, Nat.le_refl _, ⟨rfl, Nat.zero_le _, fun h => absurd h (Nat.lt_irrefl 0)⟩, hb⟩
    · rintro e w' ⟨rfl, hb⟩
      exact ⟨none, 0, rfl, Nat.le_refl _, ⟨rfl, Nat.zero_le _, fun h => absurd h (Nat.lt_irrefl 0)⟩, hb⟩
  · have h1 : s.toList ≠ [] := fun h => hs (.inl h)
    have h2 : (s.size : Int) ≤ 1024 := by have := fun h => hs (.inr h); omega
    obtain ⟨kt, R, hR, hlen, hok⟩ := traceF_ex (trOf L last) (rlF L) lst (HopOk (trOf L last)) (fun n hk => hop_ok hG hM hla n (by rw [node_of hG] at hk; exact hk)) 40 (partsB s) 1 [] rfl (by simp)
    refine ⟨R, F, hlen, hok, fun W p hT => traceOf_calls p _ (rlF L) s lst k kt F R W hT hO hF h1 (by omega) hR (fun n hk hn => ⟨true, fun W h => ?_⟩), hE, fun A c W hc hC => ?_⟩
    · rw [node_of hG] at hk
      exact (link_real hG hM hla n (by rw [show (atR L n).f3 = 3 from hk]; decide)).2.2.1 hn W p h
    · refine rof_calls hG hM (rlF L) lst (fun n hk => ?_) A c hc kt s h1 h2 (R.map cvH) W ?_ hC
      · obtain ⟨hz, hx, -, -⟩ := link_real hG hM hla n (by rw [hk]; decide)
        exact ⟨by omega, true, hx⟩
      · have := refF_eq (trOf L last) (rlF L) lst kt 1 (partsB s) []
        rw [hR] at this
        exact this
end Go.Proofs.Ytjfigngmpagloaa.Tw

namespace Go.Proofs.Ytjfigngmpagloaa.Tw
open Go Go.RowKit Go.Shelf Go.Proofs Go.Proofs.Ytjfigngmpagloaa Go.Proofs.YtjfigngmpagloaaW.PrintWords Go.Proofs.Ytjfigngmpagloaa.Ext Go.Proofs.Ytjfigngmpagloaa.X Go.Proofs.Ytjfigngmpagloaa.Pu
set_option linter.unusedVariables false
set_option linter.unusedSimpArgs false
theorem meas_lt {n i : Nat} (h : i < n) (hn : n ≤ 40) : n - (intOf (.int .i64 (wrap64 ((i : Int) + 1)))).toNat < n - (intOf (.int .i64 (i : Int))).toNat := by
  rw [w1 (by omega)]
  simp only [intOf]
  omega
set_option maxHeartbeats 8000000 in
set_option maxRecDepth 1000000 in
theorem traceOf_law (A : Option Addr) (c : Nat) (l : List MN) (s : ByteArray) (last : Bool) (w : World) (hC : Kd.C k89 w A l.length l) (hc : l.length ≤ c) (hb : (l.map bulkN).sum + 1 ≤ 1048576) (ho : ∀ x ∈ l, (Lit.int .i64 x.f0).wf = true ∧ True ∧ (Lit.int .i64 x.f2).wf = true ∧ True) (hs : s.size ≤ 1048576) :
    Calls Try.prog 7 #[.slice A l.length c, .string s, .bool last] w fun e w' => e = .returned (.bool true) ∧ Below w.heap.size w w' := by
  have hsz : ∀ x ∈ l, x.f1.size < 4294967281 := fun x hx => by
    have h1 := sum_in8 bulkN hx
    have h2 : x.f1.size ≤ bulkN x := by unfold bulkN; omega
    omega
  obtain ⟨b, hfew, hb60⟩ := few_ev l (by
    have h1 : l.length ≤ (l.map bulkN).sum := by
      have : ∀ l : List MN, l.length ≤ (l.map bulkN).sum := by
        intro l
        induction l with
        | nil => simp
        | cons x l ih => rw [List.map_cons, List.sum_cons, List.length_cons]; have : 1 ≤ bulkN x := by unfold bulkN; omega
                         omega
      exact this l
    omega)
  obtain ⟨kf, hkf⟩ := Ev.rounds hfew
  have HF := Lib.hid (fun W h => linhaylaw08_Few.calls kf A c l b W h hc hkf)
  have HC := Lib.hid hC
  have HLV := Lib.hid lives45_calls
  clear hC hfew hkf hb ho
  cases b with
  | false =>
    clear hb60
    go_enter Try.func7, Try.ntmps7
    go_wp2_with (first | (go_at_call 10; refine (HF.out _ HC.out).mono ?_; rintro e w2 ⟨rfl, hd2⟩) | (go_at_call 34; refine (HLV.out _).mono ?_; rintro e w7 ⟨rfl, hb7⟩))
    go_ret
    exact ⟨rfl, hd2.below.trans (hb7.mono hd2.below.size)⟩
  | true =>
    have h60 := hb60 rfl
    by_cases hz : (2000 : Int) < (s.size : Int)
    · clear hb60
      go_enter Try.func7, Try.ntmps7
      go_wp2_with (first | (go_at_call 10; refine (HF.out _ HC.out).mono ?_; rintro e w2 ⟨rfl, hd2⟩) | (go_at_call 34; refine (HLV.out _).mono ?_; rintro e w7 ⟨rfl, hb7⟩))
      go_ret
      exact ⟨rfl, hd2.below.trans (hb7.mono hd2.below.size)⟩
    · have hz' : (s.size : Int) ≤ 2000 := by omega
      obtain ⟨hG, hM, hla, hln⟩ := made_good l
      obtain ⟨R, F, hR40, hRok, hof, hE, hrof⟩ := trace_both hG hM (by omega) s last
      obtain ⟨k2, hk2⟩ := Ev.rounds hE
      obtain ⟨kl, hkl⟩ := Ev.rounds (lines_ev R (fun x hx => ⟨by have := (hRok x hx).1; omega, by have := (hRok x hx).2.1; omega⟩) (by omega))
      have HM := Lib.hid (fun W h => made_calls A c l W h hc h60 hsz)
      have HOF := Lib.hid hof
      have HRO := Lib.hid hrof
      have HRF := Lib.hid (fun A c W h1 h2 => linhayref08_Find.calls k2 A c (madeF l).L (madeF l).last s last F.1 F.2 W h1 h2 hk2)
      have HLI := Lib.hid (fun A c W h1 h2 => trace_Lines.calls kl A c R _ W h1 h2 hkl)
      have HNI := Lib.hid (fun W => traceOf_nil s last W)
      have HOK := Lib.hid hRok
      have H40 := Lib.hid hR40
      generalize (madeF l).L = L at *
      generalize (madeF l).last = la at *
      obtain ⟨f1, f2⟩ := F
      simp only [] at HOF HRF
      clear hb60 hG hM hla hln hof hrof hE hk2 hkl hsz hz hRok hR40
      go_enter Try.func7, Try.ntmps7
      go_upto_region 4 with (first | (go_at_call 10; refine (HF.out _ HC.out).mono ?_; rintro e w2 ⟨rfl, hd2⟩; have HB2 := Lib.hid hd2.below) | (go_at_call 12; refine (HM.out _ (Kd.C_below HC.out HB2.out)).mono ?_; rintro e w3 ⟨p, B, v, rfl, hT3, ⟨A3, c3, rfl, hc3, hC3⟩, hb3, _, _⟩; have HT3 := Lib.hid hT3.at_; have HC3 := Lib.hid hC3; clear hT3 hC3))
      have hba := (Below.refl _ w3).alloc (Nat.le_refl _) (.cells #[.slice A3 L.length c3, .int .i64 la] 28)
      have h4 := heap_alloc_new w3 (.cells #[.slice A3 L.length c3, .int .i64 la] 28)
      have HT4 := Lib.hid (HT3.out.below hba)
      have HC4 := Lib.hid (Kd.C_below HC3.out hba)
      have HB4 := Lib.hid (HB2.out.trans ((hb3.mono HB2.out.size).trans (hba.mono (Nat.le_trans HB2.out.size hb3.size))))
      generalize w3.alloc (.cells #[.slice A3 L.length c3, .int .i64 la] 28) = w4 at h4 HT4 HC4 HB4 ⊢
      generalize w3.heap.size = g at h4 ⊢
      have H4 := Lib.hid h4
      have HX := Lib.hid (fun (W : World) (h : Below w4.heap.size w4 W) => show W.cell? ⟨g, 0, none⟩ = some (.slice A3 L.length c3) ∧ W.cell? ⟨g, 1, none⟩ = some (.int .i64 la) by
        have h5 := (h.block _ (blk_lt H4.out)).trans H4.out
        exact ⟨by rw [blk_cell h5]; rfl, by rw [blk_cell h5]; rfl⟩)
      clear hba h4 HT3 HC3 hb3
      have e1 : (f1 != f1) = false := by simp
      have e2 : (f2 != f2) = false := by simp
      have e3 : ((R.length : Int) != (R.length : Int)) = false := by simp
      have e4 : decide ((40 : Int) < (R.length : Int)) = false := decide_eq_false (by have := H40.out; omega)
      go_upto_region 8 with (first
        | (go_at_call 35; refine (HOF.out _ _ HT4.out).mono ?_; rintro e w5 ⟨A5, c5, rfl, hc5, hC5, hb5⟩; have HB5 := Lib.hid hb5; have HC5 := Lib.hid hC5; obtain ⟨x0, x1⟩ := HX.out _ hb5; clear hb5 hC5)
        | (go_at_call 25; refine (HRF.out _ _ _ (Kd.C_below HC4.out HB5.out) hc3).mono ?_; rintro e w6 ⟨rfl, hb6⟩; have HB6 := Lib.hid (HB5.out.trans (hb6.mono HB5.out.size)); have HC6 := Lib.hid (Kd.C_below HC5.out hb6); clear hb6 x0 x1; obtain ⟨x0, x1⟩ := HX.out _ HB6.out)
        | (go_at_call 36; refine (HRO.out _ _ _ hc3 (Kd.C_below HC4.out HB6.out)).mono ?_; rintro e w7 ⟨A7, c7, rfl, hc7, hC7, hb7⟩; rw [List.length_map] at hc7 hC7; rw [List.length_map]; have HB7 := Lib.hid (HB6.out.trans (hb7.mono HB6.out.size)); have HC7 := Lib.hid (Kd.C_below HC6.out hb7); have HW7 := Lib.hid hC7; clear hb7 x0 x1 hC7)
        | (go_at_call 37; refine (HLI.out _ _ _ HC7.out hc5).mono ?_; rintro e w8 ⟨v8, rfl, ho8, hb8⟩; obtain ⟨A8, c8, rfl, hl8, hC8⟩ := Kd.R_reads ho8; rw [List.length_map] at hl8 hC8; rw [List.length_map]; have HB8 := Lib.hid (HB7.out.trans (hb8.mono HB7.out.size)); have HC8 := Lib.hid (Kd.C_below HC7.out hb8); have HW8 := Lib.hid (Kd.C_below HW7.out hb8); have HS8 := Lib.hid hC8; clear hb8 ho8 hC8))
      clear HRF HRO HLI HX HF HM HC7 HW7 HC6 HC5 HB5 HB6 HB7
      go_wp2
      go_loopw [16, 17, 18] (fun v16 v17 v18 wr => ∃ i : Nat, v16 = .int .i64 (i : Int) ∧ i ≤ R.length ∧ Below w8.heap.size w8 wr) (fun v _ _ _ => R.length - (intOf v).toNat)
      case atStart => exact ⟨0, rfl, Nat.zero_le _, Below.refl _ _⟩
      case round =>
        obtain ⟨i, rfl, hi, hB⟩ := hrel
        have HB := Lib.hid hB
        by_cases h : i < R.length
        · obtain ⟨ad1, eA1, x0, x1⟩ := at_T76 (Kd.C_below HC8.out hB) (i : Int) (by omega) (by omega)
          obtain ⟨ad2, eA2, y0, y1⟩ := at_T75 (Kd.C_below HW8.out hB) (i : Int) (by omega) (by omega)
          obtain ⟨ad3, eA3, z0⟩ := Kd.at_string (Kd.C_below HS8.out hB) (i : Int) (by omega) (by omega)
          obtain ⟨hx1, hx2, d, er, hrl, hrd⟩ := HOK.out _ (List.getElem_mem h)
          have r2 : rd_T75 (R.map cvH) (i : Int) = cvH R[i] := by simp [rd_T75, h]
          have r3 : rdOf ByteArray.empty (R.map lineF) (i : Int) = R[i].f0 ++ ⟨#[32, 45, 62, 32]⟩ ++ R[i].f1 := by simp [rdOf, h, lineF]
          rw [rdH_get h, Int.toNat_natCast] at x0 x1
          rw [r2, Int.toNat_natCast] at y0 y1
          rw [r3, Int.toNat_natCast] at z0
          subst eA1 eA2 eA3
          generalize R[i] = x at *
          have y0' : wr.cell? (ad2.add (i * 2)) = some (.string x.f0) := y0
          have y1' : wr.cell? ⟨(ad2.add (i * 2)).block, (ad2.add (i * 2)).off + 1, none⟩ = some (.string x.f1) := y1
          have HRL := Lib.hid hrl
          have hlt : (i : Int) < (R.length : Int) := by omega
          have hsz4 : (⟨#[32, 45, 62, 32]⟩ : ByteArray).size = 4 := rfl
          have s1 := eq_true (show x.f0.size + 4 ≤ 9223372036854775807 by omega)
          have s2 : decide (x.f0.size + 4 ≤ 9223372036854775807) = true := decide_eq_true (by omega)
          have s3 := eq_false (show ¬ 9223372036854775807 < x.f0.size + 4 by omega)
          have s4 := eq_true (show (x.f0 ++ (⟨#[32, 45, 62, 32]⟩ : ByteArray)).size + x.f1.size ≤ 9223372036854775807 by rw [ByteArray.size_append]; omega)
          have s5 : decide ((x.f0 ++ (⟨#[32, 45, 62, 32]⟩ : ByteArray)).size + x.f1.size ≤ 9223372036854775807) = true := decide_eq_true (by rw [ByteArray.size_append]; omega)
          have s6 := eq_false (show ¬ 9223372036854775807 < (x.f0 ++ (⟨#[32, 45, 62, 32]⟩ : ByteArray)).size + x.f1.size by rw [ByteArray.size_append]; omega)
          have q1 : (x.f0.toList != x.f0.toList) = false := by simp
          have q2 : (x.f1.toList != x.f1.toList) = false := by simp
          have q3 : ((x.f0 ++ (⟨#[32, 45, 62, 32]⟩ : ByteArray) ++ x.f1).toList != (x.f0 ++ (⟨#[32, 45, 62, 32]⟩ : ByteArray) ++ x.f1).toList) = false := by simp
          clear y0 y1 r2 r3 hrl hB hsz4
          go_upto_region 13 with (fail)
          go_quiet (fail)
          have HB9 := Lib.hid (pw_below_drewN HB.out nq)
          have X0 := Lib.hid (show (wr.drewN nq).cell? (ad1.add (i * 2)) = some (.string x.f0) from x0)
          have X1 := Lib.hid (show (wr.drewN nq).cell? ⟨(ad1.add (i * 2)).block, (ad1.add (i * 2)).off + 1, none⟩ = some (.string x.f1) from x1)
          generalize wr.drewN nq = w9 at HB9 X0 X1 ⊢
          have HT9 := Lib.hid (HT4.out.below (HB8.out.trans (HB9.out.mono HB8.out.size)))
          clear x0 x1 y0' y1' z0
          have x0 := X0.out
          by_cases hle : (x.f0.size : Int) ≤ 1024
          · obtain ⟨rfl, rfl⟩ := hrd hle
            have g1 : decide ((x.f0.size : Int) ≤ 1024) = true := decide_eq_true hle
            clear hrd s1 s2 s3 s4 s5 s6
            go_wp2_with (go_at_call 16; refine (HRL.out _ _ HT9.out).mono ?_; rintro e w10 ⟨rfl, hb10⟩; have HB10 := Lib.hid (HB9.out.trans (hb10.mono HB9.out.size)); have x2 := (hb10.cell (World.block_lt_of_cell? _ _ X0.out)).trans X0.out; have x3 := (hb10.cell (World.block_lt_of_cell? _ _ X1.out)).trans X1.out; clear hb10 x0)
            go_roundw
            case rel => exact ⟨i + 1, by have := H40.out; rw [w1 (by omega)], h, by first | exact HB10.out | exact below_drew HB10.out⟩
            case measure => exact meas_lt h H40.out
          · have g1 : decide ((x.f0.size : Int) ≤ 1024) = false := decide_eq_false hle
            have g2 : (1024 : Int) < (x.f0.size : Int) := by omega
            clear hrd s1 s2 s3 s4 s5 s6
            go_wp2_with (go_at_call 16; refine (HRL.out _ _ HT9.out).mono ?_; rintro e w10 ⟨rfl, hb10⟩; have HB10 := Lib.hid (HB9.out.trans (hb10.mono HB9.out.size)); have x2 := (hb10.cell (World.block_lt_of_cell? _ _ X0.out)).trans X0.out; have x3 := (hb10.cell (World.block_lt_of_cell? _ _ X1.out)).trans X1.out; clear hb10 x0)
            go_roundw
            case rel => exact ⟨i + 1, by have := H40.out; rw [w1 (by omega)], h, by first | exact HB10.out | exact below_drew HB10.out⟩
            case measure => exact meas_lt h H40.out
        · obtain rfl : i = R.length := by omega
          have h' : ¬ ((R.length : Int) < (R.length : Int)) := by omega
          clear h hB
          go_wp2_with (first | (go_at_call 35; refine (HNI.out _).mono ?_; rintro e w9 ⟨rfl, hb9⟩) | (go_at_call 34; refine (HLV.out _).mono ?_; rintro e w10 ⟨rfl, hb10⟩))
          go_ret
          exact ⟨rfl, HB4.out.trans (Below.mono (HB8.out.trans (Below.mono (HB.out.trans (Below.mono (hb9.trans (hb10.mono hb9.size)) HB.out.size)) HB8.out.size)) HB4.out.size)⟩
end Go.Proofs.Ytjfigngmpagloaa.Tw
