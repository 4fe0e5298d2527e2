/- Texts of this session, merged: X3, X4, Ref7, Seek, Walk, Rel, Rput, RputOk, RelPut, Frm, MadeF, Good, Find, Spot. -/
import Derived.Test.YtjfigngmpagloaaQT1
import Derived.Deep.RegionHeld3
import Derived.Deep.AppendLies
import Derived.StillTailTactics
import Derived.Deep.RegionLaw
import Derived.Deep.LoopGhost
import Derived.Deep.QuietTactic
import Derived.BigQuiet

namespace Go.Proofs.Ytjfigngmpagloaa.Ext
end Go.Proofs.Ytjfigngmpagloaa.Ext
namespace Go.Proofs.Ytjfigngmpagloaa.X
open Go.RowKit Go.Proofs.YtjfigngmpagloaaW.PrintWords Go.Proofs.YtjfigngmpagloaaW.PrintLast Go.Proofs.YtjfigngmpagloaaW.PrintMore Go.Proofs.Ytjfigngmpagloaa.Ext
attribute [local go_sem] max2_int min2_int max_two min_two max_three min_three max_four min_four   -- for this text's walks alone
set_option linter.unusedVariables false
set_option linter.unusedSimpArgs false

def linhayref07_dir.f (k : Nat) (l0_0 : List (S97)) (a0_1 : Int) (a1 : Int) : Option (Int) := (linhayref07_At.f k l0_0 a0_1 a1).bind fun bt138 => (if bt138.2.2.2.1 = 0 then (some 5) else (if bt138.2.2.2.1 = 1 then (some 0) else (some 7)))
set_option maxHeartbeats 8000000 in
set_option maxRecDepth 100000 in
theorem linhayref07_dir.calls (k : Nat) (A0_0 : Option Addr) (c0_0 : Nat) (l0_0 : List (S97)) (a0_1 : Int) (a1 : Int) (r : Int) (w : World) (hr0_0 : Kd.C k97 w A0_0 l0_0.length l0_0) (hc0_0 : l0_0.length ≤ c0_0) (h : linhayref07_dir.f k l0_0 a0_1 a1 = some r) :
  Calls Try.prog 93 #[.agg #[.slice A0_0 l0_0.length c0_0, .int .i64 a0_1], .int .i64 a1] w fun e w' => e = .returned (.int .i64 r) ∧ Below w.heap.size w w' := by
 have hu75 := Try.underlying75
 have hu76 := Try.underlying76
 have hu89 := Try.underlying89
 have hu97 := Try.underlying97
 have hu108 := Try.underlying108
 have hu28 := Try.underlying28
 have HR0_0 := Aside0.mk hr0_0
 have HC0_0 := Aside0.mk hc0_0
 clear hr0_0 hc0_0
 have HB := Aside0.mk (Below.refl w.heap.size w)
 have H : ((linhayref07_At.f k l0_0 a0_1 a1).bind fun bt138 => (if bt138.2.2.2.1 = 0 then (some 5) else (if bt138.2.2.2.1 = 1 then (some 0) else (some 7)))) = some r := h
 clear h
 replace H := Option.bind_eq_some_iff.mp H
 obtain ⟨⟨t138, t139, t140, t141, t142⟩, A30, H⟩ := H
 replace H : (if t141 = 0 then (some 5) else (if t141 = 1 then (some 0) else (some 7))) = some r := H
 have A3 := Aside0.mk A30
 clear A30
 by_cases c4 : t141 = 0
 ·
  rw [if_pos c4] at H
  have c4b0 : (t141 == 0) = true := beq_iff_eq.mpr c4
  have c4b1 : (t141 != 0) = false := bne_eq_false_iff_eq.mpr c4
  clear c4
  obtain rfl := Option.some.inj H
  go_enter Try.func93, Try.ntmps93
  go_wp2_with (first | ((with_reducible refine gate_dst (N := 2) rfl ?_); refine box_event ?hg (N := 2) ?hd (cs := #[.slice A0_0 l0_0.length c0_0, .int .i64 a0_1]) (t := 28) ?hr ?_; (case hd => rfl); (case hg => rfl); (case hr => first | (go_simp; done) | (go_simp; rfl)); intro gb137 hg w5 hbox hb; have n0_ := Aside0.mk (below_step (by repeat (first | (with_reducible first | exact HB.out | apply below_alloc | apply pw_below_drewN | apply below_drew1) | exact HB.out)) hb); have n1_ := Aside0.mk (hbox); have n2_ := Aside0.mk ((by rw [hg]; exact (below_size (by repeat (first | (with_reducible first | exact HB.out | apply below_alloc | apply pw_below_drewN | apply below_drew1) | exact HB.out))) : w.heap.size ≤ gb137)); have n3_ := Aside0.mk ((by rw [hg]; exact (below_size (by repeat (first | (with_reducible first | exact HB.out | apply below_alloc | apply pw_below_drewN | apply below_drew1) | exact HB.out))) : w.heap.size ≤ gb137)); clear HB; have HB := n0_; have BK137 := n1_; have GW137 := n2_; have GE137 := n3_; clear n0_ n1_ n2_ n3_; clear hb hbox hg; have hcz6_0 : w5.cell? ⟨gb137, 0, none⟩ = some (.slice A0_0 l0_0.length c0_0) := (blk_cell BK137.out 0).trans rfl; have hcz6_1 : w5.cell? ⟨gb137, 1, none⟩ = some (.int .i64 a0_1) := (blk_cell BK137.out 1).trans rfl; have hfz6_0 := blk_frozen BK137.out 0; have hfz6_1 := blk_frozen BK137.out 1) | ((with_reducible refine gate_callee (f := 49) rfl ?_); refine goesL_ (some 8) rfl rfl Try.func49 (by kernel_rfl) rfl #[.agg #[.slice A0_0 l0_0.length c0_0, .int .i64 a0_1], .int .i64 a1] rfl (by (try simp only [List.map_toArray, List.map_cons, List.map_nil]); first | done | rfl | (simp only [List.length_drop, List.length_take]; rfl)) ?_; (with_reducible refine (linhayref07_At.calls k _ _ l0_0 a0_1 a1 t138 t139 t140 t141 t142 _ ?side1 ?side2 A3.out).mono ?_); (case side1 => repeat (first | exact (Kd.C_below HR0_0.out HB.out) | (with_reducible refine Kd.C_alloc ?_ _) | (with_reducible refine Kd.C_drewN ?_ _) | (with_reducible refine Kd.C_drew ?_))); (case side2 => exact HC0_0.out); rintro e w7 ⟨rfl, hb⟩; refine ⟨_, rfl, ?_⟩; have n0_ := Aside0.mk (blk_below (g := gb137) (o := .cells #[.slice A0_0 l0_0.length c0_0, .int .i64 a0_1] 28 (0, 0)) (by (with_reducible repeat (first | refine blk_drewN ?_ _ | refine blk_drew ?_ | refine blk_alloc ?_ _)); exact BK137.out) hb); have n1_ := Aside0.mk (below_step (by repeat (first | (with_reducible first | exact HB.out | apply below_alloc | apply pw_below_drewN | apply below_drew1 | refine below_set ?_ GE137.out) | exact HB.out)) hb); clear BK137; clear HB; have BK137 := n0_; have HB := n1_; clear n0_ n1_; (try clear hb); (try clear hb2); (try clear hk); (try clear hi)))
  go_ret
  exact ⟨by first | rfl | (simp [errW_none, errW_some] <;> rfl) | (simp [*, errW_none, errW_some] <;> rfl) | (simp [errW_none, errW_some, bne_nil]; done) | (simp [*, bne_nil]; done) | (simp [bne]; done), by repeat (first | (with_reducible first | exact HB.out | apply below_alloc | apply pw_below_drewN | apply below_drew1 | refine below_set ?_ GE137.out) | exact HB.out)⟩
 ·
  rw [if_neg c4] at H
  have c4b0 : (t141 == 0) = false := beq_eq_false_iff_ne.mpr c4
  have c4b1 : (t141 != 0) = true := bne_iff_ne.mpr c4
  by_cases c8 : t141 = 1
  ·
   rw [if_pos c8] at H
   have c8b0 : (t141 == 1) = true := beq_iff_eq.mpr c8
   have c8b1 : (t141 != 1) = false := bne_eq_false_iff_eq.mpr c8
   clear c8
   obtain rfl := Option.some.inj H
   go_enter Try.func93, Try.ntmps93
   go_wp2_with (first | ((with_reducible refine gate_dst (N := 2) rfl ?_); refine box_event ?hg (N := 2) ?hd (cs := #[.slice A0_0 l0_0.length c0_0, .int .i64 a0_1]) (t := 28) ?hr ?_; (case hd => rfl); (case hg => rfl); (case hr => first | (go_simp; done) | (go_simp; rfl)); intro gb137 hg w9 hbox hb; have n0_ := Aside0.mk (below_step (by repeat (first | (with_reducible first | exact HB.out | apply below_alloc | apply pw_below_drewN | apply below_drew1) | exact HB.out)) hb); have n1_ := Aside0.mk (hbox); have n2_ := Aside0.mk ((by rw [hg]; exact (below_size (by repeat (first | (with_reducible first | exact HB.out | apply below_alloc | apply pw_below_drewN | apply below_drew1) | exact HB.out))) : w.heap.size ≤ gb137)); have n3_ := Aside0.mk ((by rw [hg]; exact (below_size (by repeat (first | (with_reducible first | exact HB.out | apply below_alloc | apply pw_below_drewN | apply below_drew1) | exact HB.out))) : w.heap.size ≤ gb137)); clear HB; have HB := n0_; have BK137 := n1_; have GW137 := n2_; have GE137 := n3_; clear n0_ n1_ n2_ n3_; clear hb hbox hg; have hcz10_0 : w9.cell? ⟨gb137, 0, none⟩ = some (.slice A0_0 l0_0.length c0_0) := (blk_cell BK137.out 0).trans rfl; have hcz10_1 : w9.cell? ⟨gb137, 1, none⟩ = some (.int .i64 a0_1) := (blk_cell BK137.out 1).trans rfl; have hfz10_0 := blk_frozen BK137.out 0; have hfz10_1 := blk_frozen BK137.out 1) | ((with_reducible refine gate_callee (f := 49) rfl ?_); refine goesL_ (some 8) rfl rfl Try.func49 (by kernel_rfl) rfl #[.agg #[.slice A0_0 l0_0.length c0_0, .int .i64 a0_1], .int .i64 a1] rfl (by (try simp only [List.map_toArray, List.map_cons, List.map_nil]); first | done | rfl | (simp only [List.length_drop, List.length_take]; rfl)) ?_; (with_reducible refine (linhayref07_At.calls k _ _ l0_0 a0_1 a1 t138 t139 t140 t141 t142 _ ?side1 ?side2 A3.out).mono ?_); (case side1 => repeat (first | exact (Kd.C_below HR0_0.out HB.out) | (with_reducible refine Kd.C_alloc ?_ _) | (with_reducible refine Kd.C_drewN ?_ _) | (with_reducible refine Kd.C_drew ?_))); (case side2 => exact HC0_0.out); rintro e w11 ⟨rfl, hb⟩; refine ⟨_, rfl, ?_⟩; have n0_ := Aside0.mk (blk_below (g := gb137) (o := .cells #[.slice A0_0 l0_0.length c0_0, .int .i64 a0_1] 28 (0, 0)) (by (with_reducible repeat (first | refine blk_drewN ?_ _ | refine blk_drew ?_ | refine blk_alloc ?_ _)); exact BK137.out) hb); have n1_ := Aside0.mk (below_step (by repeat (first | (with_reducible first | exact HB.out | apply below_alloc | apply pw_below_drewN | apply below_drew1 | refine below_set ?_ GE137.out) | exact HB.out)) hb); clear BK137; clear HB; have BK137 := n0_; have HB := n1_; clear n0_ n1_; (try clear hb); (try clear hb2); (try clear hk); (try clear hi)))
   go_ret
   exact ⟨by first | rfl | (simp [errW_none, errW_some] <;> rfl) | (simp [*, errW_none, errW_some] <;> rfl) | (simp [errW_none, errW_some, bne_nil]; done) | (simp [*, bne_nil]; done) | (simp [bne]; done), by repeat (first | (with_reducible first | exact HB.out | apply below_alloc | apply pw_below_drewN | apply below_drew1 | refine below_set ?_ GE137.out) | exact HB.out)⟩
  ·
   rw [if_neg c8] at H
   have c8b0 : (t141 == 1) = false := beq_eq_false_iff_ne.mpr c8
   have c8b1 : (t141 != 1) = true := bne_iff_ne.mpr c8
   obtain rfl := Option.some.inj H
   go_enter Try.func93, Try.ntmps93
   go_wp2_with (first | ((with_reducible refine gate_dst (N := 2) rfl ?_); refine box_event ?hg (N := 2) ?hd (cs := #[.slice A0_0 l0_0.length c0_0, .int .i64 a0_1]) (t := 28) ?hr ?_; (case hd => rfl); (case hg => rfl); (case hr => first | (go_simp; done) | (go_simp; rfl)); intro gb137 hg w12 hbox hb; have n0_ := Aside0.mk (below_step (by repeat (first | (with_reducible first | exact HB.out | apply below_alloc | apply pw_below_drewN | apply below_drew1) | exact HB.out)) hb); have n1_ := Aside0.mk (hbox); have n2_ := Aside0.mk ((by rw [hg]; exact (below_size (by repeat (first | (with_reducible first | exact HB.out | apply below_alloc | apply pw_below_drewN | apply below_drew1) | exact HB.out))) : w.heap.size ≤ gb137)); have n3_ := Aside0.mk ((by rw [hg]; exact (below_size (by repeat (first | (with_reducible first | exact HB.out | apply below_alloc | apply pw_below_drewN | apply below_drew1) | exact HB.out))) : w.heap.size ≤ gb137)); clear HB; have HB := n0_; have BK137 := n1_; have GW137 := n2_; have GE137 := n3_; clear n0_ n1_ n2_ n3_; clear hb hbox hg; have hcz13_0 : w12.cell? ⟨gb137, 0, none⟩ = some (.slice A0_0 l0_0.length c0_0) := (blk_cell BK137.out 0).trans rfl; have hcz13_1 : w12.cell? ⟨gb137, 1, none⟩ = some (.int .i64 a0_1) := (blk_cell BK137.out 1).trans rfl; have hfz13_0 := blk_frozen BK137.out 0; have hfz13_1 := blk_frozen BK137.out 1) | ((with_reducible refine gate_callee (f := 49) rfl ?_); refine goesL_ (some 8) rfl rfl Try.func49 (by kernel_rfl) rfl #[.agg #[.slice A0_0 l0_0.length c0_0, .int .i64 a0_1], .int .i64 a1] rfl (by (try simp only [List.map_toArray, List.map_cons, List.map_nil]); first | done | rfl | (simp only [List.length_drop, List.length_take]; rfl)) ?_; (with_reducible refine (linhayref07_At.calls k _ _ l0_0 a0_1 a1 t138 t139 t140 t141 t142 _ ?side1 ?side2 A3.out).mono ?_); (case side1 => repeat (first | exact (Kd.C_below HR0_0.out HB.out) | (with_reducible refine Kd.C_alloc ?_ _) | (with_reducible refine Kd.C_drewN ?_ _) | (with_reducible refine Kd.C_drew ?_))); (case side2 => exact HC0_0.out); rintro e w14 ⟨rfl, hb⟩; refine ⟨_, rfl, ?_⟩; have n0_ := Aside0.mk (blk_below (g := gb137) (o := .cells #[.slice A0_0 l0_0.length c0_0, .int .i64 a0_1] 28 (0, 0)) (by (with_reducible repeat (first | refine blk_drewN ?_ _ | refine blk_drew ?_ | refine blk_alloc ?_ _)); exact BK137.out) hb); have n1_ := Aside0.mk (below_step (by repeat (first | (with_reducible first | exact HB.out | apply below_alloc | apply pw_below_drewN | apply below_drew1 | refine below_set ?_ GE137.out) | exact HB.out)) hb); clear BK137; clear HB; have BK137 := n0_; have HB := n1_; clear n0_ n1_; (try clear hb); (try clear hb2); (try clear hk); (try clear hi)))
   go_ret
   exact ⟨by first | rfl | (simp [errW_none, errW_some] <;> rfl) | (simp [*, errW_none, errW_some] <;> rfl) | (simp [errW_none, errW_some, bne_nil]; done) | (simp [*, bne_nil]; done) | (simp [bne]; done), by repeat (first | (with_reducible first | exact HB.out | apply below_alloc | apply pw_below_drewN | apply below_drew1 | refine below_set ?_ GE137.out) | exact HB.out)⟩

end Go.Proofs.Ytjfigngmpagloaa.X

namespace Go.Proofs.Ytjfigngmpagloaa.Ext
end Go.Proofs.Ytjfigngmpagloaa.Ext
namespace Go.Proofs.Ytjfigngmpagloaa.X
open Go.RowKit Go.Proofs.YtjfigngmpagloaaW.PrintWords Go.Proofs.YtjfigngmpagloaaW.PrintLast Go.Proofs.YtjfigngmpagloaaW.PrintMore Go.Proofs.Ytjfigngmpagloaa.Ext
attribute [local go_sem] max2_int min2_int max_two min_two max_three min_three max_four min_four   -- for this text's walks alone
set_option linter.unusedVariables false
set_option linter.unusedSimpArgs false

mutual
def linhayref07_may.j0 : Nat → Int → ByteArray → Bool → Option (Int)
  | 0, _, _, _ => none
  | k + 1, x0, x1, x10 => if x10 = true then (some 2) else (if x0 = 1 then (if x1.toList = ([] : List UInt8) then (if x0 = 3 then (linhayref07_may.j1 k x1 (x1.toList == ([] : List UInt8))) else (linhayref07_may.j1 k x1 false)) else (linhayref07_may.j1 k x1 true)) else (if x0 = 3 then (linhayref07_may.j1 k x1 (x1.toList == ([] : List UInt8))) else (linhayref07_may.j1 k x1 false)))
def linhayref07_may.j1 : Nat → ByteArray → Bool → Option (Int)
  | 0, _, _ => none
  | k + 1, x1, x24 => if x24 = true then (some 3) else (if (x1.size : Int) > 65536 then (some 4) else (some 0))
end
def linhayref07_may.f (k : Nat) (a0 : Int) (a1 : ByteArray) : Option (Int) := if a0 < 1 then (linhayref07_may.j0 k a0 a1 true) else (linhayref07_may.j0 k a0 a1 (decide (a0 > 3)))
set_option maxHeartbeats 8000000 in
set_option maxRecDepth 100000 in
theorem linhayref07_may.calls (k : Nat) (a0 : Int) (a1 : ByteArray) (r : Int) (w : World) (h : linhayref07_may.f k a0 a1 = some r) :
  Calls Try.prog 94 #[.int .i64 a0, .string a1] w fun e w' => e = .returned (.int .i64 r) ∧ Drawn0 w w' := by
 have hu75 := Try.underlying75
 have hu76 := Try.underlying76
 have hu89 := Try.underlying89
 have hu97 := Try.underlying97
 have hu108 := Try.underlying108
 have H : (if a0 < 1 then (linhayref07_may.j0 k a0 a1 true) else (linhayref07_may.j0 k a0 a1 (decide (a0 > 3)))) = some r := h
 clear h
 have HC3 := Aside0.mk H
 clear H
 go_enter Try.func94, Try.ntmps94
 go_upto_region 1 with (fail)
 go_cut [10] (fun v10 wc => ∃ (kq : Nat) (x10_2 : Bool), v10 = .bool x10_2 ∧ Aside0 (linhayref07_may.j0 kq a0 a1 x10_2 = some r) ∧ Aside0 (kq ≤ k) ∧ Drawn0 w wc)
 case first =>
  have H := HC3.out
  clear HC3
  by_cases c4 : a0 < 1
  ·
   rw [if_pos c4] at H
   have c4b0 : decide (a0 < 1) = true := decide_eq_true c4
   clear c4
   (first | rw [c4b0] | (simp only [i64_w, i32_w]; rw [c4b0]) | skip)
   have H' := Aside0.mk H
   clear H
   go_wp2
   go_meet
   case rel => exact ⟨_, (true), (by first | rfl | (simp; done) | (simp [*]; done) | (simp [bne_nil]; done)), H', ⟨by first | omega | exact Nat.le_refl _⟩, by repeat (first | exact Drawn0.refl _ | apply Drawn0.step)⟩
  ·
   rw [if_neg c4] at H
   have c4b0 : decide (a0 < 1) = false := decide_eq_false c4
   clear c4
   (first | rw [c4b0] | (simp only [i64_w, i32_w]; rw [c4b0]) | skip)
   have H' := Aside0.mk H
   clear H
   go_wp2
   go_meet
   case rel => exact ⟨_, (decide (a0 > 3)), (by first | rfl | (simp; done) | (simp [*]; done) | (simp [bne_nil]; done)), H', ⟨by first | omega | exact Nat.le_refl _⟩, by repeat (first | exact Drawn0.refl _ | apply Drawn0.step)⟩
 case rest =>
  clear HC3
  try clear p2
  try clear c4
  try clear c4b0
  obtain ⟨kq, x10_2, rfl, HA, HJ2, ⟨mc2, rfl⟩⟩ := hcut
  cases kq with
  | zero => exact absurd HA.out (by simp [linhayref07_may.j0])
  | succ kj2 =>
   have H := HA.out
   clear HA
   simp only [linhayref07_may.j0] at H
   by_cases c5 : x10_2 = true
   ·
    subst c5
    have H1 : (some 2) = some r := by rw [if_pos rfl] at H; exact H
    clear H
    have H := H1
    clear H1
    obtain rfl := Option.some.inj H
    go_wp2
    go_ret
    exact ⟨by first | rfl | (simp; done) | (simp [*]; done), by repeat (first | exact Drawn0.refl _ | apply Drawn0.step)⟩
   ·
    replace c5 := Bool.eq_false_iff.mpr c5
    subst c5
    have H1 : (if a0 = 1 then (if a1.toList = ([] : List UInt8) then (if a0 = 3 then (linhayref07_may.j1 kj2 a1 (a1.toList == ([] : List UInt8))) else (linhayref07_may.j1 kj2 a1 false)) else (linhayref07_may.j1 kj2 a1 true)) else (if a0 = 3 then (linhayref07_may.j1 kj2 a1 (a1.toList == ([] : List UInt8))) else (linhayref07_may.j1 kj2 a1 false))) = some r := by rw [if_neg (show ¬ (false = true) by decide)] at H; exact H
    clear H
    have H := H1
    clear H1
    have HC6 := Aside0.mk H
    clear H
    go_upto_region 3 with (fail)
    go_cut [24] (fun v24 wc => ∃ (kq : Nat) (x24_5 : Bool), v24 = .bool x24_5 ∧ Aside0 (linhayref07_may.j1 kq a1 x24_5 = some r) ∧ Aside0 (kq ≤ kj2) ∧ Drawn0 w wc)
    case first =>
     have H := HC6.out
     clear HC6
     by_cases c7 : a0 = 1
     ·
      rw [if_pos c7] at H
      have c7b0 : (a0 == 1) = true := beq_iff_eq.mpr c7
      have c7b1 : (a0 != 1) = false := bne_eq_false_iff_eq.mpr c7
      clear c7
      (first | rw [c7b0] | (simp only [i64_w, i32_w]; rw [c7b0]) | skip)
      by_cases c8 : a1.toList = ([] : List UInt8)
      ·
       rw [if_pos c8] at H
       have c8b0 : (a1.toList == ([] : List UInt8)) = true := beq_iff_eq.mpr c8
       have c8b1 : (a1.toList != ([] : List UInt8)) = false := bne_eq_false_iff_eq.mpr c8
       clear c8
       by_cases c9 : a0 = 3
       ·
        rw [if_pos c9] at H
        have c9b0 : (a0 == 3) = true := beq_iff_eq.mpr c9
        have c9b1 : (a0 != 3) = false := bne_eq_false_iff_eq.mpr c9
        clear c9
        have H' := Aside0.mk H
        clear H
        go_wp2
        go_meet
        case rel => exact ⟨_, ((a1.toList == ([] : List UInt8))), (by first | rfl | (simp; done) | (simp [*]; done) | (simp [bne_nil]; done)), H', ⟨by have := HJ2.out; first | omega | exact Nat.le_refl _⟩, by repeat (first | exact Drawn0.refl _ | apply Drawn0.step)⟩
       ·
        rw [if_neg c9] at H
        have c9b0 : (a0 == 3) = false := beq_eq_false_iff_ne.mpr c9
        have c9b1 : (a0 != 3) = true := bne_iff_ne.mpr c9
        have H' := Aside0.mk H
        clear H
        go_wp2
        go_meet
        case rel => exact ⟨_, (false), (by first | rfl | (simp; done) | (simp [*]; done) | (simp [bne_nil]; done)), H', ⟨by have := HJ2.out; first | omega | exact Nat.le_refl _⟩, by repeat (first | exact Drawn0.refl _ | apply Drawn0.step)⟩
      ·
       rw [if_neg c8] at H
       have c8b0 : (a1.toList == ([] : List UInt8)) = false := beq_eq_false_iff_ne.mpr c8
       have c8b1 : (a1.toList != ([] : List UInt8)) = true := bne_iff_ne.mpr c8
       have H' := Aside0.mk H
       clear H
       go_wp2
       go_meet
       case rel => exact ⟨_, (true), (by first | rfl | (simp; done) | (simp [*]; done) | (simp [bne_nil]; done)), H', ⟨by have := HJ2.out; first | omega | exact Nat.le_refl _⟩, by repeat (first | exact Drawn0.refl _ | apply Drawn0.step)⟩
     ·
      rw [if_neg c7] at H
      have c7b0 : (a0 == 1) = false := beq_eq_false_iff_ne.mpr c7
      have c7b1 : (a0 != 1) = true := bne_iff_ne.mpr c7
      (first | rw [c7b0] | (simp only [i64_w, i32_w]; rw [c7b0]) | skip)
      by_cases c10 : a0 = 3
      ·
       rw [if_pos c10] at H
       have c10b0 : (a0 == 3) = true := beq_iff_eq.mpr c10
       have c10b1 : (a0 != 3) = false := bne_eq_false_iff_eq.mpr c10
       clear c10
       have H' := Aside0.mk H
       clear H
       go_wp2
       go_meet
       case rel => exact ⟨_, ((a1.toList == ([] : List UInt8))), (by first | rfl | (simp; done) | (simp [*]; done) | (simp [bne_nil]; done)), H', ⟨by have := HJ2.out; first | omega | exact Nat.le_refl _⟩, by repeat (first | exact Drawn0.refl _ | apply Drawn0.step)⟩
      ·
       rw [if_neg c10] at H
       have c10b0 : (a0 == 3) = false := beq_eq_false_iff_ne.mpr c10
       have c10b1 : (a0 != 3) = true := bne_iff_ne.mpr c10
       have H' := Aside0.mk H
       clear H
       go_wp2
       go_meet
       case rel => exact ⟨_, (false), (by first | rfl | (simp; done) | (simp [*]; done) | (simp [bne_nil]; done)), H', ⟨by have := HJ2.out; first | omega | exact Nat.le_refl _⟩, by repeat (first | exact Drawn0.refl _ | apply Drawn0.step)⟩
    case rest =>
     clear HC6
     try clear c1
     try clear c2
     try clear p2
     try clear c4
     try clear c4b0
     try clear c5
     try clear c7
     try clear c7b0
     try clear c7b1
     try clear c8
     try clear c8b0
     try clear c8b1
     try clear c9
     try clear c9b0
     try clear c9b1
     try clear c10
     try clear c10b0
     try clear c10b1
     try clear p2
     obtain ⟨kq, x24_5, rfl, HA, HJ5, ⟨mc5, rfl⟩⟩ := hcut
     cases kq with
     | zero => exact absurd HA.out (by simp [linhayref07_may.j1])
     | succ kj5 =>
      have H := HA.out
      clear HA
      simp only [linhayref07_may.j1] at H
      by_cases c11 : x24_5 = true
      ·
       subst c11
       have H1 : (some 3) = some r := by rw [if_pos rfl] at H; exact H
       clear H
       have H := H1
       clear H1
       obtain rfl := Option.some.inj H
       go_wp2
       go_ret
       exact ⟨by first | rfl | (simp; done) | (simp [*]; done), by repeat (first | exact Drawn0.refl _ | apply Drawn0.step)⟩
      ·
       replace c11 := Bool.eq_false_iff.mpr c11
       subst c11
       have H1 : (if (a1.size : Int) > 65536 then (some 4) else (some 0)) = some r := by rw [if_neg (show ¬ (false = true) by decide)] at H; exact H
       clear H
       have H := H1
       clear H1
       by_cases c12 : (a1.size : Int) > 65536
       ·
        rw [if_pos c12] at H
        have c12b0 : decide (65536 < (a1.size : Int)) = true := decide_eq_true c12
        have c12b1 : decide (65536 < a1.size) = true := decide_eq_true (by omega)
        clear c12
        obtain rfl := Option.some.inj H
        go_wp2
        go_ret
        exact ⟨by first | rfl | (simp; done) | (simp [*]; done), by repeat (first | exact Drawn0.refl _ | apply Drawn0.step)⟩
       ·
        rw [if_neg c12] at H
        have c12b0 : decide (65536 < (a1.size : Int)) = false := decide_eq_false c12
        have c12b1 : decide (65536 < a1.size) = false := decide_eq_false (by omega)
        clear c12
        obtain rfl := Option.some.inj H
        go_wp2
        go_ret
        exact ⟨by first | rfl | (simp; done) | (simp [*]; done), by repeat (first | exact Drawn0.refl _ | apply Drawn0.step)⟩

-- NOT PRINTED: function 47 (linhayref07_Put)

end Go.Proofs.Ytjfigngmpagloaa.X

namespace Go.Proofs.Ytjfigngmpagloaa.Tw
open Go Go.RowKit Go.Shelf Go.Proofs Go.Proofs.Ytjfigngmpagloaa Go.Proofs.YtjfigngmpagloaaW.PrintWords Go.Proofs.Ytjfigngmpagloaa.Ext Go.Proofs.Ytjfigngmpagloaa.X Go.Proofs.Ytjfigngmpagloaa.Pu
set_option linter.unusedVariables false
set_option linter.unusedSimpArgs false
abbrev RN := S97
def zR : RN := ⟨0, 0, ⟨#[]⟩, 0, ⟨#[]⟩⟩
def atR (L : List RN) (n : Int) : RN := (L.find? (fun r => r.f0 == n)).getD zR
def inQ (d : Int) (s : ByteArray) (r : RN) : Bool := r.f1 == d && (r.f2.toList == s.toList && !(r.f0 == 1))
def inR (L : List RN) (d : Int) (s : ByteArray) : Int := match L.find? (inQ d s) with | some r => r.f0 | none => 0
theorem rd_get {l : List RN} {i : Nat} (h : i < l.length) : rd_T97 l (i : Int) = l[i] := by simp [rd_T97, h]
theorem atR_pos {a : RN} {l : List RN} {n : Int} (h : a.f0 = n) : atR (a :: l) n = a := by
  unfold atR; rw [List.find?_cons, show (a.f0 == n) = true by simp [h]]; rfl
theorem atR_neg {a : RN} {l : List RN} {n : Int} (h : ¬ a.f0 = n) : atR (a :: l) n = atR l n := by
  unfold atR; rw [List.find?_cons, show (a.f0 == n) = false by simp [h]]
theorem r07_at (L : List RN) (n last : Int) (hl : L.length < 4294967296) : Ev (fun k => linhayref07_At.f k L last n) ((atR L n).f0, (atR L n).f1, (atR L n).f2, (atR L n).f3, (atR L n).f4) := by
  have key : ∀ (d i : Nat), i + d = L.length → Ev (fun k => linhayref07_At.l0 k n (i : Int) L last) ((atR (L.drop i) n).f0, (atR (L.drop i) n).f1, (atR (L.drop i) n).f2, (atR (L.drop i) n).f3, (atR (L.drop i) n).f4) := by
    intro d
    induction d with
    | zero =>
      intro i hi
      rw [List.drop_eq_nil_of_le (by omega)]
      refine Ev.step (fun k => by rw [linhayref07_At.l0]) ?_
      exact ev_neg (by omega) (Ev.now _)
    | succ d ih =>
      intro i hi
      have hlt : i < L.length := by omega
      refine Ev.step (fun k => by rw [linhayref07_At.l0]) (ev_pos (by omega) (ev_pos (by omega) ?_))
      rw [rd_get hlt, w1 (by omega), List.drop_eq_getElem_cons hlt]
      by_cases e : L[i].f0 = n
      · have e2 : atR (L[i] :: L.drop (i + 1)) n = L[i] := atR_pos e
        rw [e2]
        exact ev_pos e (Ev.now _)
      · have e2 : atR (L[i] :: L.drop (i + 1)) n = atR (L.drop (i + 1)) n := atR_neg e
        rw [e2]
        exact ev_neg e (ih (i + 1) (by omega))
  have := key L.length 0 (by omega)
  rw [List.drop_zero] at this
  exact this
theorem r07_in (L : List RN) (d last : Int) (s : ByteArray) (hl : L.length < 4294967296) : Ev (fun k => linhayref07_In.f k L last d s) (inR L d s) := by
  have key : ∀ (m i : Nat), i + m = L.length → Ev (fun k => linhayref07_In.l0 k d s (i : Int) L last) (inR (L.drop i) d s) := by
    intro m
    induction m with
    | zero =>
      intro i hi
      rw [List.drop_eq_nil_of_le (by omega)]
      refine Ev.step (fun k => by rw [linhayref07_In.l0]) ?_
      exact ev_neg (by omega) (Ev.now _)
    | succ m ih =>
      intro i hi
      have hlt : i < L.length := by omega
      refine Ev.step (fun k => by rw [linhayref07_In.l0]) (ev_pos (by omega) (ev_pos (by omega) ?_))
      rw [rd_get hlt, w1 (by omega), List.drop_eq_getElem_cons hlt]
      have hF : inQ d s L[i] = false → inR (L[i] :: L.drop (i + 1)) d s = inR (L.drop (i + 1)) d s := by
        intro h; unfold inR; rw [List.find?_cons, h]
      by_cases e : L[i].f1 = d
      · by_cases e2 : L[i].f2.toList = s.toList
        · by_cases e3 : L[i].f0 = 1
          · rw [hF (by simp [inQ, e3])]
            exact ev_pos e (ev_pos e2 (ev_pos e3 (ih (i + 1) (by omega))))
          · have : inR (L[i] :: L.drop (i + 1)) d s = L[i].f0 := by
              unfold inR; rw [List.find?_cons, show inQ d s L[i] = true by simp [inQ, e, e2, e3]]
            rw [this]
            exact ev_pos e (ev_pos e2 (ev_neg e3 (Ev.now _)))
        · rw [hF (by simp [inQ, e2])]
          exact ev_pos e (ev_neg e2 (ih (i + 1) (by omega)))
      · rw [hF (by simp [inQ, e])]
        exact ev_neg e (ih (i + 1) (by omega))
  have := key L.length 0 (by omega)
  rw [List.drop_zero] at this
  exact this
theorem r07_dir (L : List RN) (n last : Int) (hl : L.length < 4294967296) : Ev (fun k => linhayref07_dir.f k L last n) (dirE (atR L n).f3) := by
  unfold linhayref07_dir.f dirE
  refine Ev.bind (r07_at L n last hl) ?_
  show Ev (fun _ => if (atR L n).f3 = 0 then some 5 else if (atR L n).f3 = 1 then some 0 else some 7) _
  generalize (atR L n).f3 = k
  by_cases h0 : k = 0
  · simp only [if_pos h0]; exact Ev.now _
  · by_cases h1 : k = 1
    · simp only [if_neg h0, if_pos h1]; exact Ev.now _
    · simp only [if_neg h0, if_neg h1]; exact Ev.now _
end Go.Proofs.Ytjfigngmpagloaa.Tw

namespace Go.Proofs.Ytjfigngmpagloaa.Tw
open Go Go.RowKit Go.Shelf Go.Proofs Go.Proofs.Ytjfigngmpagloaa Go.Proofs.YtjfigngmpagloaaW.PrintWords Go.Proofs.Ytjfigngmpagloaa.Ext Go.Proofs.Ytjfigngmpagloaa.X Go.Proofs.Ytjfigngmpagloaa.Pu
set_option linter.unusedVariables false
set_option linter.unusedSimpArgs false

def beginE (s : ByteArray) : Int := if s.toList = [] then 5 else if s.size > 1024 then 11 else 0
theorem begin_calls (p : Nat) (s : ByteArray) (w : World) : Calls Try.prog 57 #[pT p, .string s] w fun e w' => e = .returned (.int .i64 (beginE s)) ∧ w = w' := by
  obtain ⟨r, hr⟩ : ∃ r, r = beginE s := ⟨_, rfl⟩
  rw [← hr]
  unfold beginE at hr
  by_cases h : s.toList = []
  · rw [if_pos h] at hr
    have HR := Lib.hid hr
    have b1 : (s.toList == []) = true := by rw [h]; rfl
    clear hr h
    go_enter Try.func57, Try.ntmps57
    go_wp2
    go_ret
    exact ⟨by rw [HR.out]; rfl, rfl⟩
  · rw [if_neg h] at hr
    have b1 : (s.toList == []) = false := by simpa using h
    have b2 : s.toList.isEmpty = false := by simpa using h
    by_cases h2 : s.size > 1024
    · rw [if_pos h2] at hr
      have HR := Lib.hid hr
      have d1 : decide (1024 < (s.size : Int)) = true := decide_eq_true (by omega)
      have d2 : decide (1024 < s.size) = true := decide_eq_true (by omega)
      clear hr h h2
      go_enter Try.func57, Try.ntmps57
      go_wp2
      go_ret
      exact ⟨by rw [HR.out]; rfl, rfl⟩
    · rw [if_neg h2] at hr
      have HR := Lib.hid hr
      have d1 : decide (1024 < (s.size : Int)) = false := decide_eq_false (by omega)
      have d2 : decide (1024 < s.size) = false := decide_eq_false (by omega)
      clear hr h h2
      go_enter Try.func57, Try.ntmps57
      go_wp2
      go_ret
      exact ⟨by rw [HR.out]; rfl, rfl⟩
structure Wk (w : World) (g p : Nat) (at_ hops : Int) (l : List ByteArray) (A : Option Addr) (c : Nat) : Prop where
  blk : w.heap[g]? = some (.cells #[pT p, .int .i64 at_, .int .i64 hops, .slice A l.length c] 113 (0, 0))
  row : Kd.C Kd.string w A l.length l
  cap : l.length ≤ c
theorem Wk.below {w w' : World} {g p : Nat} {a h : Int} {l : List ByteArray} {A : Option Addr} {c : Nat} (k : Wk w g p a h l A c) (hb : Below w.heap.size w w') : Wk w' g p a h l A c :=
  ⟨(hb.block _ (blk_lt k.blk)).trans k.blk, Kd.C_below k.row hb, k.cap⟩
theorem Wk.cells {w : World} {g p : Nat} {a h : Int} {l : List ByteArray} {A : Option Addr} {c : Nat} (k : Wk w g p a h l A c) :
    w.cell? ⟨g, 0, none⟩ = some (pT p) ∧ w.cell? ⟨g, 1, none⟩ = some (.int .i64 a) ∧ w.cell? ⟨g, 2, none⟩ = some (.int .i64 h) ∧ w.cell? ⟨g, 3, none⟩ = some (.slice A l.length c) := by
  refine ⟨?_, ?_, ?_, ?_⟩ <;> (rw [blk_cell k.blk]; rfl)

def small (T : Tr) : Prop := ∀ n x, T.get n = some x → x.ents.length < 4294967296
def sorted (T : Tr) : Prop := ∀ n x, T.get n = some x → Rt x.ents
theorem small.node {T : Tr} (h : small T) (n : Int) : (T.node n).ents.length < 4294967296 := by
  unfold Tr.node; cases hx : T.get n with
  | none => exact (by decide : (0 : Nat) < 4294967296)
  | some x => exact h n x hx
theorem sorted.node {T : Tr} (h : sorted T) (n : Int) : Rt (T.node n).ents := by
  unfold Tr.node; cases hx : T.get n with
  | none => exact List.Pairwise.nil
  | some x => exact h n x hx
def downT (T : Tr) (at_ : Int) (s : ByteArray) : Int × Int :=
  if Sp.check s.data.toList = 0 then (if (findE (T.node at_).ents s).2 = true then ((findE (T.node at_).ents s).1, 0) else (0, 5)) else (0, Sp.check s.data.toList)
theorem TreeAt.drewN {w : World} {p : Nat} {T : Tr} (h : TreeAt w p T) (n : Nat) : TreeAt (w.drewN n) p T := h.below (pw_below_drewN (Below.refl _ _) n)
theorem TreeAt.drew {w : World} {p : Nat} {T : Tr} (h : TreeAt w p T) : TreeAt w.drew p T := h.below (below_drew (Below.refl _ _))
set_option maxHeartbeats 4000000 in
set_option maxRecDepth 1000000 in
theorem down_calls (g p : Nat) (T : Tr) (a h : Int) (l : List ByteArray) (A : Option Addr) (c : Nat) (s : ByteArray) (w : World) (hT : TreeAt w p T) (hk : Wk w g p a h l A c) (hs : small T) (hR : sorted T) (hn : wf a) (hz : s.size < 4294967281) :
    Calls Try.prog 97 #[.pointer (some ⟨g, 0, none⟩), .string s] w fun e w' => e = .returned (.tuple #[.int .i64 (downT T a s).1, .int .i64 (downT T a s).2]) ∧ Below w.heap.size w w' := by
  obtain ⟨c0, c1, -, -⟩ := hk.cells
  have hlt := blk_lt hk.blk
  have HT := Lib.hid hT
  have HC := Lib.hid (fun W => name_Check.calls s (Sp.check s.data.toList) W (by rw [name_Check.f, if_pos hz]))
  have HL := Lib.hid (fun W (h : TreeAt W p T) => list_calls p T a W h hn (hs.node a))
  have HF := Lib.hid (fun W A c h hc => find_calls A c (T.node a).ents s W h hc (hs.node a) (hR.node a))
  unfold downT
  generalize (T.node a).ents = es at HL HF ⊢
  generalize hck : Sp.check s.data.toList = ck at HC ⊢
  by_cases h0 : ck = 0
  · subst h0
    rw [if_pos rfl]
    clear hck hT hk
    generalize hfe : findE es s = fe at HF ⊢
    obtain ⟨fn, fb⟩ := fe
    clear hfe
    go_enter Try.func97, Try.ntmps97
    go_upto_region 4 with (go_at_call 63; refine (HC.out _).mono ?_; rintro e w2 ⟨rfl, hb⟩)
    have TT := Lib.hid (HT.out.below hb)
    have d0 := pw_cell_below hb c0
    have d1 := pw_cell_below hb c1
    have g2 : g < w2.heap.size := Nat.lt_of_lt_of_le hlt hb.size
    have HB := Lib.hid hb
    clear hb c0 c1
    go_region_held3 (fun w' => w'.cell? ⟨g, 0, none⟩ = some (pT p) ∧ w'.cell? ⟨g, 1, none⟩ = some (.int .i64 a)) (first | (go_keep; done) | (exact ⟨(hb3.cell (p := ⟨g, 0, none⟩) g2).trans d0, (hb3.cell (p := ⟨g, 1, none⟩) g2).trans d1⟩) | (exact ⟨(hb4.cell (p := ⟨g, 0, none⟩) g3).trans e0, (hb4.cell (p := ⟨g, 1, none⟩) g3).trans e1⟩))
      (first | (go_at_call 40; refine (HL.out _ (by first | exact TT.out | exact TT.out.drew | exact TT.out.drewN _)).mono ?_; rintro e w3 ⟨v, rfl, ho, hb3⟩; obtain ⟨A3, c3, rfl, hl3, hC3⟩ := Kd.R_reads ho; have HC3 := Lib.hid hC3; have g3 : g < w3.heap.size := Nat.lt_of_lt_of_le g2 hb3.size; have e0 := (hb3.cell (p := ⟨g, 0, none⟩) g2).trans d0; have e1 := (hb3.cell (p := ⟨g, 1, none⟩) g2).trans d1; clear ho hC3) | (go_at_call 39; refine (HF.out _ _ _ (by first | exact HC3.out) hl3).mono ?_; rintro e w4 ⟨rfl, hb4⟩))
    have HZ := Lib.hid (((below_drew HB.out).trans (hb3.mono HB.out.size)).trans (hb4.mono (Nat.le_trans HB.out.size hb3.size)))
    clear hb3 hb4 e0 e1 d0 d1
    cases fb with
    | false =>
      go_wp2
      go_ret2
      exact ⟨rfl, HZ.out⟩
    | true =>
      go_wp2
      go_ret2
      exact ⟨rfl, HZ.out⟩
  · rw [if_neg h0]
    have b1 : (ck != 0) = true := bne_iff_ne.2 h0
    clear hck hT hk HL HF HT c0 c1
    go_enter Try.func97, Try.ntmps97
    go_wp2_with (go_at_call 63; refine (HC.out _).mono ?_; rintro e w2 ⟨rfl, hb⟩)
    go_ret2
    exact ⟨rfl, hb⟩

def slashB (s : ByteArray) : Bool := Lib.hasPrefix s.data.toList [47]
def partsB (s : ByteArray) : List ByteArray := bs (Sp.parts s.data.toList)
theorem room_len (l : List (List UInt8)) : l.length ≤ Sp.room l := by
  induction l with
  | nil => simp
  | cons x l ih => rw [Sp.room_cons, List.length_cons]; omega
theorem partsB_len (s : ByteArray) (hz : s.size < 4294967281) : (partsB s).length ≤ 4294967282 := by
  have h1 := Sp.parts_room s.data.toList
  have h2 := room_len (Sp.parts s.data.toList)
  unfold partsB
  rw [bs_len]
  rw [← Sp.size_eq] at h1
  omega
theorem infoS : (Try.prog.info? 9).map (fun i => (i.zero, i.size, i.bytes)) = some (some (.string ⟨#[]⟩), 1, 16) := by kernel_rfl
theorem row_keep {w : World} {g p n c' : Nat} {a h : Int} {l : List ByteArray} {A A' : Option Addr} (kb : w.heap[g]? = some (.cells #[pT p, .int .i64 a, .int .i64 h, .slice A' n c'] 113 (0, 0))) (row : Kd.C Kd.string w A l.length l) (W : World) (hr : ∀ i, i ≠ g → W.heap[i]? = w.heap[i]?) : Kd.C Kd.string W A l.length l := by
  refine ⟨row.1, row.2.1, fun hn => ?_⟩
  obtain ⟨ad, e, hc⟩ := row.2.2 hn
  refine ⟨ad, e, fun j x hj => ?_⟩
  obtain ⟨cs, h1, h2, h3⟩ := hc j x hj
  refine ⟨cs, h1, h2, fun i u hu => ?_⟩
  have h4 := h3 i u hu
  have hs : u = .string x := by
    have h2' : cs = [Value.string x] := h2
    rw [h2'] at hu
    cases i with
    | zero => simpa using hu.symm
    | succ i => simp at hu
  have hne : (ad.add (j * Kd.string.sz + i)).block ≠ g := by
    intro eg
    unfold World.cell? at h4
    rw [eg, kb] at h4
    simp only [] at h4
    split at h4
    · cases h4
    · subst hs
      have := List.mem_of_getElem? (l := [pT p, .int .i64 a, .int .i64 h, .slice A' n c']) (by simpa using h4)
      simp at this
  unfold World.cell? at h4 ⊢
  rw [hr _ hne]
  exact h4
theorem Wk.set1 {w : World} {g p : Nat} {a h : Int} {l : List ByteArray} {A : Option Addr} {c : Nat} (k : Wk w g p a h l A c) (a' : Int) : Wk (w.setCell ⟨g, 1, none⟩ (.int .i64 a')) g p a' h l A c :=
  ⟨blk_set k.blk 1 _, row_keep k.blk k.row _ (fun i hi => Below.heap_setCell w ⟨g, 1, none⟩ _ i (fun e => hi e)), k.cap⟩
theorem Wk.set2 {w : World} {g p : Nat} {a h : Int} {l : List ByteArray} {A : Option Addr} {c : Nat} (k : Wk w g p a h l A c) (h' : Int) : Wk (w.setCell ⟨g, 2, none⟩ (.int .i64 h')) g p a h' l A c :=
  ⟨blk_set k.blk 2 _, row_keep k.blk k.row _ (fun i hi => Below.heap_setCell w ⟨g, 2, none⟩ _ i (fun e => hi e)), k.cap⟩
theorem Wk.drew {w : World} {g p : Nat} {a h : Int} {l : List ByteArray} {A : Option Addr} {c : Nat} (k : Wk w g p a h l A c) : Wk w.drew g p a h l A c := k.below (below_drew (Below.refl _ _))
set_option maxHeartbeats 4000000 in
set_option maxRecDepth 1000000 in
theorem follow_yes (B : Nat) (w0 : World) (g p : Nat) (a h : Int) (l : List ByteArray) (A : Option Addr) (c : Nat) (s : ByteArray) (w : World) (hk : Wk w g p a h l A c) (hB : Below B w0 w) (hg : B ≤ g) (hz : s.size < 4294967281) (hl : l.length < 4294967281) (h0 : 0 ≤ h) (h40 : h < 40) (hsl : slashB s = false) :
    Calls Try.prog 98 #[.pointer (some ⟨g, 0, none⟩), .string s] w fun e w' => e = .returned (.int .i64 0) ∧ (∃ A' c', Wk w' g p a (h + 1) (partsB s ++ l) A' c') ∧ Below B w0 w' := by
  obtain ⟨c0, c1, c2, c3⟩ := hk.cells
  have f2 := blk_frozen hk.blk 2
  have f3 := blk_frozen hk.blk 3
  have hlt := blk_lt hk.blk
  have HP := Lib.hid (fun W => path_Parts.calls s (partsB s) W (by rw [path_Parts.f, if_pos hz]; rfl))
  have HH := Lib.hid (fun W => Try.strings_HasPrefix s ⟨#[47]⟩ W)
  have hsl' : Lib.hasPrefix s.data.toList (⟨#[47]⟩ : ByteArray).data.toList = false := hsl
  rw [hsl'] at HH
  clear hsl hsl'
  have HPL := Lib.hid (partsB_len s hz)
  have d1 : decide (40 < h + 1) = false := decide_eq_false (by omega)
  have e1 : IntKind.i64.wrap (h + 1) = h + 1 := IntWalk.i64_in _ (by omega)
  go_enter Try.func98, Try.ntmps98
  go_upto_region 6 with (go_at_call 105; refine (HH.out _).mono ?_; rintro e w2 ⟨rfl, hw⟩; rw [hw]; clear hw)
  have hk2 := hk.set2 (h + 1)
  have hB2 : Below B w0 (w.setCell ⟨g, 2, none⟩ (.int .i64 (h + 1))) := hB.setCell hg _
  generalize w.setCell ⟨g, 2, none⟩ (.int .i64 (h + 1)) = w2 at hk2 hB2 ⊢
  obtain ⟨-, -, -, d3⟩ := hk2.cells
  have g3 := blk_frozen hk2.blk 3
  have g2 := blk_lt hk2.blk
  have HK := Lib.hid hk2
  have HB := Lib.hid hB2
  clear hk hB hk2 hB2 c0 c1 c2 c3 f2 f3 HH d1 e1
  go_region_law (first | (refine Kd.R_append_rows_step Kd.string (w0 := w3) w2.heap.size (by simp [Region.wanted]) (.tmp 24) (.tmp 28) 42 9 (.string ⟨#[]⟩) 16 rfl Try.underlying42 infoS rfl (by decide) (by omega) v (partsB s) l A l.length c (fun _ => True) (fun _ => False) (by rfl) (by rfl) HO.out HK3.out.row (fun _ _ h => h) (fun _ h => h.elim) (fun _ _ => trivial) (Below.refl _ _) hw3 (by have := HPL.out; omega) ?_; intro v1 w4 ho4 hb4 hg4 hat4; obtain ⟨A1, c1, rfl, hl1, hC1⟩ := Kd.R_reads ho4; have k4 := blk_grown HK3.out.blk hg4 HNE.out; have x4 : w4.cell? ⟨g, 3, none⟩ = some (.slice A l.length c) := (by rw [blk_cell k4]; rfl); have f4 := blk_frozen k4 3; have HK4 := Lib.hid k4; have HC1 := Lib.hid hC1; have HG4 := Lib.hid hg4; clear k4 ho4 hC1 hg4 hat4) | (go_simp; go_at_call 58; refine (HP.out _).mono ?_; rintro e w3 ⟨v, rfl, ho, hb3⟩; have hw3 : w2.heap.size ≤ w3.heap.size := hb3.size; have HK3 := Lib.hid (HK.out.drew.below hb3); have HB3 := Lib.hid ((below_drew HB.out).trans (hb3.mono (Nat.le_of_lt (Nat.lt_of_le_of_lt hg g2)))); have HO := Lib.hid ho; have HNE := Lib.hid (show some g ≠ v.ownBlock from fun e => by have := (Kd.R_bound ho).1 g e.symm; have := this.2.1; simp at this; omega); have x3 : w3.cell? ⟨g, 3, none⟩ = some (.slice A l.length c) := (hb3.cell (p := ⟨g, 3, none⟩) g2).trans d3; have y3 : w3.frozen? ⟨g, 3, none⟩ = false := blk_frozen HK3.out.blk 3; clear ho))
  all_goals
    have hW : Wk (w4.setCell ⟨g, 3, none⟩ (.slice A1 ((partsB s).length + l.length) c1)) g p a (h + 1) (partsB s ++ l) A1 c1 :=
      ⟨by rw [List.length_append]; exact blk_set HK4.out 3 _, row_keep HK4.out HC1.out _ (fun i hi => Below.heap_setCell w4 ⟨g, 3, none⟩ _ i (fun e => hi e)), hl1⟩
    have hZ : Below B w0 (w4.setCell ⟨g, 3, none⟩ (.slice A1 ((partsB s).length + l.length) c1)) := (HB3.out.trans (hb4.mono (Nat.le_of_lt (Nat.lt_of_le_of_lt hg g2)))).setCell hg _
    generalize w4.setCell ⟨g, 3, none⟩ (.slice A1 ((partsB s).length + l.length) c1) = w5 at hW hZ ⊢
    have HW := Lib.hid hW
    clear hW x4 f4 x3 y3 hl1 d3 g3
    go_simp
    go_wp2
    go_ret
    exact ⟨rfl, ⟨A1, c1, HW.out⟩, hZ⟩
set_option maxHeartbeats 4000000 in
set_option maxRecDepth 1000000 in
theorem follow_root (B : Nat) (w0 : World) (g p : Nat) (a h : Int) (l : List ByteArray) (A : Option Addr) (c : Nat) (s : ByteArray) (w : World) (hk : Wk w g p a h l A c) (hB : Below B w0 w) (hg : B ≤ g) (hz : s.size < 4294967281) (hl : l.length < 4294967281) (h0 : 0 ≤ h) (h40 : h < 40) (hsl : slashB s = true) :
    Calls Try.prog 98 #[.pointer (some ⟨g, 0, none⟩), .string s] w fun e w' => e = .returned (.int .i64 0) ∧ (∃ A' c', Wk w' g p 1 (h + 1) (partsB s ++ l) A' c') ∧ Below B w0 w' := by
  obtain ⟨c0, c1, c2, c3⟩ := hk.cells
  have f2 := blk_frozen hk.blk 2
  have f3 := blk_frozen hk.blk 3
  have f1 := blk_frozen hk.blk 1
  have hlt := blk_lt hk.blk
  have HP := Lib.hid (fun W => path_Parts.calls s (partsB s) W (by rw [path_Parts.f, if_pos hz]; rfl))
  have HH := Lib.hid (fun W => Try.strings_HasPrefix s ⟨#[47]⟩ W)
  have hsl' : Lib.hasPrefix s.data.toList (⟨#[47]⟩ : ByteArray).data.toList = true := hsl
  rw [hsl'] at HH
  clear hsl hsl'
  have HPL := Lib.hid (partsB_len s hz)
  have d1 : decide (40 < h + 1) = false := decide_eq_false (by omega)
  have e1 : IntKind.i64.wrap (h + 1) = h + 1 := IntWalk.i64_in _ (by omega)
  go_enter Try.func98, Try.ntmps98
  go_upto_region 6 with (go_at_call 105; refine (HH.out _).mono ?_; rintro e w2 ⟨rfl, hw⟩; rw [hw]; clear hw)
  have hk2 := (hk.set2 (h + 1)).set1 1
  have hB2 : Below B w0 ((w.setCell ⟨g, 2, none⟩ (.int .i64 (h + 1))).setCell ⟨g, 1, none⟩ (.int .i64 1)) := (hB.setCell (p := ⟨g, 2, none⟩) hg _).setCell (p := ⟨g, 1, none⟩) hg _
  generalize (w.setCell ⟨g, 2, none⟩ (.int .i64 (h + 1))).setCell ⟨g, 1, none⟩ (.int .i64 1) = w2 at hk2 hB2 ⊢
  obtain ⟨-, -, -, d3⟩ := hk2.cells
  have g3 := blk_frozen hk2.blk 3
  have g2 := blk_lt hk2.blk
  have HK := Lib.hid hk2
  have HB := Lib.hid hB2
  clear hk hB hk2 hB2 c0 c1 c2 c3 f1 f2 f3 HH d1 e1
  go_region_law (first | (refine Kd.R_append_rows_step Kd.string (w0 := w3) w2.heap.size (by simp [Region.wanted]) (.tmp 24) (.tmp 28) 42 9 (.string ⟨#[]⟩) 16 rfl Try.underlying42 infoS rfl (by decide) (by omega) v (partsB s) l A l.length c (fun _ => True) (fun _ => False) (by rfl) (by rfl) HO.out HK3.out.row (fun _ _ h => h) (fun _ h => h.elim) (fun _ _ => trivial) (Below.refl _ _) hw3 (by have := HPL.out; omega) ?_; intro v1 w4 ho4 hb4 hg4 hat4; obtain ⟨A1, c1, rfl, hl1, hC1⟩ := Kd.R_reads ho4; have k4 := blk_grown HK3.out.blk hg4 HNE.out; have x4 : w4.cell? ⟨g, 3, none⟩ = some (.slice A l.length c) := (by rw [blk_cell k4]; rfl); have f4 := blk_frozen k4 3; have HK4 := Lib.hid k4; have HC1 := Lib.hid hC1; have HG4 := Lib.hid hg4; clear k4 ho4 hC1 hg4 hat4) | (go_simp; go_at_call 58; refine (HP.out _).mono ?_; rintro e w3 ⟨v, rfl, ho, hb3⟩; have hw3 : w2.heap.size ≤ w3.heap.size := hb3.size; have HK3 := Lib.hid (HK.out.drew.below hb3); have HB3 := Lib.hid ((below_drew HB.out).trans (hb3.mono (Nat.le_of_lt (Nat.lt_of_le_of_lt hg g2)))); have HO := Lib.hid ho; have HNE := Lib.hid (show some g ≠ v.ownBlock from fun e => by have := (Kd.R_bound ho).1 g e.symm; have := this.2.1; simp at this; omega); have x3 : w3.cell? ⟨g, 3, none⟩ = some (.slice A l.length c) := (hb3.cell (p := ⟨g, 3, none⟩) g2).trans d3; have y3 : w3.frozen? ⟨g, 3, none⟩ = false := blk_frozen HK3.out.blk 3; clear ho))
  all_goals
    have hW : Wk (w4.setCell ⟨g, 3, none⟩ (.slice A1 ((partsB s).length + l.length) c1)) g p 1 (h + 1) (partsB s ++ l) A1 c1 :=
      ⟨by rw [List.length_append]; exact blk_set HK4.out 3 _, row_keep HK4.out HC1.out _ (fun i hi => Below.heap_setCell w4 ⟨g, 3, none⟩ _ i (fun e => hi e)), hl1⟩
    have hZ : Below B w0 (w4.setCell ⟨g, 3, none⟩ (.slice A1 ((partsB s).length + l.length) c1)) := (HB3.out.trans (hb4.mono (Nat.le_of_lt (Nat.lt_of_le_of_lt hg g2)))).setCell hg _
    generalize w4.setCell ⟨g, 3, none⟩ (.slice A1 ((partsB s).length + l.length) c1) = w5 at hW hZ ⊢
    have HW := Lib.hid hW
    clear hW x4 f4 x3 y3 hl1 d3 g3
    go_simp
    go_wp2
    go_ret
    exact ⟨rfl, ⟨A1, c1, HW.out⟩, hZ⟩
set_option maxHeartbeats 4000000 in
set_option maxRecDepth 1000000 in
theorem follow_no (B : Nat) (w0 : World) (g p : Nat) (a h : Int) (l : List ByteArray) (A : Option Addr) (c : Nat) (s : ByteArray) (w : World) (hk : Wk w g p a h l A c) (hB : Below B w0 w) (hg : B ≤ g) (h0 : 40 ≤ h) (h40 : h < 100) :
    Calls Try.prog 98 #[.pointer (some ⟨g, 0, none⟩), .string s] w fun e w' => e = .returned (.int .i64 10) ∧ Below B w0 w' := by
  obtain ⟨c0, c1, c2, c3⟩ := hk.cells
  have f2 := blk_frozen hk.blk 2
  have d1 : decide (40 < h + 1) = true := decide_eq_true (by omega)
  have e1 : IntKind.i64.wrap (h + 1) = h + 1 := IntWalk.i64_in _ (by omega)
  go_enter Try.func98, Try.ntmps98
  go_wp2
  go_ret
  exact ⟨rfl, hB.setCell hg _⟩
def FPost (B : Nat) (w0 : World) (g p : Nat) (a h : Int) (l : List ByteArray) (s : ByteArray) (w' : World) : Prop := (h < 40 → ∃ A' c', Wk w' g p (if slashB s = true then 1 else a) (h + 1) (partsB s ++ l) A' c') ∧ Below B w0 w'
theorem follow_calls (B : Nat) (w0 : World) (g p : Nat) (a h : Int) (l : List ByteArray) (A : Option Addr) (c : Nat) (s : ByteArray) (w : World) (hk : Wk w g p a h l A c) (hB : Below B w0 w) (hg : B ≤ g) (hz : s.size < 4294967281) (hl : l.length < 4294967281) (h0 : 0 ≤ h) (h40 : h ≤ 40) :
    Calls Try.prog 98 #[.pointer (some ⟨g, 0, none⟩), .string s] w fun e w' => e = .returned (.int .i64 (if 40 ≤ h then 10 else 0)) ∧ FPost B w0 g p a h l s w' := by
  by_cases h4 : 40 ≤ h
  · rw [if_pos h4]
    refine (follow_no B w0 g p a h l A c s w hk hB hg h4 (by omega)).mono ?_
    rintro e w' ⟨rfl, hb⟩
    exact ⟨rfl, fun h => absurd h (by omega), hb⟩
  · rw [if_neg h4]
    cases hs : slashB s with
    | false =>
      refine (follow_yes B w0 g p a h l A c s w hk hB hg hz hl h0 (by omega) hs).mono ?_
      rintro e w' ⟨rfl, hw, hb⟩
      exact ⟨rfl, fun _ => by rw [hs, if_neg (by simp)]; exact hw, hb⟩
    | true =>
      refine (follow_root B w0 g p a h l A c s w hk hB hg hz hl h0 (by omega) hs).mono ?_
      rintro e w' ⟨rfl, hw, hb⟩
      exact ⟨rfl, fun _ => by rw [hs, if_pos rfl]; exact hw, hb⟩
end Go.Proofs.Ytjfigngmpagloaa.Tw

namespace Go.Proofs.Ytjfigngmpagloaa.Tw
open Go Go.RowKit Go.Shelf Go.Proofs Go.Proofs.Ytjfigngmpagloaa Go.Proofs.YtjfigngmpagloaaW.PrintWords Go.Proofs.Ytjfigngmpagloaa.Ext Go.Proofs.Ytjfigngmpagloaa.X Go.Proofs.Ytjfigngmpagloaa.Pu
set_option linter.unusedVariables false
set_option linter.unusedSimpArgs false

structure TrOK (T : Tr) : Prop where
  sorted : sorted T
  small : small T
  up : ∀ n x, T.get n = some x → wf x.up
  num : ∀ n x, T.get n = some x → ∀ e ∈ x.ents, wf e.f1
  data : ∀ n x, T.get n = some x → x.data.size ≤ 65536
theorem wf0 : wf 0 := rfl
theorem wf1 : wf 1 := rfl
theorem TrOK.wf_up {T : Tr} (h : TrOK T) (n : Int) : wf (T.node n).up := by
  unfold Tr.node; cases hx : T.get n with
  | none => exact wf0
  | some x => exact h.up n x hx
theorem TrOK.sz {T : Tr} (h : TrOK T) (n : Int) : (T.node n).data.size ≤ 65536 := by
  unfold Tr.node; cases hx : T.get n with
  | none => exact (by decide : (0 : Nat) ≤ 65536)
  | some x => exact h.data n x hx
theorem TrOK.wf_find {T : Tr} (h : TrOK T) (n : Int) (s : ByteArray) : wf (findE (T.node n).ents s).1 := by
  unfold findE
  split
  · rename_i e he
    have hm := List.mem_of_find?_eq_some he
    unfold Tr.node at hm
    cases hx : T.get n with
    | none => rw [hx] at hm; cases hm
    | some x => rw [hx] at hm; exact h.num n x hx e hm
  · exact wf0
theorem TrOK.wf_down {T : Tr} (h : TrOK T) (n : Int) (s : ByteArray) : wf (downT T n s).1 := by
  unfold downT
  split
  · split
    · exact h.wf_find n s
    · exact wf0
  · exact wf0
theorem partsB_len' (s : ByteArray) : (partsB s).length ≤ s.size + 1 := by
  have h1 := Sp.parts_room s.data.toList
  have h2 := room_len (Sp.parts s.data.toList)
  unfold partsB
  rw [bs_len]
  rw [← Sp.size_eq] at h1
  omega
theorem room_mem {x : List UInt8} : ∀ {l : List (List UInt8)}, x ∈ l → x.length + 1 ≤ Sp.room l
  | y :: l, h => by
    rw [Sp.room_cons]
    rcases List.mem_cons.1 h with rfl | h
    · omega
    · have := room_mem h; omega
theorem partsB_sz (s : ByteArray) : ∀ x ∈ partsB s, x.size ≤ s.size := by
  intro x hx
  obtain ⟨y, hy, rfl⟩ := List.mem_map.1 hx
  have h1 := Sp.parts_room s.data.toList
  have h2 := room_mem hy
  rw [← Sp.size_eq] at h1
  rw [Sp.mk_size]
  omega
def walkF (T : Tr) (last : Bool) : Nat → Int → Int → List ByteArray → Option (Int × Int)
  | 0, _, _, _ => none
  | _ + 1, a, _, [] => some (a, 0)
  | k + 1, a, h, s :: l =>
    if (T.node a).kind ≠ 1 then some (a, 7)
    else if s.toList = [46, 46] then walkF T last k (T.node a).up h l
    else if (downT T a s).2 ≠ 0 then some (a, (downT T a s).2)
    else if (T.node (downT T a s).1).kind ≠ 3 ∨ (l = [] ∧ last = false) then walkF T last k (downT T a s).1 h l
    else if 40 ≤ h then some (a, 10)
    else walkF T last k (if slashB (T.node (downT T a s).1).data = true then 1 else a) (h + 1) (partsB (T.node (downT T a s).1).data ++ l)
theorem cut1 (A : Option Addr) (c : Nat) (l : List ByteArray) (h1 : 1 ≤ l.length) (hc : l.length ≤ c) :
    ∃ A' : Option Addr, (∀ W : World, (Instr.slice 42 (.slice A l.length c) (some (.int .i64 1)) none none).run Try.prog W = .ok (.slice A' (l.length - 1) (c - 1)) W) ∧ ∀ w : World, Kd.C Kd.string w A l.length l → Kd.C Kd.string w A' (l.drop 1).length (l.drop 1) := by
  refine ⟨if c = 1 then A else A.map (·.add (1 * Kd.string.sz)), fun W => ?_, fun w h => Kd.C_drop h h1 hc⟩
  obtain ⟨i0, hi, hz0, hz1, hz2⟩ := info_parts infoS
  have ht := Try.underlying42
  have hel : Try.prog.elem 42 = 9 := by simp [Program.elem, ht]
  have hu : Try.prog.underlying 42 = some (.slice (Try.prog.elem 42)) := by rw [hel]; exact ht
  rw [run_slice_l W 42 A l.length c hu .i64 1 (by omega) (by omega), hel]
  simp [sizeOf, typeInfo, hi, hz1, sliced, Result.andThen, Kd.string, Kd.scalar]
def WPost (w0 : World) (g p : Nat) (R : Int × Int) (w' : World) : Prop := (R.2 = 0 → ∃ h l A c, Wk w' g p R.1 h l A c) ∧ Below w0.heap.size w0 w'
theorem Wk.cutL {w : World} {g p : Nat} {a h : Int} {s : ByteArray} {l : List ByteArray} {A A' : Option Addr} {c : Nat} (k : Wk w g p a h (s :: l) A c) (hA : ∀ w : World, Kd.C Kd.string w A (s :: l).length (s :: l) → Kd.C Kd.string w A' ((s :: l).drop 1).length ((s :: l).drop 1)) :
    Wk (w.setCell ⟨g, 3, none⟩ (.slice A' l.length (c - 1))) g p a h l A' (c - 1) :=
  ⟨blk_set k.blk 3 _, hA _ (row_keep k.blk k.row _ (fun i hi => Below.heap_setCell w ⟨g, 3, none⟩ _ i (fun e => hi e))), by have := k.cap; simp at this; omega⟩
set_option maxHeartbeats 8000000 in
set_option maxRecDepth 1000000 in
theorem walk_calls (B : Nat) (w0 : World) (g p : Nat) (T : Tr) (hT : TreeAt w0 p T) (hO : TrOK T) (last : Bool) (k : Nat) (a : Int) (l : List ByteArray) (A : Option Addr) (c : Nat) (R : Int × Int) (w : World) (hk : Wk w g p a 0 l A c) (hB : Below w0.heap.size w0 w) (hg : w0.heap.size ≤ g) (hn : wf a)
    (hl : l.length ≤ 100000) (hz : ∀ s ∈ l, s.size ≤ 65536) (hR : walkF T last k a 0 l = some R) :
    Calls Try.prog 59 #[.pointer (some ⟨g, 0, none⟩), .bool last] w fun e w' => e = .returned (.int .i64 R.2) ∧ WPost w0 g p R w' := by
  have HR := Aside0.mk hR
  have HK := Aside0.mk hk
  have HB := Aside0.mk hB
  have HT := Aside0.mk hT
  have HL := Aside0.mk hl
  have HZ := Aside0.mk hz
  have HN := Aside0.mk hn
  clear hR hk hB hT hl hz hn
  go_enter Try.func59, Try.ntmps59
  go_wp2
  go_step3
  go_wp2
  go_step3
  go_wp2
  go_loopg [5] k (fun kq v5 wr => ∃ (a h : Int) (l : List ByteArray) (A : Option Addr) (c : Nat), Aside0 (walkF T last kq a h l = some R) ∧ Aside0 (Wk wr g p a h l A c) ∧ Aside0 (Below w0.heap.size w0 wr) ∧ Aside0 (wf a) ∧ Aside0 (0 ≤ h ∧ h ≤ 40 ∧ (l.length : Int) ≤ 100000 + 70000 * h) ∧ Aside0 (∀ s ∈ l, s.size ≤ 65536))
  case atStart => exact ⟨a, 0, l, A, c, HR, HK, HB, HN, ⟨by omega, by omega, by have := HL.out; omega⟩, HZ⟩
  case round =>
    clear HR HK HB HN HL HZ
    obtain ⟨a, h, l, A, c, HR, HK, HB, HN, HH, HZ⟩ := hrel
    cases gk with
    | zero => exact absurd HR.out (by simp [walkF])
    | succ k1 =>
    obtain ⟨c0, c1, c2, c3⟩ := HK.out.cells
    have f3 := blk_frozen HK.out.blk 3
    cases l with
    | nil =>
      have hR := HR.out
      simp only [walkF, Option.some.injEq] at hR
      subst hR
      go_wp2
      rw [Exit.noGoto_ret]
      go_ret
      exact ⟨rfl, fun _ => ⟨_, _, _, _, HK.out⟩, HB.out⟩
    | cons s l =>
      obtain ⟨ad, eA, x0⟩ := Kd.at_string HK.out.row 0 (by omega) (by simp)
      have e0 : rdOf ByteArray.empty (s :: l) 0 = s := rfl
      rw [e0, show ad.add (0 : Int).toNat = ad from rfl] at x0
      subst eA
      obtain ⟨A', hcut, hA'⟩ := cut1 (some ad) c (s :: l) (by simp) HK.out.cap
      have HA := Aside0.mk hA'
      clear hA' e0
      simp only [List.length_cons, Nat.add_sub_cancel] at hcut
      go_upto_region 4 with (fail)
      have hk1 := HK.out.cutL HA.out
      have hB1 : Below w0.heap.size w0 (wr.setCell ⟨g, 3, none⟩ (.slice A' l.length (c - 1))) := HB.out.setCell hg _
      generalize wr.setCell ⟨g, 3, none⟩ (.slice A' l.length (c - 1)) = w1 at hk1 hB1 ⊢
      clear HK HB HA hcut x0 c0 c1 c2 c3 f3
      generalize c - 1 = c' at hk1 ⊢
      obtain ⟨c0, c1, c2, c3⟩ := hk1.cells
      have f1 := blk_frozen hk1.blk 1
      have g1 := blk_lt hk1.blk
      have TT := Aside0.mk (HT.out.below hB1)
      have HK := Aside0.mk hk1
      have HB := Aside0.mk hB1
      clear hk1 hB1
      have hR := HR.out
      clear HR
      simp only [walkF] at hR
      by_cases hkd : (T.node a).kind = 1
      · rw [if_neg (by simpa using hkd)] at hR
        have HR := Aside0.mk hR
        have HKD := Lib.hid (fun W (h : TreeAt W p T) => kind_calls p T a W h HN.out)
        rw [hkd] at HKD
        clear hR hkd
        go_region_held3 (fun w' => w'.cell? ⟨g, 0, none⟩ = some (pT p) ∧ w'.cell? ⟨g, 1, none⟩ = some (.int .i64 a)) (first | (go_keep; done) | (exact ⟨(hb3.cell (p := ⟨g, 0, none⟩) g1).trans c0, (hb3.cell (p := ⟨g, 1, none⟩) g1).trans c1⟩))
          (first | (go_at_call 41; refine (HKD.out _ (by first | exact TT.out | exact TT.out.drew | exact TT.out.drewN _)).mono ?_; rintro e w3 ⟨rfl, hb3⟩))
        have hk3 := HK.out.drew.below hb3
        have hB3 := (below_drew HB.out).trans (hb3.mono HB.out.size)
        have TT3 := Aside0.mk (HT.out.below hB3)
        clear HK HB TT HKD hb3 c0 c1 c2 c3 f1 g1
        obtain ⟨c0, c1, c2, c3⟩ := hk3.cells
        have f1 := blk_frozen hk3.blk 1
        have g1 := blk_lt hk3.blk
        have HK := Aside0.mk hk3
        have HB := Aside0.mk hB3
        clear hk3 hB3
        have hR := HR.out
        clear HR
        by_cases hdd : s.toList = [46, 46]
        · rw [if_pos hdd] at hR
          have HR := Aside0.mk hR
          have b2 : (s.toList == [46, 46]) = true := by rw [hdd]; rfl
          have HUP := Lib.hid (fun W (h : TreeAt W p T) => up_calls p T a W h HN.out)
          have HNU := Aside0.mk (hO.wf_up a)
          generalize (T.node a).up = u at HR HUP HNU
          clear hR hdd
          go_upto_region 7 with (fail)
          go_region_law (first | (go_simp; go_at_call 66; refine (HUP.out _ (by first | exact TT3.out | exact TT3.out.drew | exact TT3.out.drewN _)).mono ?_; rintro e w4 ⟨rfl, hb4⟩; have HK4 := Aside0.mk (HK.out.drew.below hb4); have x0 := HK4.out.cells.1; have x1 := HK4.out.cells.2.1; have y1 := blk_frozen HK4.out.blk 1))
          all_goals
            have hk5 := HK4.out.set1 u
            have hB5 : Below w0.heap.size w0 (w4.setCell ⟨g, 1, none⟩ (.int .i64 u)) := ((below_drew HB.out).trans (hb4.mono HB.out.size)).setCell hg _
            generalize w4.setCell ⟨g, 1, none⟩ (.int .i64 u) = w5 at hk5 hB5 ⊢
            have HK5 := Aside0.mk hk5
            have HB5 := Aside0.mk hB5
            clear hk5 hB5 x0 x1 y1 c0 c1 c2 c3 f1 hb4 HK4 TT3
            go_simp
            go_wp2
            go_roundg k1
            case measure => omega
            case rel => exact ⟨u, h, l, A', c', HR, HK5, HB5, HNU, ⟨HH.out.1, HH.out.2.1, by have := HH.out.2.2; simp at this; omega⟩, ⟨fun x hx => HZ.out x (List.mem_cons_of_mem _ hx)⟩⟩
        · rw [if_neg hdd] at hR
          have HR := Aside0.mk hR
          have b2 : (s.toList == [46, 46]) = false := by simpa using hdd
          have hsz : s.size ≤ 65536 := HZ.out s (by simp)
          have HD := Lib.hid (fun W h1 h2 => down_calls g p T a h l A' c' s W h1 h2 hO.small hO.sorted HN.out (by omega))
          have HND := Aside0.mk (hO.wf_down a s)
          generalize hdw : downT T a s = dw at HR HD HND
          obtain ⟨n, e⟩ := dw
          clear hR hdd hdw
          simp only [] at HR HD HND
          by_cases he : e = 0
          · subst he
            rw [if_neg (by simp)] at HR
            go_upto_region 11 with (go_at_call 97; refine (HD.out _ TT3.out HK.out).mono ?_; rintro ee w4 ⟨rfl, hb4⟩)
            have hk4 := HK.out.below hb4
            have hB4 := HB.out.trans (hb4.mono HB.out.size)
            have TT4 := Aside0.mk (HT.out.below hB4)
            clear HK HB TT3 HD hb4 c0 c1 c2 c3 f1 g1
            obtain ⟨c0, c1, c2, c3⟩ := hk4.cells
            have f1 := blk_frozen hk4.blk 1
            have HK := Aside0.mk hk4
            have HB := Aside0.mk hB4
            clear hk4 hB4
            have HKD := Lib.hid (fun W (h : TreeAt W p T) => kind_calls p T n W h HND.out)
            have HDA := Lib.hid (fun W (h : TreeAt W p T) => data_calls p T n W h HND.out)
            have HSZ := Aside0.mk (hO.sz n)
            generalize (T.node n).kind = kd at HR HKD
            generalize (T.node n).data = dt at HR HDA HSZ
            by_cases hk : kd = 3
            · have b4 : (kd != 3) = false := bne_eq_false_iff_eq.2 hk
              by_cases hlast : l = [] ∧ last = false
              · rw [if_pos (.inr hlast)] at HR
                obtain ⟨rfl, rfl⟩ := hlast
                clear hk
                go_wp2_with (go_at_call 41; refine (HKD.out _ TT4.out).mono ?_; rintro ee w5 ⟨rfl, hb5⟩; have HK5 := Aside0.mk (HK.out.below hb5); have HB5 := Aside0.mk (HB.out.trans (hb5.mono HB.out.size)); have x3 := HK5.out.cells.2.2.2; have x1 := HK5.out.cells.2.1; have x0 := HK5.out.cells.1; have y1 := blk_frozen HK5.out.blk 1)
                have hk6 := HK5.out.set1 n
                have hB6 : Below w0.heap.size w0 (w5.setCell ⟨g, 1, none⟩ (.int .i64 n)) := HB5.out.setCell hg _
                generalize w5.setCell ⟨g, 1, none⟩ (.int .i64 n) = w6 at hk6 hB6 ⊢
                have HK6 := Aside0.mk hk6
                have HB6 := Aside0.mk hB6
                clear hk6 hB6 x0 x1 x3 y1 hb5
                go_roundg k1
                case measure => omega
                case rel => exact ⟨n, h, _, A', c', HR, HK6, HB6, HND, ⟨HH.out.1, HH.out.2.1, by have := HH.out.2.2; simp at this ⊢; omega⟩, ⟨fun x hx => HZ.out x (List.mem_cons_of_mem _ hx)⟩⟩

              · rw [if_neg (by rintro (hh | hh); exact hh hk; exact hlast hh)] at HR
                clear hk
                cases l with
                | nil =>
                  cases last with
                  | false => exact absurd ⟨rfl, rfl⟩ hlast
                  | true =>
                    clear hlast
                    have HF := Lib.hid (fun W h1 h2 => follow_calls w0.heap.size w0 g p a h ([] : List ByteArray) A' c' dt W h1 h2 hg (by have := HSZ.out; omega) (by have q := HH.out.2; simp only [List.length_cons, List.length_nil] at q ⊢; omega) HH.out.1 HH.out.2.1)
                    by_cases h4 : 40 ≤ h
                    · rw [if_pos h4] at HR HF
                      have hR := Option.some.inj HR.out
                      subst hR
                      clear h4
                      go_wp2_with (first | (go_at_call 41; refine (HKD.out _ TT4.out).mono ?_; rintro ee w5 ⟨rfl, hb5⟩; have HK5 := Aside0.mk (HK.out.below hb5); have HB5 := Aside0.mk (HB.out.trans (hb5.mono HB.out.size)); have TT5 := Aside0.mk (HT.out.below HB5.out); have x3 := HK5.out.cells.2.2.2; have x1 := HK5.out.cells.2.1; have x0 := HK5.out.cells.1; have y1 := blk_frozen HK5.out.blk 1) | (go_at_call 53; refine (HDA.out _ TT5.out).mono ?_; rintro ee w6 ⟨rfl, hb6⟩; have HK6 := Aside0.mk (HK5.out.below hb6); have HB6 := Aside0.mk (HB5.out.trans (hb6.mono HB5.out.size))) | (go_at_call 98; refine (HF.out _ HK6.out HB6.out).mono ?_; rintro ee w7 ⟨rfl, hf7⟩))
                      rw [Exit.noGoto_ret]
                      go_ret
                      exact ⟨rfl, fun h => absurd h (by simp), hf7.2⟩
                    · rw [if_neg h4] at HR HF
                      have HH4 := Lib.hid h4
                      clear h4
                      go_wp2_with (first | (go_at_call 41; refine (HKD.out _ TT4.out).mono ?_; rintro ee w5 ⟨rfl, hb5⟩; have HK5 := Aside0.mk (HK.out.below hb5); have HB5 := Aside0.mk (HB.out.trans (hb5.mono HB.out.size)); have TT5 := Aside0.mk (HT.out.below HB5.out); have x3 := HK5.out.cells.2.2.2; have x1 := HK5.out.cells.2.1; have x0 := HK5.out.cells.1; have y1 := blk_frozen HK5.out.blk 1) | (go_at_call 53; refine (HDA.out _ TT5.out).mono ?_; rintro ee w6 ⟨rfl, hb6⟩; have HK6 := Aside0.mk (HK5.out.below hb6); have HB6 := Aside0.mk (HB5.out.trans (hb6.mono HB5.out.size))) | (go_at_call 98; refine (HF.out _ HK6.out HB6.out).mono ?_; rintro ee w7 ⟨rfl, hf7⟩))
                      clear x0 x1 x3 y1 hb5 hb6
                      have HF7 := Lib.hid hf7
                      clear hf7
                      go_roundg k1
                      case measure => omega
                      case rel => 
                        obtain ⟨A7, c7, hk7⟩ := HF7.out.1 (by have := HH4.out; omega)
                        have hpl := partsB_len' dt
                        have hn1 : wf (if slashB dt = true then 1 else a) := by
                          by_cases hsl : slashB dt = true
                          · rw [if_pos hsl]; exact wf1
                          · rw [if_neg hsl]; exact HN.out
                        exact ⟨_, h + 1, _, A7, c7, HR, ⟨hk7⟩, ⟨HF7.out.2⟩, ⟨hn1⟩, ⟨by have := HH.out; omega, by have := HH.out; have := HH4.out; omega, by have q := HH.out.2.2; have z := HSZ.out; rw [List.length_append]; simp only [List.length_cons, List.length_nil] at q ⊢; omega⟩, ⟨fun x hx => by
                          rcases List.mem_append.1 hx with hx | hx
                          · exact Nat.le_trans (partsB_sz dt x hx) HSZ.out
                          · exact HZ.out x (List.mem_cons_of_mem _ hx)⟩⟩

                | cons x r =>
                  clear hlast
                  have b5 : ((r.length : Int) + 1 == 0) = false := beq_eq_false_iff_ne.2 (by omega)
                  have HF := Lib.hid (fun W h1 h2 => follow_calls w0.heap.size w0 g p a h (x :: r) A' c' dt W h1 h2 hg (by have := HSZ.out; omega) (by have q := HH.out.2; simp only [List.length_cons, List.length_nil] at q ⊢; omega) HH.out.1 HH.out.2.1)
                  by_cases h4 : 40 ≤ h
                  · rw [if_pos h4] at HR HF
                    have hR := Option.some.inj HR.out
                    subst hR
                    clear h4
                    go_wp2_with (first | (go_at_call 41; refine (HKD.out _ TT4.out).mono ?_; rintro ee w5 ⟨rfl, hb5⟩; have HK5 := Aside0.mk (HK.out.below hb5); have HB5 := Aside0.mk (HB.out.trans (hb5.mono HB.out.size)); have TT5 := Aside0.mk (HT.out.below HB5.out); have x3 := HK5.out.cells.2.2.2; have x1 := HK5.out.cells.2.1; have x0 := HK5.out.cells.1; have y1 := blk_frozen HK5.out.blk 1) | (go_at_call 53; refine (HDA.out _ TT5.out).mono ?_; rintro ee w6 ⟨rfl, hb6⟩; have HK6 := Aside0.mk (HK5.out.below hb6); have HB6 := Aside0.mk (HB5.out.trans (hb6.mono HB5.out.size))) | (go_at_call 98; refine (HF.out _ HK6.out HB6.out).mono ?_; rintro ee w7 ⟨rfl, hf7⟩))
                    rw [Exit.noGoto_ret]
                    go_ret
                    exact ⟨rfl, fun h => absurd h (by simp), hf7.2⟩
                  · rw [if_neg h4] at HR HF
                    have HH4 := Lib.hid h4
                    clear h4
                    go_wp2_with (first | (go_at_call 41; refine (HKD.out _ TT4.out).mono ?_; rintro ee w5 ⟨rfl, hb5⟩; have HK5 := Aside0.mk (HK.out.below hb5); have HB5 := Aside0.mk (HB.out.trans (hb5.mono HB.out.size)); have TT5 := Aside0.mk (HT.out.below HB5.out); have x3 := HK5.out.cells.2.2.2; have x1 := HK5.out.cells.2.1; have x0 := HK5.out.cells.1; have y1 := blk_frozen HK5.out.blk 1) | (go_at_call 53; refine (HDA.out _ TT5.out).mono ?_; rintro ee w6 ⟨rfl, hb6⟩; have HK6 := Aside0.mk (HK5.out.below hb6); have HB6 := Aside0.mk (HB5.out.trans (hb6.mono HB5.out.size))) | (go_at_call 98; refine (HF.out _ HK6.out HB6.out).mono ?_; rintro ee w7 ⟨rfl, hf7⟩))
                    clear x0 x1 x3 y1 hb5 hb6
                    have HF7 := Lib.hid hf7
                    clear hf7
                    go_roundg k1
                    case measure => omega
                    case rel => 
                      obtain ⟨A7, c7, hk7⟩ := HF7.out.1 (by have := HH4.out; omega)
                      have hpl := partsB_len' dt
                      have hn1 : wf (if slashB dt = true then 1 else a) := by
                        by_cases hsl : slashB dt = true
                        · rw [if_pos hsl]; exact wf1
                        · rw [if_neg hsl]; exact HN.out
                      exact ⟨_, h + 1, _, A7, c7, HR, ⟨hk7⟩, ⟨HF7.out.2⟩, ⟨hn1⟩, ⟨by have := HH.out; omega, by have := HH.out; have := HH4.out; omega, by have q := HH.out.2.2; have z := HSZ.out; rw [List.length_append]; simp only [List.length_cons, List.length_nil] at q ⊢; omega⟩, ⟨fun x hx => by
                        rcases List.mem_append.1 hx with hx | hx
                        · exact Nat.le_trans (partsB_sz dt x hx) HSZ.out
                        · exact HZ.out x (List.mem_cons_of_mem _ hx)⟩⟩

            · have b4 : (kd != 3) = true := bne_iff_ne.2 hk
              rw [if_pos (.inl hk)] at HR
              clear hk
              go_wp2_with (go_at_call 41; refine (HKD.out _ TT4.out).mono ?_; rintro ee w5 ⟨rfl, hb5⟩; have HK5 := Aside0.mk (HK.out.below hb5); have HB5 := Aside0.mk (HB.out.trans (hb5.mono HB.out.size)); have x3 := HK5.out.cells.2.2.2; have x1 := HK5.out.cells.2.1; have x0 := HK5.out.cells.1; have y1 := blk_frozen HK5.out.blk 1)
              have hk6 := HK5.out.set1 n
              have hB6 : Below w0.heap.size w0 (w5.setCell ⟨g, 1, none⟩ (.int .i64 n)) := HB5.out.setCell hg _
              generalize w5.setCell ⟨g, 1, none⟩ (.int .i64 n) = w6 at hk6 hB6 ⊢
              have HK6 := Aside0.mk hk6
              have HB6 := Aside0.mk hB6
              clear hk6 hB6 x0 x1 x3 y1 hb5
              go_roundg k1
              case measure => omega
              case rel => exact ⟨n, h, _, A', c', HR, HK6, HB6, HND, ⟨HH.out.1, HH.out.2.1, by have := HH.out.2.2; simp at this ⊢; omega⟩, ⟨fun x hx => HZ.out x (List.mem_cons_of_mem _ hx)⟩⟩

          · rw [if_pos (by simpa using he)] at HR
            have hR := Option.some.inj HR.out
            subst hR
            have b3 : (e != 0) = true := bne_iff_ne.2 he
            go_wp2_with (go_at_call 97; refine (HD.out _ TT3.out HK.out).mono ?_; rintro ee w4 ⟨rfl, hb4⟩)
            rw [Exit.noGoto_ret]
            go_ret
            exact ⟨rfl, fun h => absurd h he, HB.out.trans (hb4.mono HB.out.size)⟩
      · rw [if_pos (by simpa using hkd)] at hR
        have hR := Option.some.inj hR
        subst hR
        have HKD := Lib.hid (fun W (h : TreeAt W p T) => kind_calls p T a W h HN.out)
        have b1 : ((T.node a).kind != 1) = true := bne_iff_ne.2 hkd
        clear hkd
        go_region_held3 (fun w' => w'.cell? ⟨g, 0, none⟩ = some (pT p) ∧ w'.cell? ⟨g, 1, none⟩ = some (.int .i64 a)) (first | (go_keep; done) | (exact ⟨(hb3.cell (p := ⟨g, 0, none⟩) g1).trans c0, (hb3.cell (p := ⟨g, 1, none⟩) g1).trans c1⟩))
          (first | (go_at_call 41; refine (HKD.out _ (by first | exact TT.out | exact TT.out.drew | exact TT.out.drewN _)).mono ?_; rintro e w3 ⟨rfl, hb3⟩))
        go_wp2
        rw [Exit.noGoto_ret]
        go_ret
        exact ⟨rfl, fun h => absurd h (by simp), (below_drew HB.out).trans (hb3.mono (HB.out.size))⟩
end Go.Proofs.Ytjfigngmpagloaa.Tw

namespace Go.Proofs.Ytjfigngmpagloaa.Tw
open Go Go.RowKit Go.Shelf Go.Proofs Go.Proofs.Ytjfigngmpagloaa Go.Proofs.YtjfigngmpagloaaW.PrintWords Go.Proofs.Ytjfigngmpagloaa.Ext Go.Proofs.Ytjfigngmpagloaa.X Go.Proofs.Ytjfigngmpagloaa.Pu
set_option linter.unusedVariables false
set_option linter.unusedSimpArgs false
def isIn (n : Int) (r : RN) : Bool := r.f1 == n && !(r.f0 == 1)
def stepE (n : Int) (l : List En) (r : RN) : List En := if isIn n r = true then insE l ⟨r.f2, r.f0⟩ else l
def entsOf (L : List RN) (n : Int) : List En := L.foldl (stepE n) []
def ndOf (L : List RN) (r : RN) : Nd := ⟨r.f3, r.f1, r.f4, entsOf L r.f0⟩
def trOf (L : List RN) (last : Int) : Tr := ⟨fun n => (L.find? (fun r => r.f0 == n)).map (ndOf L), L.length, last⟩
theorem isIn_iff {n : Int} {r : RN} : isIn n r = true ↔ r.f1 = n ∧ r.f0 ≠ 1 := by simp [isIn]
theorem entsOf_snoc (L : List RN) (x : RN) (n : Int) : entsOf (L ++ [x]) n = if isIn n x = true then insE (entsOf L n) ⟨x.f2, x.f0⟩ else entsOf L n := by
  unfold entsOf; rw [List.foldl_append]; rfl
theorem fold_mem (n : Int) (e : En) : ∀ (L : List RN) (acc : List En), e ∈ L.foldl (stepE n) acc ↔ e ∈ acc ∨ ∃ r ∈ L, isIn n r = true ∧ e = ⟨r.f2, r.f0⟩
  | [], acc => by simp
  | a :: L, acc => by
    rw [List.foldl_cons, fold_mem n e L]
    unfold stepE
    split
    · rename_i h
      rw [insE_mem]
      constructor
      · rintro ((h1 | h1) | ⟨r, h1, h2⟩)
        · exact .inr ⟨a, List.mem_cons_self, h, h1⟩
        · exact .inl h1
        · exact .inr ⟨r, List.mem_cons_of_mem _ h1, h2⟩
      · rintro (h1 | ⟨r, h1, h2, h3⟩)
        · exact .inl (.inr h1)
        · rcases List.mem_cons.1 h1 with rfl | h1
          · exact .inl (.inl h3)
          · exact .inr ⟨r, h1, h2, h3⟩
    · rename_i h
      constructor
      · rintro (h1 | ⟨r, h1, h2⟩)
        · exact .inl h1
        · exact .inr ⟨r, List.mem_cons_of_mem _ h1, h2⟩
      · rintro (h1 | ⟨r, h1, h2, h3⟩)
        · exact .inl h1
        · rcases List.mem_cons.1 h1 with rfl | h1
          · exact absurd h2 h
          · exact .inr ⟨r, h1, h2, h3⟩
theorem mem_ents {L : List RN} {n : Int} {e : En} : e ∈ entsOf L n ↔ ∃ r ∈ L, isIn n r = true ∧ e = ⟨r.f2, r.f0⟩ := by
  unfold entsOf; rw [fold_mem]; simp
theorem fold_len (n : Int) : ∀ (L : List RN) (acc : List En), (L.foldl (stepE n) acc).length ≤ acc.length + L.length
  | [], acc => by simp
  | a :: L, acc => by
    rw [List.foldl_cons]
    have h := fold_len n L (stepE n acc a)
    have h2 : (stepE n acc a).length ≤ acc.length + 1 := by
      unfold stepE
      split
      · rw [insE_len]; exact Nat.le_refl _
      · omega
    simp only [List.length_cons]
    omega
theorem ents_len (L : List RN) (n : Int) : (entsOf L n).length ≤ L.length := by
  have := fold_len n L []
  simpa [entsOf] using this
theorem fold_rt (n : Int) : ∀ (L : List RN) (acc : List En), Rt acc → (∀ e ∈ acc, ∀ r ∈ L, isIn n r = true → e.f0 ≠ r.f2) → L.Pairwise (fun a b => a.f1 = b.f1 → a.f0 ≠ 1 → b.f0 ≠ 1 → a.f2 ≠ b.f2) → Rt (L.foldl (stepE n) acc)
  | [], acc, h, _, _ => h
  | a :: L, acc, h, hn, hp => by
    rw [List.foldl_cons]
    obtain ⟨h1, h2⟩ := List.pairwise_cons.1 hp
    refine fold_rt n L _ ?_ ?_ h2
    · unfold stepE
      split
      · rename_i hi
        exact insE_rt _ _ h (fun e he => hn e he a List.mem_cons_self hi)
      · exact h
    · intro e he r hr hi
      unfold stepE at he
      split at he
      · rename_i hj
        rcases (insE_mem _ _ _).1 he with rfl | he
        · obtain ⟨i1, i2⟩ := isIn_iff.1 hi
          obtain ⟨j1, j2⟩ := isIn_iff.1 hj
          exact h1 r hr (j1.trans i1.symm) j2 i2
        · exact hn e he r (List.mem_cons_of_mem _ hr) hi
      · exact hn e he r (List.mem_cons_of_mem _ hr) hi
structure GoodL (L : List RN) (last : Int) : Prop where
  len : L.length ≤ 4096
  num : ∀ r ∈ L, 1 ≤ r.f0 ∧ r.f0 ≤ last
  uniq : L.Pairwise (fun a b => a.f0 ≠ b.f0)
  names : L.Pairwise (fun a b => a.f1 = b.f1 → a.f0 ≠ 1 → b.f0 ≠ 1 → a.f2 ≠ b.f2)
  data : ∀ r ∈ L, r.f4.size ≤ 65536
  up : ∀ r ∈ L, (atR L r.f1).f3 = 1
  root : ∃ r ∈ L, r.f0 = 1 ∧ r.f1 = 1 ∧ r.f3 = 1
theorem GoodL.rt {L : List RN} {last : Int} (h : GoodL L last) (n : Int) : Rt (entsOf L n) := fold_rt n L [] List.Pairwise.nil (by simp) h.names
theorem find_num {L : List RN} {r : RN} (hu : L.Pairwise (fun a b => a.f0 ≠ b.f0)) (hr : r ∈ L) : L.find? (fun q => q.f0 == r.f0) = some r := by
  induction L with
  | nil => cases hr
  | cons a L ih =>
    obtain ⟨h1, h2⟩ := List.pairwise_cons.1 hu
    rw [List.find?_cons]
    rcases List.mem_cons.1 hr with rfl | hr
    · simp
    · have := h1 r hr
      rw [show (a.f0 == r.f0) = false by simpa using this]
      exact ih h2 hr
theorem at_mem {L : List RN} {last : Int} (h : GoodL L last) {r : RN} (hr : r ∈ L) : atR L r.f0 = r := by
  unfold atR; rw [find_num h.uniq hr]; rfl
theorem at_kind {L : List RN} {n : Int} (h : (atR L n).f3 ≠ 0) : ∃ r ∈ L, r.f0 = n ∧ atR L n = r := by
  unfold atR at h ⊢
  cases hf : L.find? (fun r => r.f0 == n) with
  | none => rw [hf] at h; exact absurd rfl h
  | some r =>
    refine ⟨r, List.mem_of_find?_eq_some hf, ?_, rfl⟩
    have := List.find?_some hf
    simpa using this
theorem GoodL.noEnts {L : List RN} {last : Int} (h : GoodL L last) {n : Int} (hn : L.find? (fun r => r.f0 == n) = none) : entsOf L n = [] := by
  cases he : entsOf L n with
  | nil => rfl
  | cons e l =>
    obtain ⟨r, hr, hi, _⟩ := mem_ents.1 (show e ∈ entsOf L n by rw [he]; exact List.mem_cons_self)
    obtain ⟨i1, i2⟩ := isIn_iff.1 hi
    have hk := h.up r hr
    rw [i1] at hk
    unfold atR at hk
    rw [hn] at hk
    cases hk
theorem node_of {L : List RN} {last : Int} (h : GoodL L last) (n : Int) : (trOf L last).node n = ⟨(atR L n).f3, (atR L n).f1, (atR L n).f4, entsOf L n⟩ := by
  unfold Tr.node trOf atR
  cases hf : L.find? (fun r => r.f0 == n) with
  | none => simp only [hf, Option.map_none, Option.getD_none, h.noEnts hf]; rfl
  | some r =>
    have := List.find?_some hf
    have : r.f0 = n := by simpa using this
    simp only [hf, Option.map_some, Option.getD_some, ndOf, this]
theorem find_ents {L : List RN} {last : Int} (h : GoodL L last) (n : Int) (s : ByteArray) : findE (entsOf L n) s = (inR L n s, decide (0 < inR L n s)) := by
  have hq : ∀ r : RN, inQ n s r = true ↔ isIn n r = true ∧ r.f2 = s := by
    intro r
    rw [isIn_iff]
    simp only [inQ, Bool.and_eq_true, beq_iff_eq, Bool.not_eq_true', beq_eq_false_iff_ne, toL_inj]
    constructor
    · rintro ⟨a, b, c⟩; exact ⟨⟨a, c⟩, b⟩
    · rintro ⟨⟨a, c⟩, b⟩; exact ⟨a, b, c⟩
  unfold findE inR
  cases hf : L.find? (inQ n s) with
  | none =>
    have : (entsOf L n).find? (fun e => e.f0.toList == s.toList) = none := by
      rw [List.find?_eq_none]
      intro e he
      obtain ⟨r, hr, hi, rfl⟩ := mem_ents.1 he
      have := List.find?_eq_none.1 hf r hr
      rw [hq] at this
      simp only [beq_iff_eq, toL_inj]
      exact fun e => this ⟨hi, e⟩
    rw [this]; rfl
  | some r =>
    have hr := List.mem_of_find?_eq_some hf
    have hrq := (hq r).1 (List.find?_some hf)
    have hm : (⟨r.f2, r.f0⟩ : En) ∈ entsOf L n := mem_ents.2 ⟨r, hr, hrq.1, rfl⟩
    cases hg : (entsOf L n).find? (fun e => e.f0.toList == s.toList) with
    | none =>
      have := List.find?_eq_none.1 hg _ hm
      simp [hrq.2] at this
    | some e =>
      have he := List.mem_of_find?_eq_some hg
      have hes := List.find?_some hg
      have hes : e.f0 = s := by simpa [toL_inj] using hes
      have hpos := (h.num r hr).1
      have : e = ⟨r.f2, r.f0⟩ := by
        apply Classical.byContradiction
        intro hne
        have hrt := h.rt n
        have key : bl e.f0 r.f2 = true ∨ bl r.f2 e.f0 = true := by
          obtain ⟨i, hi, rfl⟩ := List.getElem_of_mem he
          obtain ⟨j, hj, hj2⟩ := List.getElem_of_mem hm
          rcases Nat.lt_trichotomy i j with hlt | rfl | hgt
          · have := List.pairwise_iff_getElem.1 hrt i j hi hj hlt
            rw [hj2] at this; exact .inl this
          · exact absurd hj2 hne
          · have := List.pairwise_iff_getElem.1 hrt j i hj hi hgt
            rw [hj2] at this; exact .inr this
        rw [hes, hrq.2, bl_irr] at key
        rcases key with h | h <;> cases h
      subst this
      simp only []
      rw [decide_eq_true (by omega)]
end Go.Proofs.Ytjfigngmpagloaa.Tw

namespace Go.Proofs.Ytjfigngmpagloaa.Tw
open Go Go.RowKit Go.Shelf Go.Proofs Go.Proofs.Ytjfigngmpagloaa Go.Proofs.YtjfigngmpagloaaW.PrintWords Go.Proofs.Ytjfigngmpagloaa.Ext Go.Proofs.Ytjfigngmpagloaa.X Go.Proofs.Ytjfigngmpagloaa.Pu
set_option linter.unusedVariables false
set_option linter.unusedSimpArgs false
set_option maxRecDepth 1000000 in
theorem r07_may (kind : Int) (data : ByteArray) : linhayref07_may.f 5 kind data = some (mayE kind data) := by
  have hz : (data.toList = ([] : List UInt8)) ↔ data.size = 0 := by
    rw [toL]
    constructor
    · intro h
      have := congrArg List.length h
      exact this
    · intro h
      exact List.eq_nil_of_length_eq_zero h
  have hb : ∀ q : Bool, (data.toList == ([] : List UInt8)) = q → decide (data.size = 0) = q := by
    intro q h
    rw [← h]
    by_cases e : data.size = 0
    · rw [hz.2 e, decide_eq_true e]; rfl
    · rw [decide_eq_false e]
      symm
      rw [beq_eq_false_iff_ne]
      exact fun h => e (hz.1 h)
  have hb := hb _ rfl
  unfold mayE linhayref07_may.f
  by_cases a1 : kind < 1
  · rw [if_pos a1, if_pos (.inl a1)]; rfl
  · rw [if_neg a1]
    by_cases a2 : kind > 3
    · rw [decide_eq_true a2, if_pos (.inr a2)]; rfl
    · have J1 : linhayref07_may.j1 4 data false = (if (data.size : Int) > 65536 then some 4 else some 0) := rfl
      rw [decide_eq_false a2, if_neg (show ¬ (kind < 1 ∨ kind > 3) by omega),
        show linhayref07_may.j0 5 kind data false = (if kind = 1 then (if data.toList = ([] : List UInt8) then (if kind = 3 then linhayref07_may.j1 4 data (data.toList == ([] : List UInt8)) else linhayref07_may.j1 4 data false) else linhayref07_may.j1 4 data true) else (if kind = 3 then linhayref07_may.j1 4 data (data.toList == ([] : List UInt8)) else linhayref07_may.j1 4 data false)) from rfl]
      by_cases a3 : kind = 1
      · rw [if_pos a3]
        by_cases e : data.size = 0
        · rw [if_pos (hz.2 e), if_neg (show ¬ (kind = 3) by omega), if_neg (show ¬ ((kind = 1 ∧ data.size ≠ 0) ∨ (kind = 3 ∧ data.size = 0)) by omega), J1, if_neg (by omega), if_neg (by omega)]
        · rw [if_neg (fun h => e (hz.1 h)), if_pos (.inl ⟨a3, e⟩)]; rfl
      · rw [if_neg a3]
        by_cases a4 : kind = 3
        · rw [if_pos a4]
          by_cases e : data.size = 0
          · rw [decide_eq_true e] at hb
            rw [← hb, if_pos (.inr ⟨a4, e⟩)]; rfl
          · rw [decide_eq_false e] at hb
            rw [← hb, if_neg (show ¬ ((kind = 1 ∧ data.size ≠ 0) ∨ (kind = 3 ∧ data.size = 0)) by omega), J1]
            by_cases f : data.size > 65536
            · rw [if_pos f, if_pos (by omega)]
            · rw [if_neg f, if_neg (by omega)]
        · rw [if_neg a4, if_neg (show ¬ ((kind = 1 ∧ data.size ≠ 0) ∨ (kind = 3 ∧ data.size = 0)) by omega), J1]
          by_cases f : data.size > 65536
          · rw [if_pos f, if_pos (by omega)]
          · rw [if_neg f, if_neg (by omega)]
def putRE (L : List RN) (d : Int) (s : ByteArray) (kind : Int) (data : ByteArray) : Int :=
  if dirE (atR L d).f3 ≠ 0 then dirE (atR L d).f3 else if Sp.check s.data.toList ≠ 0 then Sp.check s.data.toList else
    if 0 < inR L d s then 6 else if mayE kind data ≠ 0 then mayE kind data else if 4096 ≤ L.length then 12 else 0
def RAt (w : World) (v : Value) (L : List RN) (last : Int) : Prop := ∃ A c, v = .agg #[.slice A L.length c, .int .i64 last] ∧ L.length ≤ c ∧ Kd.C k97 w A L.length L
theorem RAt.below {w w' : World} {v : Value} {L : List RN} {last : Int} (h : RAt w v L last) (hb : Below w.heap.size w w') : RAt w' v L last := by
  obtain ⟨A, c, e, h1, h2⟩ := h
  exact ⟨A, c, e, h1, Kd.C_below h2 hb⟩
structure PB (w : World) (b : Nat) (A : Option Addr) (n c : Nat) (last : Int) : Prop where
  x : w.heap[b]? = some (.cells #[.slice A n c, .int .i64 last] 28 (0, 0))
  r : w.heap[b + 1]? = some (.cells #[.slice none 0 0, .int .i64 0] 28 (0, 0))
theorem PB.below {w w' : World} {b n c : Nat} {A : Option Addr} {last : Int} (h : PB w b A n c last) (hb : Below w.heap.size w w') : PB w' b A n c last :=
  ⟨(hb.block _ (blk_lt h.x)).trans h.x, (hb.block _ (blk_lt h.r)).trans h.r⟩
theorem PB.all {w : World} {b n c : Nat} {A : Option Addr} {last : Int} (h : PB w b A n c last) :
    w.cell? ⟨b, 0, none⟩ = some (.slice A n c) ∧ w.cell? ⟨b, 1, none⟩ = some (.int .i64 last) ∧ w.cell? ⟨b + 1, 0, none⟩ = some (.slice none 0 0) ∧ w.cell? ⟨b + 1, 1, none⟩ = some (.int .i64 0) ∧ w.frozen? ⟨b + 1, 0, none⟩ = false ∧ w.frozen? ⟨b + 1, 1, none⟩ = false :=
  ⟨by rw [blk_cell h.x]; rfl, by rw [blk_cell h.x]; rfl, by rw [blk_cell h.r]; rfl, by rw [blk_cell h.r]; rfl, blk_frozen h.r 0, blk_frozen h.r 1⟩
theorem PB.mk0 (w : World) (A : Option Addr) (n c : Nat) (last : Int) : PB ((w.alloc (.cells #[.slice A n c, .int .i64 last] 28)).alloc (.cells #[.slice none 0 0, .int .i64 0] 28)) w.heap.size A n c last := by
  refine ⟨?_, ?_⟩
  · exact (((Below.refl _ (w.alloc (.cells #[.slice A n c, .int .i64 last] 28))).alloc (Nat.le_refl _) (.cells #[.slice none 0 0, .int .i64 0] 28)).block w.heap.size (by simp)).trans (heap_alloc_new w _)
  · have := heap_alloc_new (w.alloc (.cells #[.slice A n c, .int .i64 last] 28)) (.cells #[.slice none 0 0, .int .i64 0] 28)
    simpa using this
theorem below_two (w : World) (o1 o2 : Obj) : Below w.heap.size w ((w.alloc o1).alloc o2) := ((Below.refl _ w).alloc (Nat.le_refl _) _).alloc (by simp) _
theorem put_cells {w w2 : World} {n c : Nat} {A : Option Addr} {last : Int} {v0 v1 : Value} (h : PB w2 w.heap.size A n c last) (hb : Below w.heap.size w w2) :
    ((w2.setCell ⟨w.heap.size + 1, 0, none⟩ v0).setCell ⟨w.heap.size + 1, 1, none⟩ v1).cell? ⟨w.heap.size + 1, 0, none⟩ = some v0 ∧ ((w2.setCell ⟨w.heap.size + 1, 0, none⟩ v0).setCell ⟨w.heap.size + 1, 1, none⟩ v1).cell? ⟨w.heap.size + 1, 1, none⟩ = some v1 ∧
      Below w.heap.size w ((w2.setCell ⟨w.heap.size + 1, 0, none⟩ v0).setCell ⟨w.heap.size + 1, 1, none⟩ v1) := by
  have e1 := setCell_eq_setRow w2 (w.heap.size + 1) 0 _ _ _ v0 h.r
  have k1 : (w2.setCell ⟨w.heap.size + 1, 0, none⟩ v0).heap[w.heap.size + 1]? = some (.cells #[v0, .int .i64 0] 28 (0, 0)) := by rw [e1, setRow_heap w2 _ _ _ _ _ h.r]; rfl
  have e2 := setCell_eq_setRow _ (w.heap.size + 1) 1 _ _ _ v1 k1
  have k2 : ((w2.setCell ⟨w.heap.size + 1, 0, none⟩ v0).setCell ⟨w.heap.size + 1, 1, none⟩ v1).heap[w.heap.size + 1]? = some (.cells #[v0, v1] 28 (0, 0)) := by rw [e2, setRow_heap _ _ _ _ _ _ k1]; rfl
  exact ⟨by rw [blk_cell k2]; rfl, by rw [blk_cell k2]; rfl, (hb.setCell (by simp) _).setCell (by simp) _⟩
set_option maxHeartbeats 1000000 in
set_option maxRecDepth 1000000 in
theorem rput_err (L : List RN) (last : Int) (v : Value) (d : Int) (s : ByteArray) (kind : Int) (data : ByteArray) (w : World) (h : RAt w v L last) (hl : L.length < 4294967296) (he : putRE L d s kind data ≠ 0) :
    Calls Try.prog 47 #[v, .int .i64 d, .string s, .int .i64 kind, .string data] w fun e w' => e = .returned (.tuple #[v, .int .i64 0, .int .i64 (putRE L d s kind data)]) ∧ Below w.heap.size w w' := by
  obtain ⟨A, c, rfl, hle, hC⟩ := h
  obtain ⟨k1, hk1⟩ := (r07_dir L d last hl).rounds
  obtain ⟨k2, hk2⟩ := (r03_check s).rounds
  obtain ⟨k3, hk3⟩ := (r07_in L d last s hl).rounds
  have HD := Lib.hid (fun W h h2 => linhayref07_dir.calls k1 A c L last d _ W h h2 hk1)
  have HC := Lib.hid (fun W => linhayref03_Check.calls k2 s _ W hk2)
  have HI := Lib.hid (fun W h h2 => linhayref07_In.calls k3 A c L last d s _ W h h2 hk3)
  have HM := Lib.hid (fun W => linhayref07_may.calls 5 kind data (mayE kind data) W (r07_may kind data))
  have HL := Lib.hid hC
  have HLE := Lib.hid hle
  clear hk1 hk2 hk3 hle hl hC
  unfold putRE at he ⊢
  generalize dirE (atR L d).f3 = q1 at *
  generalize Sp.check s.data.toList = q2 at *
  generalize inR L d s = q3 at *
  generalize mayE kind data = q4 at *
  generalize hn : L.length = n at *
  have P1 := Lib.hid (PB.mk0 w A n c last)
  have hb1 := below_two w (.cells #[.slice A n c, .int .i64 last] 28) (.cells #[.slice none 0 0, .int .i64 0] 28)
  have HL1 := Lib.hid (Kd.C_below HL.out hb1)
  obtain ⟨x0_1, x1_1, r0_1, r1_1, f0_1, f1_1⟩ := P1.out.all
  have HB1 := Lib.hid hb1
  clear hb1
  by_cases h1 : q1 = 0
  · subst h1
    rw [if_neg (by simp)] at he ⊢
    by_cases h2 : q2 = 0
    · subst h2
      rw [if_neg (by simp)] at he ⊢
      by_cases h3 : 0 < q3
      · rw [if_pos h3]
        clear he
        go_enter Try.func47, Try.ntmps47
        go_wp2_with (first | (go_at_call 93; refine (HD.out _ HL1.out HLE.out).mono ?_; rintro e w2 ⟨rfl, hb2⟩; have P2 := Aside0.mk (P1.out.below hb2); have HL2 := Aside0.mk (Kd.C_below HL1.out hb2); obtain ⟨x0_2, x1_2, r0_2, r1_2, f0_2, f1_2⟩ := P2.out.all) | (go_at_call 64; refine (HC.out _).mono ?_; rintro e w3 ⟨rfl, hd3⟩; have hb3 := hd3.below; have P3 := Aside0.mk (P2.out.below hb3); have HL3 := Aside0.mk (Kd.C_below HL2.out hb3); obtain ⟨x0_3, x1_3, r0_3, r1_3, f0_3, f1_3⟩ := P3.out.all) | (go_at_call 70; refine (HI.out _ HL3.out HLE.out).mono ?_; rintro e w4 ⟨rfl, hb4⟩; have P4 := Aside0.mk (P3.out.below hb4); have HL4 := Aside0.mk (Kd.C_below HL3.out hb4); obtain ⟨x0_4, x1_4, r0_4, r1_4, f0_4, f1_4⟩ := P4.out.all) | (go_at_call 94; refine (HM.out _).mono ?_; rintro e w5 ⟨rfl, hd5⟩; have hb5 := hd5.below; have P5 := Aside0.mk (P4.out.below hb5); have HL5 := Aside0.mk (Kd.C_below HL4.out hb5); obtain ⟨x0_5, x1_5, r0_5, r1_5, f0_5, f1_5⟩ := P5.out.all))
        have hB := ((HB1.out.trans (hb2.mono (HB1.out.size))).trans (hb3.mono (Nat.le_trans (HB1.out.size) hb2.size))).trans (hb4.mono (Nat.le_trans (Nat.le_trans (HB1.out.size) hb2.size) hb3.size))
        obtain ⟨c0, c1, hB3⟩ := put_cells (v0 := .slice A n c) (v1 := .int .i64 last) P4.out hB
        generalize (w4.setCell ⟨w.heap.size + 1, 0, none⟩ (.slice A n c)).setCell ⟨w.heap.size + 1, 1, none⟩ (.int .i64 last) = w9 at c0 c1 hB3 ⊢
        have hu := Try.underlying28
        refine bodyPost_ret (v := .tuple #[.agg #[.slice A n c, .int .i64 last], .int .i64 0, .int .i64 6]) (by simp [results, Try.results47, go_sem, c0, c1, hu]) rfl ⟨rfl, hB3⟩
      · rw [if_neg h3] at he ⊢
        by_cases h4 : q4 = 0
        · subst h4
          rw [if_neg (by simp)] at he ⊢
          by_cases h5 : 4096 ≤ n
          · rw [if_pos h5]
            have h5' : (4096 : Int) ≤ (n : Int) := by omega
            clear he
            go_enter Try.func47, Try.ntmps47
            go_wp2_with (first | (go_at_call 93; refine (HD.out _ HL1.out HLE.out).mono ?_; rintro e w2 ⟨rfl, hb2⟩; have P2 := Aside0.mk (P1.out.below hb2); have HL2 := Aside0.mk (Kd.C_below HL1.out hb2); obtain ⟨x0_2, x1_2, r0_2, r1_2, f0_2, f1_2⟩ := P2.out.all) | (go_at_call 64; refine (HC.out _).mono ?_; rintro e w3 ⟨rfl, hd3⟩; have hb3 := hd3.below; have P3 := Aside0.mk (P2.out.below hb3); have HL3 := Aside0.mk (Kd.C_below HL2.out hb3); obtain ⟨x0_3, x1_3, r0_3, r1_3, f0_3, f1_3⟩ := P3.out.all) | (go_at_call 70; refine (HI.out _ HL3.out HLE.out).mono ?_; rintro e w4 ⟨rfl, hb4⟩; have P4 := Aside0.mk (P3.out.below hb4); have HL4 := Aside0.mk (Kd.C_below HL3.out hb4); obtain ⟨x0_4, x1_4, r0_4, r1_4, f0_4, f1_4⟩ := P4.out.all) | (go_at_call 94; refine (HM.out _).mono ?_; rintro e w5 ⟨rfl, hd5⟩; have hb5 := hd5.below; have P5 := Aside0.mk (P4.out.below hb5); have HL5 := Aside0.mk (Kd.C_below HL4.out hb5); obtain ⟨x0_5, x1_5, r0_5, r1_5, f0_5, f1_5⟩ := P5.out.all))
            have hB := (((HB1.out.trans (hb2.mono (HB1.out.size))).trans (hb3.mono (Nat.le_trans (HB1.out.size) hb2.size))).trans (hb4.mono (Nat.le_trans (Nat.le_trans (HB1.out.size) hb2.size) hb3.size))).trans (hb5.mono (Nat.le_trans (Nat.le_trans (Nat.le_trans (HB1.out.size) hb2.size) hb3.size) hb4.size))
            obtain ⟨c0, c1, hB3⟩ := put_cells (v0 := .slice A n c) (v1 := .int .i64 last) P5.out hB
            generalize (w5.setCell ⟨w.heap.size + 1, 0, none⟩ (.slice A n c)).setCell ⟨w.heap.size + 1, 1, none⟩ (.int .i64 last) = w9 at c0 c1 hB3 ⊢
            have hu := Try.underlying28
            refine bodyPost_ret (v := .tuple #[.agg #[.slice A n c, .int .i64 last], .int .i64 0, .int .i64 12]) (by simp [results, Try.results47, go_sem, c0, c1, hu]) rfl ⟨rfl, hB3⟩
          · rw [if_neg h5] at he
            exact absurd rfl he
        · rw [if_pos h4]
          clear he
          go_enter Try.func47, Try.ntmps47
          go_wp2_with (first | (go_at_call 93; refine (HD.out _ HL1.out HLE.out).mono ?_; rintro e w2 ⟨rfl, hb2⟩; have P2 := Aside0.mk (P1.out.below hb2); have HL2 := Aside0.mk (Kd.C_below HL1.out hb2); obtain ⟨x0_2, x1_2, r0_2, r1_2, f0_2, f1_2⟩ := P2.out.all) | (go_at_call 64; refine (HC.out _).mono ?_; rintro e w3 ⟨rfl, hd3⟩; have hb3 := hd3.below; have P3 := Aside0.mk (P2.out.below hb3); have HL3 := Aside0.mk (Kd.C_below HL2.out hb3); obtain ⟨x0_3, x1_3, r0_3, r1_3, f0_3, f1_3⟩ := P3.out.all) | (go_at_call 70; refine (HI.out _ HL3.out HLE.out).mono ?_; rintro e w4 ⟨rfl, hb4⟩; have P4 := Aside0.mk (P3.out.below hb4); have HL4 := Aside0.mk (Kd.C_below HL3.out hb4); obtain ⟨x0_4, x1_4, r0_4, r1_4, f0_4, f1_4⟩ := P4.out.all) | (go_at_call 94; refine (HM.out _).mono ?_; rintro e w5 ⟨rfl, hd5⟩; have hb5 := hd5.below; have P5 := Aside0.mk (P4.out.below hb5); have HL5 := Aside0.mk (Kd.C_below HL4.out hb5); obtain ⟨x0_5, x1_5, r0_5, r1_5, f0_5, f1_5⟩ := P5.out.all))
          have hB := (((HB1.out.trans (hb2.mono (HB1.out.size))).trans (hb3.mono (Nat.le_trans (HB1.out.size) hb2.size))).trans (hb4.mono (Nat.le_trans (Nat.le_trans (HB1.out.size) hb2.size) hb3.size))).trans (hb5.mono (Nat.le_trans (Nat.le_trans (Nat.le_trans (HB1.out.size) hb2.size) hb3.size) hb4.size))
          obtain ⟨c0, c1, hB3⟩ := put_cells (v0 := .slice A n c) (v1 := .int .i64 last) P5.out hB
          generalize (w5.setCell ⟨w.heap.size + 1, 0, none⟩ (.slice A n c)).setCell ⟨w.heap.size + 1, 1, none⟩ (.int .i64 last) = w9 at c0 c1 hB3 ⊢
          have hu := Try.underlying28
          refine bodyPost_ret (v := .tuple #[.agg #[.slice A n c, .int .i64 last], .int .i64 0, .int .i64 q4]) (by simp [results, Try.results47, go_sem, c0, c1, hu]) rfl ⟨rfl, hB3⟩
    · rw [if_pos h2]
      clear he
      go_enter Try.func47, Try.ntmps47
      go_wp2_with (first | (go_at_call 93; refine (HD.out _ HL1.out HLE.out).mono ?_; rintro e w2 ⟨rfl, hb2⟩; have P2 := Aside0.mk (P1.out.below hb2); have HL2 := Aside0.mk (Kd.C_below HL1.out hb2); obtain ⟨x0_2, x1_2, r0_2, r1_2, f0_2, f1_2⟩ := P2.out.all) | (go_at_call 64; refine (HC.out _).mono ?_; rintro e w3 ⟨rfl, hd3⟩; have hb3 := hd3.below; have P3 := Aside0.mk (P2.out.below hb3); have HL3 := Aside0.mk (Kd.C_below HL2.out hb3); obtain ⟨x0_3, x1_3, r0_3, r1_3, f0_3, f1_3⟩ := P3.out.all) | (go_at_call 70; refine (HI.out _ HL3.out HLE.out).mono ?_; rintro e w4 ⟨rfl, hb4⟩; have P4 := Aside0.mk (P3.out.below hb4); have HL4 := Aside0.mk (Kd.C_below HL3.out hb4); obtain ⟨x0_4, x1_4, r0_4, r1_4, f0_4, f1_4⟩ := P4.out.all) | (go_at_call 94; refine (HM.out _).mono ?_; rintro e w5 ⟨rfl, hd5⟩; have hb5 := hd5.below; have P5 := Aside0.mk (P4.out.below hb5); have HL5 := Aside0.mk (Kd.C_below HL4.out hb5); obtain ⟨x0_5, x1_5, r0_5, r1_5, f0_5, f1_5⟩ := P5.out.all))
      have hB := (HB1.out.trans (hb2.mono (HB1.out.size))).trans (hb3.mono (Nat.le_trans (HB1.out.size) hb2.size))
      obtain ⟨c0, c1, hB3⟩ := put_cells (v0 := .slice A n c) (v1 := .int .i64 last) P3.out hB
      generalize (w3.setCell ⟨w.heap.size + 1, 0, none⟩ (.slice A n c)).setCell ⟨w.heap.size + 1, 1, none⟩ (.int .i64 last) = w9 at c0 c1 hB3 ⊢
      have hu := Try.underlying28
      refine bodyPost_ret (v := .tuple #[.agg #[.slice A n c, .int .i64 last], .int .i64 0, .int .i64 q2]) (by simp [results, Try.results47, go_sem, c0, c1, hu]) rfl ⟨rfl, hB3⟩
  · rw [if_pos h1]
    clear he
    go_enter Try.func47, Try.ntmps47
    go_wp2_with (first | (go_at_call 93; refine (HD.out _ HL1.out HLE.out).mono ?_; rintro e w2 ⟨rfl, hb2⟩; have P2 := Aside0.mk (P1.out.below hb2); have HL2 := Aside0.mk (Kd.C_below HL1.out hb2); obtain ⟨x0_2, x1_2, r0_2, r1_2, f0_2, f1_2⟩ := P2.out.all) | (go_at_call 64; refine (HC.out _).mono ?_; rintro e w3 ⟨rfl, hd3⟩; have hb3 := hd3.below; have P3 := Aside0.mk (P2.out.below hb3); have HL3 := Aside0.mk (Kd.C_below HL2.out hb3); obtain ⟨x0_3, x1_3, r0_3, r1_3, f0_3, f1_3⟩ := P3.out.all) | (go_at_call 70; refine (HI.out _ HL3.out HLE.out).mono ?_; rintro e w4 ⟨rfl, hb4⟩; have P4 := Aside0.mk (P3.out.below hb4); have HL4 := Aside0.mk (Kd.C_below HL3.out hb4); obtain ⟨x0_4, x1_4, r0_4, r1_4, f0_4, f1_4⟩ := P4.out.all) | (go_at_call 94; refine (HM.out _).mono ?_; rintro e w5 ⟨rfl, hd5⟩; have hb5 := hd5.below; have P5 := Aside0.mk (P4.out.below hb5); have HL5 := Aside0.mk (Kd.C_below HL4.out hb5); obtain ⟨x0_5, x1_5, r0_5, r1_5, f0_5, f1_5⟩ := P5.out.all))
    have hB := HB1.out.trans (hb2.mono (HB1.out.size))
    obtain ⟨c0, c1, hB3⟩ := put_cells (v0 := .slice A n c) (v1 := .int .i64 last) P2.out hB
    generalize (w2.setCell ⟨w.heap.size + 1, 0, none⟩ (.slice A n c)).setCell ⟨w.heap.size + 1, 1, none⟩ (.int .i64 last) = w9 at c0 c1 hB3 ⊢
    have hu := Try.underlying28
    refine bodyPost_ret (v := .tuple #[.agg #[.slice A n c, .int .i64 last], .int .i64 0, .int .i64 q1]) (by simp [results, Try.results47, go_sem, c0, c1, hu]) rfl ⟨rfl, hB3⟩
end Go.Proofs.Ytjfigngmpagloaa.Tw

namespace Go.Proofs.Ytjfigngmpagloaa.Tw
open Go Go.RowKit Go.Shelf Go.Proofs Go.Proofs.Ytjfigngmpagloaa Go.Proofs.YtjfigngmpagloaaW.PrintWords Go.Proofs.Ytjfigngmpagloaa.Ext Go.Proofs.Ytjfigngmpagloaa.X Go.Proofs.Ytjfigngmpagloaa.Pu
set_option linter.unusedVariables false
set_option linter.unusedSimpArgs false
theorem putRE_zero {L : List RN} {d : Int} {s : ByteArray} {kind : Int} {data : ByteArray} (h : putRE L d s kind data = 0) :
    dirE (atR L d).f3 = 0 ∧ Sp.check s.data.toList = 0 ∧ ¬ (0 < inR L d s) ∧ mayE kind data = 0 ∧ L.length < 4096 := by
  unfold putRE at h
  split at h
  · rename_i g; exact absurd h g
  · rename_i g1
    split at h
    · rename_i g; exact absurd h g
    · rename_i g2
      split at h
      · cases h
      · rename_i g3
        split at h
        · rename_i g; exact absurd h g
        · rename_i g4
          split at h
          · cases h
          · rename_i g5
            exact ⟨Decidable.byContradiction fun e => g1 e, Decidable.byContradiction fun e => g2 e, g3, Decidable.byContradiction fun e => g4 e, by omega⟩
theorem rfar2 {w : World} {base b : Nat} {v u u' : Value} {l : List RN} (h : Kd.R k97 97 w base (fun _ => True) v l) (hb : b < base) :
    Kd.R k97 97 ((w.setCell ⟨b, 0, none⟩ u).setCell ⟨b, 1, none⟩ u') base (fun _ => True) v l := by
  have h1 := Kd.R_mono (Kd.R_bound h) (ok' := fun k => k ≠ b) (fun k hk => by have := hk.2.1; omega)
  exact Kd.R_mono (Kd.R_far (p := ⟨b, 1, none⟩) (Kd.R_far (p := ⟨b, 0, none⟩) h1 (fun k hk => hk) u) (fun k hk => hk) u') (fun _ _ => trivial)
theorem rat_fin {w : World} {n c7 : Nat} {A7 : Option Addr} {L : List RN} {x : RN} {last : Int} (hn : L.length = n) (h : ∃ A c, Value.slice A7 ([] ++ L ++ [x]).length c7 = .slice A ([] ++ L ++ [x]).length c ∧ ([] ++ L ++ [x]).length ≤ c ∧ Kd.C k97 w A ([] ++ L ++ [x]).length ([] ++ L ++ [x])) :
    RAt w.drew (.agg #[.slice A7 (n + 1) c7, .int .i64 last]) (L ++ [x]) last := by
  obtain ⟨A, c, e, h1, h2⟩ := h
  cases e
  exact ⟨A7, c7, by simp [hn], h1, Kd.C_drew h2⟩
theorem alloc_below (w : World) (o : Obj) (w' : World) (h : Below (w.heap.size + 1) (w.drew.alloc o) w') : Below w.heap.size w w' :=
  (((Below.refl w.heap.size w).drew).alloc (Nat.le_refl _) o).trans (h.mono (Nat.le_succ _))
theorem oneR {w w' : World} {b : Nat} {x : RN} (h : w'.heap[b]? = w.heap[b]?) (hv : w.heap[b]? = some (.cells #[.int .i64 x.f0, .int .i64 x.f1, .string x.f2, .int .i64 x.f3, .string x.f4] 97 (0, 0))) : Kd.C k97 w' (some ⟨b, 0, none⟩) 1 [x] := by
  have hv := h.trans hv
  refine ⟨rfl, by omega, fun _ => ⟨_, rfl, fun j p hj => ?_⟩⟩
  obtain ⟨hl, rfl⟩ := List.getElem?_eq_some_iff.1 hj
  have : j = 0 := by simp at hl; exact hl
  subst this
  refine ⟨[.int .i64 x.f0, .int .i64 x.f1, .string x.f2, .int .i64 x.f3, .string x.f4], rfl, k97_mk w' x, fun i u hu => ?_⟩
  rw [show (⟨b, 0, none⟩ : Addr).add (0 * k97.sz + i) = ⟨b, i, none⟩ by rw [Addr.add_lit]; congr 1; omega]
  rw [cell_of_row w' b _ _ _ (0, 0) hv]
  simpa using hu
set_option maxHeartbeats 4000000 in
set_option maxRecDepth 1000000 in
theorem rput_ok (L : List RN) (last : Int) (v : Value) (d : Int) (s : ByteArray) (kind : Int) (data : ByteArray) (w : World) (h : RAt w v L last) (hla : 0 ≤ last ∧ last < 1000000) (he : putRE L d s kind data = 0) :
    Calls Try.prog 47 #[v, .int .i64 d, .string s, .int .i64 kind, .string data] w fun e w' => ∃ v', e = .returned (.tuple #[v', .int .i64 (last + 1), .int .i64 0]) ∧ RAt w' v' (L ++ [⟨last + 1, d, s, kind, data⟩]) (last + 1) ∧ Below w.heap.size w w' := by
  obtain ⟨A, c, rfl, hle, hC⟩ := h
  obtain ⟨z1, z2, z3, z4, z5⟩ := putRE_zero he
  have hl : L.length < 4294967296 := by omega
  obtain ⟨k1, hk1⟩ := (r07_dir L d last hl).rounds
  obtain ⟨k2, hk2⟩ := (r03_check s).rounds
  obtain ⟨k3, hk3⟩ := (r07_in L d last s hl).rounds
  have HD := Lib.hid (fun W h h2 => linhayref07_dir.calls k1 A c L last d _ W h h2 hk1)
  have HC := Lib.hid (fun W => linhayref03_Check.calls k2 s _ W hk2)
  have HI := Lib.hid (fun W h h2 => linhayref07_In.calls k3 A c L last d s _ W h h2 hk3)
  have HM := Lib.hid (fun W => linhayref07_may.calls 5 kind data (mayE kind data) W (r07_may kind data))
  have HL := Lib.hid hC
  have HLE := Lib.hid hle
  have HZ5 := Lib.hid z5
  have hw1 : IntKind.i64.wrap (last + 1) = last + 1 := by obtain ⟨a, b⟩ := hla; rw [IntKind.wrap_i64]; omega
  rw [z1] at HD
  rw [z2] at HC
  rw [z4] at HM
  have h5' : ¬ ((4096 : Int) ≤ (L.length : Int)) := by omega
  have h5'' : (L.length : Int) < 4096 := by omega
  clear hk1 hk2 hk3 hle hl hC z1 z2 z4 z5 he hla
  generalize inR L d s = q3 at *
  generalize hn : L.length = n at *
  have P1 := Lib.hid (PB.mk0 w A n c last)
  have hb1 := below_two w (.cells #[.slice A n c, .int .i64 last] 28) (.cells #[.slice none 0 0, .int .i64 0] 28)
  have HL1 := Lib.hid (Kd.C_below HL.out hb1)
  obtain ⟨x0_1, x1_1, r0_1, r1_1, f0_1, f1_1⟩ := P1.out.all
  have HB1 := Lib.hid hb1
  clear hb1
  go_enter Try.func47, Try.ntmps47
  go_wp2_with (first | (go_at_call 93; refine (HD.out _ HL1.out HLE.out).mono ?_; rintro e w2 ⟨rfl, hb2⟩; have P2 := Aside0.mk (P1.out.below hb2); have HL2 := Aside0.mk (Kd.C_below HL1.out hb2); obtain ⟨x0_2, x1_2, r0_2, r1_2, f0_2, f1_2⟩ := P2.out.all) | (go_at_call 64; refine (HC.out _).mono ?_; rintro e w3 ⟨rfl, hd3⟩; have hb3 := hd3.below; have P3 := Aside0.mk (P2.out.below hb3); have HL3 := Aside0.mk (Kd.C_below HL2.out hb3); obtain ⟨x0_3, x1_3, r0_3, r1_3, f0_3, f1_3⟩ := P3.out.all) | (go_at_call 70; refine (HI.out _ HL3.out HLE.out).mono ?_; rintro e w4 ⟨rfl, hb4⟩; have P4 := Aside0.mk (P3.out.below hb4); have HL4 := Aside0.mk (Kd.C_below HL3.out hb4); obtain ⟨x0_4, x1_4, r0_4, r1_4, f0_4, f1_4⟩ := P4.out.all) | (go_at_call 94; refine (HM.out _).mono ?_; rintro e w5 ⟨rfl, hd5⟩; have hb5 := hd5.below; have P5 := Aside0.mk (P4.out.below hb5); have HL5 := Aside0.mk (Kd.C_below HL4.out hb5); obtain ⟨x0_5, x1_5, r0_5, r1_5, f0_5, f1_5⟩ := P5.out.all))
  have HB5 := Aside0.mk ((((HB1.out.trans (hb2.mono (HB1.out.size))).trans (hb3.mono (Nat.le_trans (HB1.out.size) hb2.size))).trans (hb4.mono (Nat.le_trans (Nat.le_trans (HB1.out.size) hb2.size) hb3.size))).trans (hb5.mono (Nat.le_trans (Nat.le_trans (Nat.le_trans (HB1.out.size) hb2.size) hb3.size) hb4.size)))
  have PD := Aside0.mk (P5.out.below (below_drew (Below.refl _ w5)))
  have HLD := Aside0.mk (Kd.C_drew HL5.out)
  clear hb2 hb3 hb4 hb5 x0_1 x1_1 r0_1 r1_1 f0_1 f1_1 x0_2 x1_2 r0_2 r1_2 f0_2 f1_2 x0_3 x1_3 r0_3 r1_3 f0_3 f1_3 x0_4 x1_4 r0_4 r1_4 f0_4 f1_4 x0_5 x1_5 r0_5 r1_5 f0_5 f1_5 HL1 HL2 HL3 HL4 P1 P2 P3 P4 HD HC HI HM HB1
  have hlt5 := Aside0.mk (blk_lt P5.out.r)
  obtain ⟨x0, x1, -, -, -, -⟩ := PD.out.all
  obtain ⟨xA0, xA1, -, -, -, -⟩ := (P5.out.below (below_drew (((Below.refl _ w5).alloc (Nat.le_refl _) (.cells #[.int .i64 (last + 1), .int .i64 d, .string s, .int .i64 kind, .string data] 97))))).all
  go_region_law (first | (refine Kd.R_append_rows_step k97 (w0 := w5) w5.heap.size (by simp [Region.wanted]) (.const (.slice none 0 0)) (.tmp 49) 26 97 _ 56 rfl Try.underlying26 info97 rfl (by decide) (by omega) _ [] L A n c (fun _ => True) (fun _ => False) (by rfl) (by rfl) (Kd.R_nil _ _ _ _ _) HLD.out (fun _ _ h => by obtain rfl := k97_open h; exact k97_mkM _ _ _ _) (fun _ h => h.elim) (fun _ _ => trivial) (below_drew (Below.refl _ _)) (by simp) (by have := HZ5.out; simp; omega) ?_; intro v6 w6 ho6 hb6 hg6 hat6; have P6 := Aside0.mk (P5.out.below hb6); have x6 := P6.out.all.1; have y6 := P6.out.all.2.1) | (refine Kd.R_append_rows_step k97 (w0 := (w5.alloc (.cells #[.int .i64 (last + 1), .int .i64 d, .string s, .int .i64 kind, .string data] 97)).drew) (w5.heap.size + 1) (by simp [Region.wanted]) (.const (.slice none 0 0)) (.tmp 49) 26 97 _ 56 rfl Try.underlying26 info97 rfl (by decide) (by omega) _ [] L A n c (fun _ => True) (fun _ => False) (by rfl) (by rfl) (Kd.R_nil _ _ _ _ _) (Kd.C_drew (Kd.C_alloc HL5.out _)) (fun _ _ h => by obtain rfl := k97_open h; exact k97_mkM _ _ _ _) (fun _ h => h.elim) (fun _ _ => trivial) (Below.refl _ _) (by simp) (by have := HZ5.out; simp; omega) ?_; intro v6 w6 ho6 hb6' hg6 hat6; have hb6 := alloc_below w5 (.cells #[.int .i64 (last + 1), .int .i64 d, .string s, .int .i64 kind, .string data] 97) w6 hb6'; have HV6 := Aside0.mk (oneR (x := ⟨last + 1, d, s, kind, data⟩) (hb6'.block w5.heap.size (by simp)) (heap_alloc_new w5 _)); have P6 := Aside0.mk (P5.out.below hb6); have x6 := P6.out.all.1; have y6 := P6.out.all.2.1) | (refine Kd.R_append_step k97 (w0 := w5) w5.heap.size (by simp [Region.wanted]) (.tmp 50) (.tmp 59) 26 97 _ 56 rfl Try.underlying26 info97 rfl (by decide) (by omega) v6 ([] ++ L) ⟨last + 1, d, s, kind, data⟩ _ (fun _ => True) (fun _ => False) (by rfl) (by rfl) (k97_mkM _ _ _ _) (fun _ h => h.elim) (fun _ _ => trivial) ho6 hb6 hb6.size (by have := HZ5.out; simp; omega) ?_; intro v7 w7 ho7 hbb7 hg7 hat7; obtain ⟨A7, c7, rfl, hle7, hC7⟩ := Kd.R_reads ho7; have P7 := Aside0.mk (P5.out.below hbb7); obtain ⟨x7, y7, r7, s7, f7, g7⟩ := P7.out.all; have HL7 := Aside0.mk (And.intro hle7 hC7); have HB7 := Aside0.mk hbb7) | (refine Kd.R_append_rows_step k97 (w0 := w6) (w5.heap.size + 1) (by simp [Region.wanted]) (.tmp 50) (.tmp 59) 26 97 _ 56 rfl Try.underlying26 info97 rfl (by decide) (by omega) v6 ([] ++ L) [⟨last + 1, d, s, kind, data⟩] _ 1 1 (fun _ => True) (fun _ => False) (by rfl) (by rfl) ho6 HV6.out (fun _ _ h => by obtain rfl := k97_open h; exact k97_mkM _ _ _ _) (fun _ h => h.elim) (fun _ _ => trivial) (Below.refl _ _) (Nat.le_trans (by simp) hb6'.size) (by have := HZ5.out; simp; omega) ?_; intro v7 w7 ho7 hb7 hg7 hat7; have hbb7 := hb6.trans (hb7.mono (Nat.le_succ _)); obtain ⟨A7, c7, rfl, hle7, hC7⟩ := Kd.R_reads ho7; have P7 := Aside0.mk (P5.out.below hbb7); obtain ⟨x7, y7, r7, s7, f7, g7⟩ := P7.out.all; have HL7 := Aside0.mk (And.intro hle7 hC7); have HB7 := Aside0.mk hbb7))
  all_goals clear x0 x1 xA0 xA1 HLD PD HL5 P5
  all_goals go_wp2
  all_goals go_region
  all_goals go_wp2
  all_goals have hB := HB5.out.trans (HB7.out.mono HB5.out.size)
  all_goals obtain ⟨c0, c1, hB3⟩ := put_cells (v0 := .slice A7 (n + 1) c7) (v1 := .int .i64 (last + 1)) P7.out hB
  all_goals have hR9 := Kd.R_reads (rfar2 (u := .slice A7 (n + 1) c7) (u' := .int .i64 (last + 1)) ho7 (show w.heap.size + 1 < _ by have := hlt5.out; omega))
  all_goals generalize (w7.setCell ⟨w.heap.size + 1, 0, none⟩ (.slice A7 (n + 1) c7)).setCell ⟨w.heap.size + 1, 1, none⟩ (.int .i64 (last + 1)) = w9 at c0 c1 hB3 hR9 ⊢
  all_goals have hu := Try.underlying28
  all_goals refine bodyPost_ret (v := .tuple #[.agg #[.slice A7 (n + 1) c7, .int .i64 (last + 1)], .int .i64 (last + 1), .int .i64 0]) (by simp [results, Try.results47, go_sem, c0, c1, hu, Act.put]) (by simp [Act.put]) ⟨_, rfl, ?_, ?_⟩
  all_goals first | exact rat_fin hn (hR9) | exact (below_drew hB3) | exact hB3
end Go.Proofs.Ytjfigngmpagloaa.Tw

namespace Go.Proofs.Ytjfigngmpagloaa.Tw
open Go Go.RowKit Go.Shelf Go.Proofs Go.Proofs.Ytjfigngmpagloaa Go.Proofs.YtjfigngmpagloaaW.PrintWords Go.Proofs.Ytjfigngmpagloaa.Ext Go.Proofs.Ytjfigngmpagloaa.X Go.Proofs.Ytjfigngmpagloaa.Pu
set_option linter.unusedVariables false
set_option linter.unusedSimpArgs false
theorem putE_eq {L : List RN} {last : Int} (h : GoodL L last) (d : Int) (s : ByteArray) (kind : Int) (data : ByteArray) : putE (trOf L last) d s kind data = putRE L d s kind data := by
  unfold putE putRE
  rw [node_of h d]
  simp only [find_ents h d s, decide_eq_true_eq]
  rfl
theorem find_snoc (L : List RN) (x : RN) (n : Int) : (L ++ [x]).find? (fun r => r.f0 == n) = match L.find? (fun r => r.f0 == n) with | some r => some r | none => if x.f0 = n then some x else none := by
  rw [List.find?_append]
  cases L.find? (fun r => r.f0 == n) with
  | some r => rfl
  | none =>
    by_cases e : x.f0 = n
    · simp [List.find?_cons, e]
    · simp [List.find?_cons, e]
theorem at_snoc {L : List RN} {x : RN} {n : Int} (h : (atR L n).f3 ≠ 0) : atR (L ++ [x]) n = atR L n := by
  unfold atR at h ⊢
  rw [find_snoc]
  cases hf : L.find? (fun r => r.f0 == n) with
  | some r => rfl
  | none => rw [hf] at h; exact absurd rfl h
theorem fresh {L : List RN} {last : Int} (h : GoodL L last) {n : Int} (hn : last < n) : L.find? (fun r => r.f0 == n) = none := by
  rw [List.find?_eq_none]
  intro r hr e
  have := (h.num r hr).2
  have e : r.f0 = n := by simpa using e
  omega
theorem mayE_zero {kind : Int} {data : ByteArray} (h : mayE kind data = 0) : (kind = 1 ∨ kind = 2 ∨ kind = 3) ∧ data.size ≤ 65536 := by
  unfold mayE at h
  split at h
  · cases h
  · split at h
    · cases h
    · split at h
      · cases h
      · rename_i h1 _ h3
        exact ⟨by omega, by omega⟩
theorem inR_none {L : List RN} {last d : Int} {s : ByteArray} (h : GoodL L last) (hn : ¬ 0 < inR L d s) : ∀ r ∈ L, r.f1 = d → r.f0 ≠ 1 → r.f2 ≠ s := by
  intro r hr h1 h2 h3
  apply hn
  unfold inR
  cases hf : L.find? (inQ d s) with
  | none =>
    have := List.find?_eq_none.1 hf r hr
    simp [inQ, h1, h2, h3] at this
  | some q =>
    have := (h.num q (List.mem_of_find?_eq_some hf)).1
    show 0 < q.f0
    omega
theorem GoodL.last1 {L : List RN} {last : Int} (h : GoodL L last) : 1 ≤ last := by
  obtain ⟨r, hr, h1, _⟩ := h.root
  have := (h.num r hr).2
  omega
theorem GoodL.put {L : List RN} {last : Int} (h : GoodL L last) {d : Int} {s : ByteArray} {kind : Int} {data : ByteArray} (he : putRE L d s kind data = 0) : GoodL (L ++ [⟨last + 1, d, s, kind, data⟩]) (last + 1) := by
  obtain ⟨z1, z2, z3, z4, z5⟩ := putRE_zero he
  have hk := dirE_zero z1
  have hla := h.last1
  refine ⟨by simp; omega, ?_, ?_, ?_, ?_, ?_, ?_⟩
  · intro r hr
    rcases List.mem_append.1 hr with hr | hr
    · have := h.num r hr; omega
    · have : r = _ := List.mem_singleton.1 hr
      subst this
      exact ⟨by show 1 ≤ last + 1; omega, Int.le_refl _⟩
  · rw [List.pairwise_append]
    refine ⟨h.uniq, List.pairwise_singleton _ _, ?_⟩
    intro a ha b hb
    have : b = _ := List.mem_singleton.1 hb
    subst this
    have := (h.num a ha).2
    show a.f0 ≠ last + 1
    omega
  · rw [List.pairwise_append]
    refine ⟨h.names, List.pairwise_singleton _ _, ?_⟩
    intro a ha b hb
    have : b = _ := List.mem_singleton.1 hb
    subst this
    intro h1 h2 _
    exact inR_none h z3 a ha h1 h2
  · intro r hr
    rcases List.mem_append.1 hr with hr | hr
    · exact h.data r hr
    · have : r = _ := List.mem_singleton.1 hr
      subst this
      exact (mayE_zero z4).2
  · intro r hr
    rcases List.mem_append.1 hr with hr | hr
    · rw [at_snoc (by rw [h.up r hr]; decide)]; exact h.up r hr
    · have : r = _ := List.mem_singleton.1 hr
      subst this
      show (atR _ d).f3 = 1
      rw [at_snoc (by rw [hk]; decide)]; exact hk
  · obtain ⟨r, hr, q⟩ := h.root
    exact ⟨r, List.mem_append_left _ hr, q⟩
theorem putT_eq {L : List RN} {last : Int} (h : GoodL L last) {d : Int} {s : ByteArray} {kind : Int} {data : ByteArray} (he : putRE L d s kind data = 0) :
    putT (trOf L last) d s kind data = trOf (L ++ [⟨last + 1, d, s, kind, data⟩]) (last + 1) := by
  obtain ⟨z1, z2, z3, z4, z5⟩ := putRE_zero he
  have hk := dirE_zero z1
  have hla := h.last1
  have hk0 : (atR L d).f3 ≠ 0 := by rw [hk]; decide
  obtain ⟨q, hq, hqd, hqe⟩ := at_kind hk0
  have hqn := (h.num q hq).2
  have hdl : d ≠ last + 1 := by omega
  have hnode := node_of h d
  have hf0 := fresh h (show last < last + 1 by omega)
  have hents : ∀ n, entsOf (L ++ [⟨last + 1, d, s, kind, data⟩]) n = if n = d then insE (entsOf L d) ⟨s, last + 1⟩ else entsOf L n := by
    intro n
    rw [entsOf_snoc]
    by_cases e : n = d
    · subst e
      rw [if_pos (show isIn n ⟨last + 1, n, s, kind, data⟩ = true from isIn_iff.2 ⟨rfl, by show last + 1 ≠ 1; omega⟩), if_pos rfl]
    · rw [if_neg (fun hi => e (isIn_iff.1 hi).1.symm), if_neg e]
  unfold putT Tr.enter
  have hn2 : ((trOf L last).bump.set ((trOf L last).last + 1) ⟨kind, d, data, []⟩).node d = (trOf L last).node d := node_set_ne hdl
  rw [hn2, hnode]
  unfold Tr.set Tr.bump trOf
  simp only [Tr.mk.injEq]
  refine ⟨?_, ?_, by trivial⟩
  · funext n
    rw [find_snoc]
    by_cases e : n = d
    · subst e
      rw [if_pos rfl]
      have hfd : L.find? (fun r => r.f0 == n) = some q := by
        have := find_num h.uniq hq
        rw [hqd] at this
        exact this
      rw [hfd, hqe]
      simp only [Option.map_some, ndOf, hqd, hents, if_true]
    · rw [if_neg e]
      by_cases e2 : n = last + 1
      · subst e2
        rw [if_pos rfl, hf0]
        simp only [if_true, Option.map_some, ndOf, hents, if_neg e]
        rw [h.noEnts hf0]
      · rw [if_neg e2]
        cases hf : L.find? (fun r => r.f0 == n) with
        | none =>
          simp only [Option.map_none]
          rw [if_neg (fun e3 => e2 e3.symm)]
          rfl
        | some r =>
          have hrn : r.f0 = n := by simpa using List.find?_some hf
          simp only [Option.map_some, ndOf, hents, hrn, if_neg e]
  · simp only [hf0, Option.map_none, Option.isSome_none]
    have hfd : L.find? (fun r => r.f0 == d) = some q := by
      have := find_num h.uniq hq
      rw [hqd] at this
      exact this
    simp [hdl, hfd]
theorem good0 : GoodL [⟨1, 1, ⟨#[]⟩, 1, ⟨#[]⟩⟩] 1 := by
  refine ⟨by simp, by simp, List.pairwise_singleton _ _, List.pairwise_singleton _ _, (fun r hr => by rw [List.mem_singleton.1 hr]; exact Nat.zero_le _), (fun r hr => by rw [List.mem_singleton.1 hr]; rfl), ⟨_, List.mem_singleton.2 rfl, rfl, rfl, rfl⟩⟩
theorem T0_eq : T0 = trOf [⟨1, 1, ⟨#[]⟩, 1, ⟨#[]⟩⟩] 1 := by
  unfold T0 trOf
  simp only [Tr.mk.injEq]
  refine ⟨?_, by trivial, by trivial⟩
  funext n
  by_cases e : n = 1
  · subst e; rfl
  · rw [if_neg e, List.find?_cons, show ((1 : Int) == n) = false by simpa using (fun h => e h.symm)]; rfl
end Go.Proofs.Ytjfigngmpagloaa.Tw

namespace Go.Proofs.Ytjfigngmpagloaa.Tw
open Go Go.RowKit Go.Shelf Go.Proofs Go.Proofs.Ytjfigngmpagloaa Go.Proofs.YtjfigngmpagloaaW.PrintWords Go.Proofs.Ytjfigngmpagloaa.Ext Go.Proofs.Ytjfigngmpagloaa.X Go.Proofs.Ytjfigngmpagloaa.Pu
set_option linter.unusedVariables false
set_option linter.unusedSimpArgs false
theorem TreeB.two {w : World} {p B : Nat} {T : Tr} (h : TreeB w p B T) : w.heap[p]? = some (.cells #[.map (some B), .int .i64 T.last] 142 (0, 0)) ∧ ∃ es clock, w.heap[B]? = some (.map es clock) := by
  obtain ⟨sv, D, h⟩ := h
  exact ⟨h.ptr, h.mapB⟩
theorem RAt.frm {w w' : World} {p B : Nat} {T : Tr} {v : Value} {L : List RN} {last : Int} (h : RAt w v L last) (hT : TreeB w p B T) (hf : Frm w w' p B) : RAt w' v L last := by
  obtain ⟨hp, es, clock, hB⟩ := hT.two
  obtain ⟨A, c, e1, e2, hC⟩ := h
  refine ⟨A, c, e1, e2, hC.1, hC.2.1, fun hn => ?_⟩
  obtain ⟨ad, eA, hc⟩ := hC.2.2 hn
  have key : ∀ (q : List Value) (x : RN) (j : Nat), k97.K w x q → (∀ i u, q[i]? = some u → w.cell? (ad.add (j * k97.sz + i)) = some u) → ad.block < w.heap.size ∧ ad.block ≠ p ∧ ad.block ≠ B := by
    intro q x j hK hq
    obtain rfl := k97_open hK
    have h0 := hq 2 _ rfl
    have hbl : (ad.add (j * k97.sz + 2)).block = ad.block := by unfold Addr.add; split <;> rfl
    generalize ad.add (j * k97.sz + 2) = a0 at h0 hbl
    refine ⟨?_, ?_, ?_⟩
    · rw [← hbl]; exact block_lt_of_cell h0
    · intro e
      rw [e] at hbl
      obtain ⟨b, o, sp⟩ := a0
      subst hbl
      simp [World.cell?, hp] at h0
      cases sp with
      | none =>
        simp at h0
        match o, h0 with
        | 0, h0 => simp at h0
        | 1, h0 => simp at h0
        | n + 2, h0 => simp at h0
      | some q => simp at h0
    · intro e
      rw [e] at hbl
      obtain ⟨b, o, sp⟩ := a0
      subst hbl
      simp [World.cell?, hB] at h0
  refine ⟨ad, eA, fun j q hj => ?_⟩
  obtain ⟨cs, hl, hK, hq⟩ := hc j q hj
  obtain ⟨k1, k2, k3⟩ := key cs q j hK hq
  refine ⟨cs, hl, ?_, fun i u hu => ?_⟩
  · obtain rfl := k97_open hK
    exact k97_mk _ _
  · have := hq i u hu
    have hbl : (ad.add (j * k97.sz + i)).block = ad.block := by unfold Addr.add; split <;> rfl
    rw [← this]
    generalize ad.add (j * k97.sz + i) = a at hbl
    unfold World.cell?
    rw [hbl, hf.block _ k1 k2 k3]
theorem cells_frm {w w' : World} {p B k : Nat} {T : Tr} {cs : Array Value} {t : TypeId} {fr : Nat × Nat} (h : w.heap[k]? = some (.cells cs t fr)) (ht : t ≠ 142) (hT : TreeB w p B T) (hf : Frm w w' p B) : w'.heap[k]? = some (.cells cs t fr) := by
  obtain ⟨hp, es, clock, hB⟩ := hT.two
  refine (hf.block k (Array.getElem?_eq_some_iff.1 h).1 ?_ ?_).trans h
  · rintro rfl
    rw [hp] at h
    injection h with h
    injection h with _ h
    exact ht h.symm
  · rintro rfl
    rw [hB] at h
    cases h
end Go.Proofs.Ytjfigngmpagloaa.Tw

namespace Go.Proofs.Ytjfigngmpagloaa.Tw
open Go Go.RowKit Go.Shelf Go.Proofs Go.Proofs.Ytjfigngmpagloaa Go.Proofs.YtjfigngmpagloaaW.PrintWords Go.Proofs.Ytjfigngmpagloaa.Ext Go.Proofs.Ytjfigngmpagloaa.X Go.Proofs.Ytjfigngmpagloaa.Pu
set_option linter.unusedVariables false
set_option linter.unusedSimpArgs false
def putL (L : List RN) (last d : Int) (s : ByteArray) (kind : Int) (data : ByteArray) : List RN := if putRE L d s kind data = 0 then L ++ [⟨last + 1, d, s, kind, data⟩] else L
def putN (L : List RN) (last d : Int) (s : ByteArray) (kind : Int) (data : ByteArray) : Int := if putRE L d s kind data = 0 then last + 1 else last
def putA (L : List RN) (last d : Int) (s : ByteArray) (kind : Int) (data : ByteArray) : Int := if putRE L d s kind data = 0 then last + 1 else 0
theorem tput_calls (p B : Nat) (L : List RN) (last d : Int) (s : ByteArray) (kind : Int) (data : ByteArray) (w : World) (h : TreeB w p B (trOf L last)) (hG : GoodL L last) (hn : wf d) (hs : s.size < 4294967281) (hla : last < 1000000) :
    Calls Try.prog 46 #[pT p, .int .i64 d, .string s, .int .i64 kind, .string data] w fun e w' => e = .returned (.tuple #[.int .i64 (putA L last d s kind data), .int .i64 (putRE L d s kind data)]) ∧ TreeB w' p B (trOf (putL L last d s kind data) (putN L last d s kind data)) ∧ Frm w w' p B := by
  have hl : ((trOf L last).node d).ents.length < 4294967296 := by
    rw [node_of hG]
    have := ents_len L d
    have := hG.len
    show (entsOf L d).length < _
    omega
  have hR : Rt ((trOf L last).node d).ents := by rw [node_of hG]; exact hG.rt d
  have hq := putE_eq hG d s kind data
  by_cases he : putRE L d s kind data = 0
  · refine (put_ok p B (trOf L last) d s kind data w h hn hl hR hs ⟨by have := hG.last1; show 0 ≤ last; omega, hla⟩ (by
      show ((L.find? _).map _) = none
      rw [show (trOf L last).last = last from rfl, fresh hG (show last < last + 1 by omega)]; rfl) (hq.trans he)).mono ?_
    rintro e w' ⟨rfl, hT, hf⟩
    rw [putT_eq hG he] at hT
    unfold putA putL putN
    rw [if_pos he, if_pos he, if_pos he, he]
    exact ⟨rfl, hT, hf⟩
  · refine (put_err p B (trOf L last) d s kind data w h hn hl hR hs (by rw [hq]; exact he)).mono ?_
    rintro e w' ⟨rfl, hb⟩
    unfold putA putL putN
    rw [if_neg he, if_neg he, if_neg he, hq]
    exact ⟨rfl, h.below hb, Frm.ofBelow hb⟩
theorem rput_calls (L : List RN) (last d : Int) (v : Value) (s : ByteArray) (kind : Int) (data : ByteArray) (w : World) (h : RAt w v L last) (hG : GoodL L last) (hla : last < 1000000) :
    Calls Try.prog 47 #[v, .int .i64 d, .string s, .int .i64 kind, .string data] w fun e w' => ∃ v', e = .returned (.tuple #[v', .int .i64 (putA L last d s kind data), .int .i64 (putRE L d s kind data)]) ∧ RAt w' v' (putL L last d s kind data) (putN L last d s kind data) ∧ Below w.heap.size w w' := by
  by_cases he : putRE L d s kind data = 0
  · refine (rput_ok L last v d s kind data w h ⟨by have := hG.last1; omega, hla⟩ he).mono ?_
    rintro e w' ⟨v', rfl, hT, hf⟩
    unfold putA putL putN
    rw [if_pos he, if_pos he, if_pos he, he]
    exact ⟨v', rfl, hT, hf⟩
  · refine (rput_err L last v d s kind data w h (by have := hG.len; omega) he).mono ?_
    rintro e w' ⟨rfl, hb⟩
    unfold putA putL putN
    rw [if_neg he, if_neg he, if_neg he]
    exact ⟨v, rfl, h.below hb, hb⟩
theorem good_put {L : List RN} {last d : Int} {s : ByteArray} {kind : Int} {data : ByteArray} (hG : GoodL L last) : GoodL (putL L last d s kind data) (putN L last d s kind data) := by
  unfold putL putN
  by_cases he : putRE L d s kind data = 0
  · rw [if_pos he, if_pos he]; exact hG.put he
  · rw [if_neg he, if_neg he]; exact hG
abbrev MN := S89
def dirAt (nums : List Int) (x : MN) : Int := if 0 ≤ x.f0 ∧ x.f0 < (nums.length : Int) then nums.getD x.f0.toNat 0 else 1
structure MSt where
  L : List RN
  last : Int
  nums : List Int
def madeStep (st : MSt) (x : MN) : MSt :=
  ⟨putL st.L st.last (dirAt st.nums x) x.f1 x.f2 x.f3, putN st.L st.last (dirAt st.nums x) x.f1 x.f2 x.f3, st.nums ++ [putA st.L st.last (dirAt st.nums x) x.f1 x.f2 x.f3]⟩
def made0 : MSt := ⟨[⟨1, 1, ⟨#[]⟩, 1, ⟨#[]⟩⟩], 1, []⟩
def madeF (l : List MN) : MSt := l.foldl madeStep made0
structure MInv (st : MSt) (i : Nat) : Prop where
  good : GoodL st.L st.last
  len : st.nums.length = i
  last : st.last ≤ (i : Int) + 1
  nums : ∀ n ∈ st.nums, 0 ≤ n ∧ n ≤ st.last
theorem minv0 : MInv made0 0 := ⟨good0, rfl, by decide, by simp [made0]⟩
theorem dirAt_in {st : MSt} {i : Nat} (h : MInv st i) (x : MN) : 0 ≤ dirAt st.nums x ∧ dirAt st.nums x ≤ st.last := by
  unfold dirAt
  have h1 := h.good.last1
  split
  · rename_i hx
    have hlt : x.f0.toNat < st.nums.length := by omega
    rw [List.getD_eq_getElem?_getD, List.getElem?_eq_getElem hlt]
    exact h.nums _ (List.getElem_mem hlt)
  · omega
theorem minv_step {st : MSt} {i : Nat} (h : MInv st i) (x : MN) : MInv (madeStep st x) (i + 1) := by
  have h1 := h.good.last1
  have h2 := h.last
  have hle : st.last ≤ (madeStep st x).last ∧ (madeStep st x).last ≤ st.last + 1 := by
    show st.last ≤ putN _ _ _ _ _ _ ∧ putN _ _ _ _ _ _ ≤ st.last + 1
    unfold putN
    split <;> omega
  refine ⟨good_put h.good, by show (st.nums ++ [_]).length = i + 1; rw [List.length_append, h.len]; rfl, by omega, ?_⟩
  intro n hn
  rcases List.mem_append.1 hn with hn | hn
  · have := h.nums n hn; omega
  · have hn := List.mem_singleton.1 hn
    subst hn
    have : (madeStep st x).last = putN st.L st.last (dirAt st.nums x) x.f1 x.f2 x.f3 := rfl
    rw [this] at hle ⊢
    revert hle
    unfold putN putA
    split <;> omega
end Go.Proofs.Ytjfigngmpagloaa.Tw

namespace Go.Proofs.Ytjfigngmpagloaa.Tw
open Go Go.RowKit Go.Shelf Go.Proofs Go.Proofs.Ytjfigngmpagloaa Go.Proofs.YtjfigngmpagloaaW.PrintWords Go.Proofs.Ytjfigngmpagloaa.Ext Go.Proofs.Ytjfigngmpagloaa.X Go.Proofs.Ytjfigngmpagloaa.Pu
set_option linter.unusedVariables false
set_option linter.unusedSimpArgs false
structure GoodM (L : List RN) : Prop where
  nm : ∀ r ∈ L, r.f0 ≠ 1 → Sp.check r.f2.data.toList = 0
  link : ∀ r ∈ L, r.f3 = 3 → 0 < r.f4.size
  kind : ∀ r ∈ L, 1 ≤ r.f3 ∧ r.f3 ≤ 3
  dirs : ∀ r ∈ L, r.f3 = 1 → r.f4.size = 0
  rank : ∃ d : Int → Nat, (∀ n, d n ≤ L.length) ∧ ∀ r ∈ L, r.f0 ≠ 1 → d r.f1 < d r.f0
theorem mayE_more {kind : Int} {data : ByteArray} (h : mayE kind data = 0) : (1 ≤ kind ∧ kind ≤ 3) ∧ (kind = 3 → 0 < data.size) ∧ (kind = 1 → data.size = 0) := by
  unfold mayE at h
  split at h
  · cases h
  · split at h
    · cases h
    · rename_i h1 h2
      exact ⟨by omega, by omega, by omega⟩
theorem GoodM.put {L : List RN} {last : Int} (hG : GoodL L last) (h : GoodM L) {d : Int} {s : ByteArray} {kind : Int} {data : ByteArray} (he : putRE L d s kind data = 0) : GoodM (L ++ [⟨last + 1, d, s, kind, data⟩]) := by
  obtain ⟨z1, z2, z3, z4, z5⟩ := putRE_zero he
  have hk := dirE_zero z1
  have hm := mayE_more z4
  have old : ∀ n, (atR L n).f3 = 1 → n ≤ last := by
    intro n hn
    obtain ⟨q, hq, hqn, _⟩ := at_kind (L := L) (n := n) (by rw [hn]; decide)
    have := (hG.num q hq).2
    omega
  refine ⟨?_, ?_, ?_, ?_, ?_⟩
  · intro r hr h1
    rcases List.mem_append.1 hr with hr | hr
    · exact h.nm r hr h1
    · have : r = _ := List.mem_singleton.1 hr
      subst this
      exact z2
  · intro r hr h1
    rcases List.mem_append.1 hr with hr | hr
    · exact h.link r hr h1
    · have : r = _ := List.mem_singleton.1 hr
      subst this
      exact hm.2.1 h1
  · intro r hr
    rcases List.mem_append.1 hr with hr | hr
    · exact h.kind r hr
    · have : r = _ := List.mem_singleton.1 hr
      subst this
      exact hm.1
  · intro r hr h1
    rcases List.mem_append.1 hr with hr | hr
    · exact h.dirs r hr h1
    · have : r = _ := List.mem_singleton.1 hr
      subst this
      exact hm.2.2 h1
  · obtain ⟨rk, hb, hd⟩ := h.rank
    refine ⟨fun n => if n = last + 1 then rk d + 1 else rk n, fun n => ?_, ?_⟩
    · have h1 := hb n
      have h2 := hb d
      simp only [List.length_append, List.length_singleton]
      split <;> omega
    · intro r hr h1
      rcases List.mem_append.1 hr with hr | hr
      · have h2 := (hG.num r hr).2
        have h3 := old r.f1 (hG.up r hr)
        simp only []
        rw [if_neg (by omega), if_neg (by omega)]
        exact hd r hr h1
      · have : r = _ := List.mem_singleton.1 hr
        subst this
        have h3 := old d hk
        simp only []
        rw [if_neg (by omega), if_pos trivial]
        omega
theorem goodM0 : GoodM [⟨1, 1, ⟨#[]⟩, 1, ⟨#[]⟩⟩] := by
  refine ⟨fun r hr h => ?_, fun r hr h => ?_, fun r hr => ?_, fun r hr h => ?_, ⟨fun _ => 0, fun _ => Nat.zero_le _, fun r hr h => ?_⟩⟩ <;> rw [List.mem_singleton.1 hr] at *
  · exact absurd rfl h
  · cases h
  · decide
  · rfl
  · exact absurd rfl h
theorem goodM_put {L : List RN} {last d : Int} {s : ByteArray} {kind : Int} {data : ByteArray} (hG : GoodL L last) (h : GoodM L) : GoodM (putL L last d s kind data) := by
  unfold putL
  by_cases he : putRE L d s kind data = 0
  · rw [if_pos he]; exact h.put hG he
  · rw [if_neg he]; exact h
theorem fold_good : ∀ (l : List MN) (st : MSt) (i : Nat), MInv st i → GoodM st.L → MInv (l.foldl madeStep st) (i + l.length) ∧ GoodM (l.foldl madeStep st).L
  | [], st, i, h, m => ⟨h, m⟩
  | x :: l, st, i, h, m => by
    have := fold_good l (madeStep st x) (i + 1) (minv_step h x) (goodM_put h.good m)
    rw [List.foldl_cons, List.length_cons, show i + (l.length + 1) = i + 1 + l.length by omega]
    exact this
theorem made_good (l : List MN) : GoodL (madeF l).L (madeF l).last ∧ GoodM (madeF l).L ∧ (madeF l).last ≤ (l.length : Int) + 1 ∧ (madeF l).L.length ≤ l.length + 1 := by
  have h := fold_good l made0 0 minv0 goodM0
  rw [Nat.zero_add] at h
  refine ⟨h.1.good, h.2, h.1.last, ?_⟩
  have key : ∀ (l : List MN) (st : MSt), (l.foldl madeStep st).L.length ≤ st.L.length + l.length := by
    intro l
    induction l with
    | nil => intro st; simp
    | cons x l ih =>
      intro st
      have h1 := ih (madeStep st x)
      have h2 : (madeStep st x).L.length ≤ st.L.length + 1 := by
        show (putL _ _ _ _ _ _).length ≤ _
        unfold putL
        split <;> simp
      simp only [List.foldl_cons, List.length_cons]
      omega
  have := key l made0
  have h0 : made0.L.length = 1 := rfl
  unfold madeF
  omega
theorem inR_le {L : List RN} {last : Int} (h : GoodL L last) (d : Int) (s : ByteArray) : 0 ≤ inR L d s ∧ inR L d s ≤ last := by
  unfold inR
  cases hf : L.find? (inQ d s) with
  | none => have := h.last1; exact ⟨Int.le_refl _, by show (0 : Int) ≤ last; omega⟩
  | some r =>
    have := h.num r (List.mem_of_find?_eq_some hf)
    show 0 ≤ r.f0 ∧ r.f0 ≤ last
    omega
theorem inR_mem {L : List RN} {last : Int} (h : GoodL L last) {d : Int} {s : ByteArray} (hn : inR L d s ≠ 0) : ∃ r ∈ L, r.f0 = inR L d s ∧ r.f1 = d ∧ r.f2 = s ∧ r.f0 ≠ 1 ∧ atR L (inR L d s) = r := by
  unfold inR at hn ⊢
  cases hf : L.find? (inQ d s) with
  | none => rw [hf] at hn; exact absurd rfl hn
  | some r =>
    have hr := List.mem_of_find?_eq_some hf
    have hq := List.find?_some hf
    simp only [inQ, Bool.and_eq_true, beq_iff_eq, Bool.not_eq_true', beq_eq_false_iff_ne, toL_inj] at hq
    exact ⟨r, hr, rfl, hq.1, hq.2.1, hq.2.2, at_mem h hr⟩
theorem downT_of {L : List RN} {last : Int} (h : GoodL L last) (a : Int) (s : ByteArray) :
    downT (trOf L last) a s = if Sp.check s.data.toList = 0 then (if inR L a s = 0 then (0, 5) else (inR L a s, 0)) else (0, Sp.check s.data.toList) := by
  have h1 := inR_le h a s
  unfold downT
  rw [node_of h a]
  simp only [find_ents h a s, decide_eq_true_eq]
  by_cases h0 : inR L a s = 0
  · rw [if_neg (show ¬ 0 < inR L a s by omega), if_pos h0]
  · rw [if_pos (show 0 < inR L a s by omega), if_neg h0]
end Go.Proofs.Ytjfigngmpagloaa.Tw

namespace Go.Proofs.Ytjfigngmpagloaa.Tw
open Go Go.RowKit Go.Shelf Go.Proofs Go.Proofs.Ytjfigngmpagloaa Go.Proofs.YtjfigngmpagloaaW.PrintWords Go.Proofs.Ytjfigngmpagloaa.Ext Go.Proofs.Ytjfigngmpagloaa.X Go.Proofs.Ytjfigngmpagloaa.Pu
set_option linter.unusedVariables false
set_option linter.unusedSimpArgs false

theorem beginE_ok {s : ByteArray} (h : beginE s = 0) : s.size ≤ 1024 ∧ s.toList ≠ [] := by
  unfold beginE at h
  split at h
  · cases h
  · split at h
    · cases h
    · exact ⟨by omega, by assumption⟩
def findF (T : Tr) (last : Bool) (k : Nat) (s : ByteArray) : Option (Int × Int) :=
  if beginE s = 0 then (walkF T last k 1 0 (partsB s)).bind fun r => if r.2 = 0 then some (r.1, 0) else some (0, r.2) else some (0, beginE s)
theorem Wk.made {w : World} {p : Nat} {l : List ByteArray} {A : Option Addr} {c : Nat} (hr : Kd.C Kd.string w A l.length l) (hc : l.length ≤ c) :
    Wk (w.alloc (.cells #[pT p, .int .i64 1, .int .i64 0, .slice A l.length c] 113)) w.heap.size p 1 0 l A c :=
  ⟨World.alloc_heap_new w _, Kd.C_below hr ((Below.refl _ w).alloc (Nat.le_refl _) _), hc⟩
set_option maxHeartbeats 4000000 in
set_option maxRecDepth 1000000 in
theorem seekFind_calls (p : Nat) (T : Tr) (s : ByteArray) (last : Bool) (k : Nat) (R : Int × Int) (w : World) (hT : TreeAt w p T) (hO : TrOK T) (hR : findF T last k s = some R) :
    Calls Try.prog 24 #[pT p, .string s, .bool last] w fun e w' => e = .returned (.tuple #[.int .i64 R.1, .int .i64 R.2]) ∧ Below w.heap.size w w' := by
  have HBG := Lib.hid (fun W => begin_calls p s W)
  unfold findF at hR
  by_cases h0 : beginE s = 0
  · rw [if_pos h0] at hR
    rw [h0] at HBG
    obtain ⟨hz, -⟩ := beginE_ok h0
    obtain ⟨r, hr, hR⟩ := Option.bind_eq_some_iff.1 hR
    have HP := Lib.hid (fun W => path_Parts.calls s (partsB s) W (by rw [path_Parts.f, if_pos (by omega)]; rfl))
    have hpl := partsB_len' s
    have HW := Lib.hid (fun W g A c h1 h2 h3 => walk_calls w.heap.size w g p T hT hO last k 1 (partsB s) A c r W h1 h2 h3 wf1 (by omega) (fun x hx => Nat.le_trans (partsB_sz s x hx) (by omega)) hr)
    have HR := Lib.hid hR
    clear hT hR hr h0
    generalize partsB s = l at HP HW hpl
    obtain ⟨rn, re⟩ := r
    simp only [] at HR
    go_enter Try.func24, Try.ntmps24
    go_upto_region 5 with (first | (go_at_call 57; refine (HBG.out _).mono ?_; rintro e w2 ⟨rfl, rfl⟩) | (go_at_call 58; refine (HP.out _).mono ?_; rintro e w3 ⟨v, rfl, ho, hb3⟩; obtain ⟨A3, c3, rfl, hl3, hC3⟩ := Kd.R_reads ho; have HC3 := Lib.hid hC3; have HB3 := Lib.hid hb3; have HL3 := Lib.hid hl3; clear ho hC3 hb3 hl3))
    have hk := Wk.made (p := p) HC3.out HL3.out
    have hB : Below w.heap.size w (w3.alloc (.cells #[pT p, .int .i64 1, .int .i64 0, .slice A3 l.length c3] 113)) := HB3.out.alloc HB3.out.size _
    have hg : w.heap.size ≤ w3.heap.size := HB3.out.size
    generalize w3.alloc (.cells #[pT p, .int .i64 1, .int .i64 0, .slice A3 l.length c3] 113) = w4 at hk hB ⊢
    generalize w3.heap.size = g at hk hg ⊢
    have HWK := Lib.hid (HW.out w4 g A3 c3 hk hB hg)
    clear hk hB HW HC3 HB3 HL3
    by_cases he : re = 0
    · subst he
      rw [if_pos rfl] at HR
      go_upto_region 8 with (go_at_call 59; refine HWK.out.mono ?_; rintro e w5 ⟨rfl, hw5⟩)
      obtain ⟨hq, hb5⟩ := hw5
      obtain ⟨h5, l5, A5, c5, hk5⟩ := hq rfl
      obtain ⟨c0, c1, c2, c3⟩ := hk5.cells
      have HB5 := Lib.hid hb5
      have hR := Option.some.inj HR.out
      subst hR
      clear hk5 hq hb5
      go_wp2
      go_ret2
      exact ⟨rfl, HB5.out⟩
    · rw [if_neg he] at HR
      have b3 : (re != 0) = true := bne_iff_ne.2 he
      have hR := Option.some.inj HR.out
      subst hR
      clear he
      go_wp2_with (go_at_call 59; refine HWK.out.mono ?_; rintro e w5 ⟨rfl, hw5⟩)
      go_ret2
      exact ⟨rfl, hw5.2⟩
  · rw [if_neg h0] at hR
    have hR := Option.some.inj hR
    subst hR
    have b3 : (beginE s != 0) = true := bne_iff_ne.2 h0
    generalize beginE s = e0 at HBG b3
    clear h0 hT
    go_enter Try.func24, Try.ntmps24
    go_wp2_with (first | (go_at_call 57; refine (HBG.out _).mono ?_; rintro e w2 ⟨rfl, rfl⟩))
    go_ret2
    exact ⟨rfl, Below.refl _ _⟩
end Go.Proofs.Ytjfigngmpagloaa.Tw

namespace Go.Proofs.Ytjfigngmpagloaa.Tw
open Go Go.RowKit Go.Shelf Go.Proofs Go.Proofs.Ytjfigngmpagloaa Go.Proofs.YtjfigngmpagloaaW.PrintWords Go.Proofs.Ytjfigngmpagloaa.Ext Go.Proofs.Ytjfigngmpagloaa.X Go.Proofs.Ytjfigngmpagloaa.Pu
set_option linter.unusedVariables false
set_option linter.unusedSimpArgs false

set_option maxHeartbeats 4000000 in
set_option maxRecDepth 1000000 in
theorem cloneS_calls (A : Option Addr) (c : Nat) (l : List ByteArray) (w : World) (hr : Kd.C Kd.string w A l.length l) (hc : l.length ≤ c) (hl : l.length < 4294967296) :
    Calls Try.prog 62 #[.slice A l.length c] w fun e w' => ∃ v, e = .returned v ∧ Kd.R Kd.string 9 w' w.heap.size (fun _ => True) v l ∧ Below w.heap.size w w' := by
  have hq := fun W => Lib.run_eql_slice_nil (P := Try.prog) W 42 9 A l.length c 0 0 Try.underlying42
  have HR := Lib.hid hr
  have HRE := Lib.hid (R_empty Kd.string 9 w w.heap.size (Nat.le_refl _))
  have HB := Lib.hid ((Below.refl w.heap.size w).alloc (Nat.le_refl _) (.cells #[] 9))
  cases A with
  | none =>
    have h0 : l = [] := by
      cases l with
      | nil => rfl
      | cons a b => obtain ⟨ad, e, _⟩ := hr.2.2 (by simp); cases e
    subst h0
    clear hr HR hq
    have hq := fun W => Lib.run_eql_slice_nil (P := Try.prog) W 42 9 none 0 c 0 0 Try.underlying42
    simp only [Option.isNone_none] at hq
    go_enter Try.func62, Try.ntmps62
    go_wp2
    go_ret
    exact ⟨_, rfl, Kd.R_nil _ _ _ _ _, Below.refl _ _⟩
  | some ad =>
    clear hr
    simp only [Option.isNone_some] at hq
    go_enter Try.func62, Try.ntmps62
    go_wp2_with ((with_reducible refine gate_builtin (b := .append) (xs := #[.tmp 5, .tmp 6]) rfl ?_); at_builtin; refine Kd.R_append_rows Kd.string (w0 := w) w.heap.size rfl (.tmp 5) (.tmp 6) 42 9 (.string ⟨#[]⟩) 16 rfl Try.underlying42 infoS rfl (by decide) (by omega) _ [] l _ _ _ (fun _ => True) (fun _ => False) rfl rfl HRE.out (Kd.C_below HR.out HB.out) (fun _ _ h => h) (fun _ h => h.elim) (fun _ _ => trivial) HB.out (by simp) (by simp; omega) ?_; intro v1 w1 ho hb hg hat)
    go_ret
    exact ⟨_, rfl, ho, hb⟩

abbrev R3 := Int × ByteArray × Int
def noS (e : Int) : R3 := (0, ⟨#[]⟩, e)
def spotF (T : Tr) (k : Nat) (s : ByteArray) : Option R3 :=
  if beginE s = 0 then
    match (partsB s).getLast? with
    | none => some (noS 6)
    | some z => if z.toList = [46, 46] then some (noS 6) else (walkF T true k 1 0 (partsB s).dropLast).bind fun r =>
        if r.2 = 0 then (if (T.node r.1).kind = 1 then (if Sp.check z.data.toList = 0 then some (r.1, z, 0) else some (noS (Sp.check z.data.toList))) else some (noS 7)) else some (noS r.2)
  else some (noS (beginE s))
theorem walkF_wf {T : Tr} (hO : TrOK T) (last : Bool) : ∀ (k : Nat) (a h : Int) (l : List ByteArray) (R : Int × Int), wf a → walkF T last k a h l = some R → wf R.1 := by
  intro k
  induction k with
  | zero => intro a h l R _ hR; simp [walkF] at hR
  | succ k ih =>
    intro a h l R ha hR
    cases l with
    | nil => simp only [walkF, Option.some.injEq] at hR; subst hR; exact ha
    | cons s l =>
      simp only [walkF] at hR
      split at hR
      · cases hR; exact ha
      · split at hR
        · exact ih _ _ _ _ (hO.wf_up a) hR
        · split at hR
          · cases hR; exact ha
          · split at hR
            · exact ih _ _ _ _ (hO.wf_down a s) hR
            · split at hR
              · cases hR; exact ha
              · refine ih _ _ _ _ ?_ hR
                split
                · exact wf1
                · exact ha
set_option maxHeartbeats 8000000 in
set_option maxRecDepth 1000000 in
theorem spot_calls (p : Nat) (T : Tr) (s : ByteArray) (k : Nat) (R : R3) (w : World) (hT : TreeAt w p T) (hO : TrOK T) (hR : spotF T k s = some R) :
    Calls Try.prog 26 #[pT p, .string s] w fun e w' => e = .returned (.tuple #[.int .i64 R.1, .string R.2.1, .int .i64 R.2.2]) ∧ Below w.heap.size w w' := by
  have HBG := Lib.hid (fun W => begin_calls p s W)
  unfold spotF at hR
  by_cases h0 : beginE s = 0
  · rw [if_pos h0] at hR
    rw [h0] at HBG
    obtain ⟨hz, -⟩ := beginE_ok h0
    have HP := Lib.hid (fun W => path_Parts.calls s (partsB s) W (by rw [path_Parts.f, if_pos (by omega)]; rfl))
    have hpl := partsB_len' s
    have hps := partsB_sz s
    generalize partsB s = l at hR HP hpl hps
    clear h0
    rcases List.eq_nil_or_concat l with rfl | ⟨ini, z, rfl⟩
    · have hR := Option.some.inj hR
      subst hR
      go_enter Try.func26, Try.ntmps26
      go_wp2_with (first | (go_at_call 57; refine (HBG.out _).mono ?_; rintro e w2 ⟨rfl, rfl⟩) | (go_at_call 58; refine (HP.out _).mono ?_; rintro e w3 ⟨v, rfl, ho, hb3⟩; obtain ⟨A3, c3, rfl, hl3, hC3⟩ := Kd.R_reads ho; clear ho hC3))
      go_ret3
      exact ⟨rfl, hb3⟩
    · rw [List.concat_eq_append] at *
      rw [List.getLast?_concat, List.dropLast_concat] at hR
      simp only [] at hR
      have hlen : (ini ++ [z]).length = ini.length + 1 := by simp
      by_cases hdd : z.toList = [46, 46]
      · rw [if_pos hdd] at hR
        have hR := Option.some.inj hR
        subst hR
        have b2 : (z.toList == [46, 46]) = true := by rw [hdd]; rfl
        go_enter Try.func26, Try.ntmps26
        go_upto_region 6 with (first | (go_at_call 57; refine (HBG.out _).mono ?_; rintro e w2 ⟨rfl, rfl⟩) | (go_at_call 58; refine (HP.out _).mono ?_; rintro e w3 ⟨v, rfl, ho, hb3⟩; obtain ⟨A3, c3, rfl, hl3, hC3⟩ := Kd.R_reads ho; have HC3 := Lib.hid hC3; clear ho hC3))
        obtain ⟨ad, eA, x0⟩ := Kd.at_string HC3.out (ini.length : Int) (by omega) (by simp; omega)
        have e0 : rdOf ByteArray.empty (ini ++ [z]) (ini.length : Int) = z := by simp [rdOf]
        rw [e0, Int.toNat_natCast] at x0
        subst eA
        have d0 : decide ((ini.length : Int) < 0) = false := decide_eq_false (by omega)
        have i0 : (0 : Int) ≤ (ini.length : Int) := by omega
        have i1 : (ini.length : Int) < (ini.length : Int) + 1 := by omega
        have i2 : (ini.length : Int) ≤ (ini.length : Int) + 1 := by omega
        clear e0
        go_wp2
        go_ret3
        exact ⟨rfl, hb3⟩
      · rw [if_neg hdd] at hR
        have b2 : (z.toList == [46, 46]) = false := by simpa using hdd
        clear hdd
        obtain ⟨r, hr, hR⟩ := Option.bind_eq_some_iff.1 hR
        have hwr := walkF_wf hO true k 1 0 ini r wf1 hr
        have HW := Lib.hid (fun w4 (hT4 : TreeAt w4 p T) W g A c h1 h2 h3 => walk_calls w4.heap.size w4 g p T hT4 hO true k 1 ini A c r W h1 h2 h3 wf1 (by simp at hpl; omega) (fun x hx => Nat.le_trans (hps x (List.mem_append_left _ hx)) (by omega)) hr)
        have HT := Lib.hid hT
        have HR := Lib.hid hR
        have hzz : z.size < 4294967281 := by have := hps z (by simp); omega
        have HCK := Lib.hid (fun W => name_Check.calls z (Sp.check z.data.toList) W (by rw [name_Check.f, if_pos hzz]))
        have HKD := Lib.hid (fun W (h : TreeAt W p T) => kind_calls p T r.1 W h hwr)
        have hini : ini.length < 4294967296 := by simp at hpl; omega
        clear hT hR hr hps hwr
        obtain ⟨rn, re⟩ := r
        simp only [] at HR HKD
        go_enter Try.func26, Try.ntmps26
        go_upto_region 6 with (first | (go_at_call 57; refine (HBG.out _).mono ?_; rintro e w2 ⟨rfl, rfl⟩) | (go_at_call 58; refine (HP.out _).mono ?_; rintro e w3 ⟨v, rfl, ho, hb3⟩; obtain ⟨A3, c3, rfl, hl3, hC3⟩ := Kd.R_reads ho; have HC3 := Lib.hid hC3; clear ho hC3))
        obtain ⟨ad, eA, x0⟩ := Kd.at_string HC3.out (ini.length : Int) (by omega) (by simp; omega)
        have e0 : rdOf ByteArray.empty (ini ++ [z]) (ini.length : Int) = z := by simp [rdOf]
        rw [e0, Int.toNat_natCast] at x0
        subst eA
        have d0 : decide ((ini.length : Int) < 0) = false := decide_eq_false (by omega)
        have i0 : (0 : Int) ≤ (ini.length : Int) := by omega
        have i1 : (ini.length : Int) < (ini.length : Int) + 1 := by omega
        have i2 : (ini.length : Int) ≤ (ini.length : Int) + 1 := by omega
        clear e0
        have X0 := Lib.hid x0
        have HB3 := Lib.hid hb3
        have hct := Kd.C_take (m := ini.length) HC3.out (by simp)
        rw [List.take_left] at hct
        have HCT := Lib.hid hct
        clear hct hb3
        go_upto_region 9 with (go_at_call 62; refine (cloneS_calls _ _ ini _ HCT.out (by simp at hl3; omega) hini).mono ?_; rintro e w4 ⟨v4, rfl, ho4, hb4⟩; obtain ⟨A4, c4, rfl, hl4, hC4⟩ := Kd.R_reads ho4; have HC4 := Lib.hid hC4; have HB4 := Lib.hid (HB3.out.trans (hb4.mono HB3.out.size)); have x4 := pw_cell_below hb4 X0.out; clear ho4 hC4 hb4)
        have hk := Wk.made (p := p) HC4.out hl4
        have hB : Below w4.heap.size w4 (w4.alloc (.cells #[pT p, .int .i64 1, .int .i64 0, .slice A4 ini.length c4] 113)) := (Below.refl _ w4).alloc (Nat.le_refl _) _
        have hg : w4.heap.size ≤ w4.heap.size := Nat.le_refl _
        generalize w4.alloc (.cells #[pT p, .int .i64 1, .int .i64 0, .slice A4 ini.length c4] 113) = w5 at hk hB ⊢
        have HWK := Lib.hid (HW.out w4 (HT.out.below HB4.out) w5 w4.heap.size A4 c4 hk hB hg)
        have X4 := Lib.hid x4
        clear hk hB hg HW HC4 x0 x4 hl4 HCT
        generalize hgg : w4.heap.size = g at HWK ⊢
        have HG := Lib.hid hgg
        clear hgg
        by_cases he : re = 0
        · subst he
          rw [if_pos rfl] at HR
          by_cases hkd : (T.node rn).kind = 1
          · rw [if_pos hkd] at HR
            rw [hkd] at HKD
            clear hkd
            generalize Sp.check z.data.toList = ck at HR HCK
            by_cases hc0 : ck = 0
            · subst hc0
              rw [if_pos rfl] at HR
              have hR := Option.some.inj HR.out
              subst hR
              go_upto_region 17 with (first | (go_at_call 59; refine HWK.out.mono ?_; rintro e w6 ⟨rfl, hw6⟩; obtain ⟨hq, hb6⟩ := hw6; obtain ⟨h6, l6, A6, c6, hk6⟩ := hq rfl; have y6 := pw_cell_below hb6 X4.out; obtain ⟨c0, c1, c2, c3⟩ := hk6.cells; have HK6 := Lib.hid hk6; have HB6 := Lib.hid (HB4.out.trans (hb6.mono HB4.out.size)); clear hk6 hq) | (go_at_call 41; refine (HKD.out _ (HT.out.below HB6.out)).mono ?_; rintro e w7 ⟨rfl, hb7⟩; have y7 := pw_cell_below hb7 y6; have c17 := pw_cell_below hb7 c1; have HB7 := Lib.hid (HB6.out.trans (hb7.mono HB6.out.size))) | (go_at_call 63; refine (HCK.out _).mono ?_; rintro e w8 ⟨rfl, hb8⟩; have y8 := pw_cell_below hb8 y7; have c18 := pw_cell_below hb8 c17; have HB8 := Lib.hid (HB7.out.trans (hb8.mono HB7.out.size))))
              clear hb6 hb7 hb8 y6 y7 c0 c1 c2 c3 c17
              go_quiet (fail)
              go_wp2
              go_ret3
              exact ⟨rfl, pw_below_drewN HB8.out nq⟩
            · rw [if_neg hc0] at HR
              have b6 : (ck != 0) = true := bne_iff_ne.2 hc0
              have hR := Option.some.inj HR.out
              subst hR
              clear hc0
              go_wp2_with (first | (go_at_call 59; refine HWK.out.mono ?_; rintro e w6 ⟨rfl, hw6⟩; obtain ⟨hq, hb6⟩ := hw6; obtain ⟨h6, l6, A6, c6, hk6⟩ := hq rfl; have y6 := pw_cell_below hb6 X4.out; obtain ⟨c0, c1, c2, c3⟩ := hk6.cells; have HK6 := Lib.hid hk6; have HB6 := Lib.hid (HB4.out.trans (hb6.mono HB4.out.size)); clear hk6 hq) | (go_at_call 41; refine (HKD.out _ (HT.out.below HB6.out)).mono ?_; rintro e w7 ⟨rfl, hb7⟩; have y7 := pw_cell_below hb7 y6; have c17 := pw_cell_below hb7 c1; have HB7 := Lib.hid (HB6.out.trans (hb7.mono HB6.out.size))) | (go_at_call 63; refine (HCK.out _).mono ?_; rintro e w8 ⟨rfl, hb8⟩; have y8 := pw_cell_below hb8 y7; have c18 := pw_cell_below hb8 c17; have HB8 := Lib.hid (HB7.out.trans (hb8.mono HB7.out.size))))
              go_ret3
              exact ⟨rfl, HB8.out⟩
          · rw [if_neg hkd] at HR
            have b5 : ((T.node rn).kind != 1) = true := bne_iff_ne.2 hkd
            generalize (T.node rn).kind = kd at HKD b5
            have hR := Option.some.inj HR.out
            subst hR
            clear hkd
            go_wp2_with (first | (go_at_call 59; refine HWK.out.mono ?_; rintro e w6 ⟨rfl, hw6⟩; obtain ⟨hq, hb6⟩ := hw6; obtain ⟨h6, l6, A6, c6, hk6⟩ := hq rfl; have y6 := pw_cell_below hb6 X4.out; obtain ⟨c0, c1, c2, c3⟩ := hk6.cells; have HK6 := Lib.hid hk6; have HB6 := Lib.hid (HB4.out.trans (hb6.mono HB4.out.size)); clear hk6 hq) | (go_at_call 41; refine (HKD.out _ (HT.out.below HB6.out)).mono ?_; rintro e w7 ⟨rfl, hb7⟩; have y7 := pw_cell_below hb7 y6; have c17 := pw_cell_below hb7 c1; have HB7 := Lib.hid (HB6.out.trans (hb7.mono HB6.out.size))))
            go_ret3
            exact ⟨rfl, HB7.out⟩
        · rw [if_neg he] at HR
          have b4 : (re != 0) = true := bne_iff_ne.2 he
          have hR := Option.some.inj HR.out
          subst hR
          clear he
          go_wp2_with (go_at_call 59; refine HWK.out.mono ?_; rintro e w6 ⟨rfl, hw6⟩)
          go_ret3
          exact ⟨rfl, HB4.out.trans (hw6.2.mono HB4.out.size)⟩
  · rw [if_neg h0] at hR
    have hR := Option.some.inj hR
    subst hR
    have b3 : (beginE s != 0) = true := bne_iff_ne.2 h0
    generalize beginE s = e0 at HBG b3
    clear h0 hT
    go_enter Try.func26, Try.ntmps26
    go_wp2_with (first | (go_at_call 57; refine (HBG.out _).mono ?_; rintro e w2 ⟨rfl, rfl⟩))
    go_ret3
    exact ⟨rfl, Below.refl _ _⟩
end Go.Proofs.Ytjfigngmpagloaa.Tw
