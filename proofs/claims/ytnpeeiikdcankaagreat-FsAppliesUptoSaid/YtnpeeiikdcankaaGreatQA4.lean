/- Texts of this session, merged: X10, GoBoth, Real, RealC, Straight, Chain, KeepC, NoStr, Made, Rspot, Lives08, Law08, PosA, PosB, PosC, PosD, X8, PosP, PosQ, PosL. -/
import Derived.Test.YtnpeeiikdcankaaGreatQA0
import Derived.Test.YtnpeeiikdcankaaGreatQA1
import Derived.Test.YtnpeeiikdcankaaGreatQA2
import Derived.Test.YtnpeeiikdcankaaGreatQA3
import Derived.Maps.AppendAt
set_option linter.unusedVariables false
set_option linter.unusedSimpArgs false

set_option maxHeartbeats 8000000
set_option maxRecDepth 1000000
namespace Go.Proofs.YtnpeeiikdcankaaGreat.X
open Go.RowKit Go.Proofs.YtnpeeiikdcankaaGreatW.PrintWords Go.Proofs.YtnpeeiikdcankaaGreatW.PrintLast Go.Proofs.YtnpeeiikdcankaaGreatW.PrintMore Go.Proofs.YtnpeeiikdcankaaGreat.Ext
attribute [local go_sem] max2_int min2_int max_two min_two max_three min_three max_four min_four
def linhayref08_Find.f (k : Nat) (l0_0 : List (S106)) (a0_1 : Int) (a1 : ByteArray) (a2 : Bool) : Option (Int × Int) := if a1.toList = ([] : List UInt8) then (some (0, 5)) else (if (a1.size : Int) > 1024 then (some (0, 11)) else ((linhayref04_Parts.f k a1).bind fun t242 => ((linhayref08_Go.f k l0_0 a0_1 1 t242 a2 0).bind fun bt245 => (some (bt245.1, bt245.2.2)))))
def linhayref08_Find.T5 : Bool × List (List Nat × List Nat) := (true, [([], []), ([], []), ([1], [1]), ([], []), ([0, 2, 3, 2], [0, 2, 3]), ([4], [4]), ([5], [5]), ([5], [5]), ([5], [5]), ([6, 4, 0, 1, 2, 3, 4, 5, 6], [6]), ([7, 9, 0, 1, 2, 3, 4, 5, 6, 7, 9], [7]), ([8, 10, 0, 1, 2, 3, 4, 5, 6, 7, 8, 9, 10], [8])])
def linhayref08_Find.B5 : List Nat := [0, 0, 2, 0, 15, 31, 63, 63, 63, 127, 767, 2047]
theorem linhayref08_Find.tab5 : rtab .any (opsOf Tryz.f110 5) = linhayref08_Find.T5 := by kernel_rfl
theorem linhayref08_Find.bits5 : waitsOk linhayref08_Find.T5.2 linhayref08_Find.B5 = true := by kernel_rfl
theorem linhayref08_Find.calls (k : Nat) (A0_0 : Option Addr) (c0_0 : Nat) (l0_0 : List (S106)) (a0_1 : Int) (a1 : ByteArray) (a2 : Bool) (r1 : Int) (r2 : Int) (w : World) (hr0_0 : Kd.C k106 w A0_0 l0_0.length l0_0) (hc0_0 : l0_0.length ≤ c0_0) (h : linhayref08_Find.f k l0_0 a0_1 a1 a2 = some (r1, r2)) :
  Calls Tryz.prog 110 #[.agg #[.slice A0_0 l0_0.length c0_0, .int .i64 a0_1], .string a1, .bool a2] w fun e w' => e = .returned (.tuple #[.int .i64 r1, .int .i64 r2]) ∧ Below w.heap.size w w' := by
 have hu36 := Tryz.underlying36
 have hu49 := Tryz.underlying49
 have hu66 := Tryz.underlying66
 have hu93 := Tryz.underlying93
 have hu106 := Tryz.underlying106
 have hu115 := Tryz.underlying115
 have hu130 := Tryz.underlying130
 have hu162 := Tryz.underlying162
 have hu30 := Tryz.underlying30
 have HR0_0 := qa hr0_0
 have HC0_0 := qa hc0_0
 clear hr0_0 hc0_0
 have HB := qa (Below.refl w.heap.size w)
 have H : (if a1.toList = ([] : List UInt8) then (some (0, 5)) else (if (a1.size : Int) > 1024 then (some (0, 11)) else ((linhayref04_Parts.f k a1).bind fun t242 => ((linhayref08_Go.f k l0_0 a0_1 1 t242 a2 0).bind fun bt245 => (some (bt245.1, bt245.2.2)))))) = some (r1, r2) := h
 clear h
 by_cases c4 : a1.toList = ([] : List UInt8)
 ·
  rw [if_pos c4] at H
  have c4b0 : (a1.toList == ([] : List UInt8)) = true := beq_iff_eq.mpr c4
  have c4b1 : (a1.toList != ([] : List UInt8)) = false := bne_eq_false_iff_eq.mpr c4
  clear c4
  simp only [Option.some.injEq, Prod.mk.injEq] at H
  obtain ⟨rfl, rfl⟩ := H
  go_enter Tryz.func110, Tryz.ntmps110
  go_wp2_with (first | ((with_reducible refine gate_dst (N := 3) rfl ?_); refine box_event ?hg (N := 3) ?hd (cs := #[.slice A0_0 l0_0.length c0_0, .int .i64 a0_1]) (t := 30) ?hr ?_; (case hd => rfl); (case hg => rfl); (case hr => first | (go_simp; done) | (go_simp; rfl)); intro gb241 hg w5 hbox hb; have n0_ := qa (below_step (by repeat (first | (with_reducible first | exact HB.out | apply below_alloc | apply pw_below_drewN | apply below_drew1) | exact HB.out)) hb); have n1_ := qa (hbox); have n2_ := qa ((by rw [hg]; exact (below_size (by repeat (first | (with_reducible first | exact HB.out | apply below_alloc | apply pw_below_drewN | apply below_drew1) | exact HB.out))) : w.heap.size ≤ gb241)); have n3_ := qa ((by rw [hg]; exact (below_size (by repeat (first | (with_reducible first | exact HB.out | apply below_alloc | apply pw_below_drewN | apply below_drew1) | exact HB.out))) : w.heap.size ≤ gb241)); clear HB; have HB := n0_; have BK241 := n1_; have GW241 := n2_; have GE241 := n3_; clear n0_ n1_ n2_ n3_; clear hb hbox hg))
  go_ret2
  exact ⟨by first | rfl | (simp [errW_none, errW_some] <;> rfl) | (simp [*, errW_none, errW_some] <;> rfl) | (simp [errW_none, errW_some, bne_nil]; done) | (simp [*, bne_nil]; done) | (simp [bne]; done), by repeat (first | (with_reducible first | exact HB.out | apply below_alloc | apply pw_below_drewN | apply below_drew1 | refine below_set ?_ GE241.out) | exact HB.out)⟩
 ·
  rw [if_neg c4] at H
  have c4b0 : (a1.toList == ([] : List UInt8)) = false := beq_eq_false_iff_ne.mpr c4
  have c4b1 : (a1.toList != ([] : List UInt8)) = true := bne_iff_ne.mpr c4
  by_cases c6 : (a1.size : Int) > 1024
  ·
   rw [if_pos c6] at H
   have c6b0 : decide (1024 < (a1.size : Int)) = true := decide_eq_true c6
   have c6b1 : decide (1024 < a1.size) = true := decide_eq_true (by omega)
   clear c6
   simp only [Option.some.injEq, Prod.mk.injEq] at H
   obtain ⟨rfl, rfl⟩ := H
   go_enter Tryz.func110, Tryz.ntmps110
   go_wp2_with (first | ((with_reducible refine gate_dst (N := 3) rfl ?_); refine box_event ?hg (N := 3) ?hd (cs := #[.slice A0_0 l0_0.length c0_0, .int .i64 a0_1]) (t := 30) ?hr ?_; (case hd => rfl); (case hg => rfl); (case hr => first | (go_simp; done) | (go_simp; rfl)); intro gb241 hg w7 hbox hb; have n0_ := qa (below_step (by repeat (first | (with_reducible first | exact HB.out | apply below_alloc | apply pw_below_drewN | apply below_drew1) | exact HB.out)) hb); have n1_ := qa (hbox); have n2_ := qa ((by rw [hg]; exact (below_size (by repeat (first | (with_reducible first | exact HB.out | apply below_alloc | apply pw_below_drewN | apply below_drew1) | exact HB.out))) : w.heap.size ≤ gb241)); have n3_ := qa ((by rw [hg]; exact (below_size (by repeat (first | (with_reducible first | exact HB.out | apply below_alloc | apply pw_below_drewN | apply below_drew1) | exact HB.out))) : w.heap.size ≤ gb241)); clear HB; have HB := n0_; have BK241 := n1_; have GW241 := n2_; have GE241 := n3_; clear n0_ n1_ n2_ n3_; clear hb hbox hg))
   go_ret2
   exact ⟨by first | rfl | (simp [errW_none, errW_some] <;> rfl) | (simp [*, errW_none, errW_some] <;> rfl) | (simp [errW_none, errW_some, bne_nil]; done) | (simp [*, bne_nil]; done) | (simp [bne]; done), by repeat (first | (with_reducible first | exact HB.out | apply below_alloc | apply pw_below_drewN | apply below_drew1 | refine below_set ?_ GE241.out) | exact HB.out)⟩
  ·
   rw [if_neg c6] at H
   have c6b0 : decide (1024 < (a1.size : Int)) = false := decide_eq_false c6
   have c6b1 : decide (1024 < a1.size) = false := decide_eq_false (by omega)
   clear c6
   replace H := Option.bind_eq_some_iff.mp H
   obtain ⟨t242, A80, H⟩ := H
   replace H : ((linhayref08_Go.f k l0_0 a0_1 1 t242 a2 0).bind fun bt245 => (some (bt245.1, bt245.2.2))) = some (r1, r2) := H
   have A8 := qa A80
   clear A80
   replace H := Option.bind_eq_some_iff.mp H
   obtain ⟨⟨t245, t246, t247⟩, A90, H⟩ := H
   replace H : (some (t245, t247)) = some (r1, r2) := H
   have A9 := qa A90
   clear A90
   simp only [Option.some.injEq, Prod.mk.injEq] at H
   obtain ⟨rfl, rfl⟩ := H
   go_enter Tryz.func110, Tryz.ntmps110
   try go_wp2_with (first | ((with_reducible refine gate_dst (N := 3) rfl ?_); refine box_event ?hg (N := 3) ?hd (cs := #[.slice A0_0 l0_0.length c0_0, .int .i64 a0_1]) (t := 30) ?hr ?_; (case hd => rfl); (case hg => rfl); (case hr => first | (go_simp; done) | (go_simp; rfl)); intro gb241 hg w10 hbox hb; have n0_ := qa (below_step (by repeat (first | (with_reducible first | exact HB.out | apply below_alloc | apply pw_below_drewN | apply below_drew1) | exact HB.out)) hb); have n1_ := qa (hbox); have n2_ := qa ((by rw [hg]; exact (below_size (by repeat (first | (with_reducible first | exact HB.out | apply below_alloc | apply pw_below_drewN | apply below_drew1) | exact HB.out))) : w.heap.size ≤ gb241)); have n3_ := qa ((by rw [hg]; exact (below_size (by repeat (first | (with_reducible first | exact HB.out | apply below_alloc | apply pw_below_drewN | apply below_drew1) | exact HB.out))) : w.heap.size ≤ gb241)); clear HB; have HB := n0_; have BK241 := n1_; have GW241 := n2_; have GE241 := n3_; clear n0_ n1_ n2_ n3_; clear hb hbox hg))
   have n0_ := qa (blk_drew BK241.out)
   have n1_ := qa (below_drew1 HB.out)
   clear BK241
   clear HB
   have BK241 := n0_
   have HB := n1_
   clear n0_ n1_
   refine start_ (n := 12) (S := fun w' => w'.cell? ⟨gb241, 0, none⟩ = some (.slice A0_0 l0_0.length c0_0) ∧ w'.cell? ⟨gb241, 1, none⟩ = some (.int .i64 a0_1)) (ds := []) #[false, false, false, false, false, false, false, false, false, false, false, false] (by kernel_rfl) rfl rfl ⟨(blk_cell BK241.out 0).trans rfl, (blk_cell BK241.out 1).trans rfl⟩ (fun hHeld => ?_); refine with_tabW linhayref08_Find.tab5 linhayref08_Find.bits5 (fun HT_ HW_ => ?_)
   generalize w10.drew = w11 at BK241 HB hHeld ⊢
   refine pure_ (i := 1) (N := some 18) (v := ?_) (a' := ?_) #[false, true, false, false, false, false, false, false, false, false, false, false] rfl rfl (any_of HT_.out (by kernel_rfl)) (fun _ _ _ h => h) (Or.inl ⟨by rfl, ?_⟩) ?_ ?_
   rotate_left
   ·
    intro w'
    go_simp
    with_reducible rfl
   rotate_left
   ·
    simp only [Act.put, List.setIfInBounds_toArray, List.set_cons_zero, List.set_cons_succ, i64_w, i32_w]
    rfl
   refine pure_ (i := 3) (N := some 20) (v := ?_) (a' := ?_) #[false, true, false, true, false, false, false, false, false, false, false, false] rfl rfl (any_of HT_.out (by kernel_rfl)) (fun _ _ _ h => h) (Or.inl ⟨by rfl, ?_⟩) ?_ ?_
   rotate_left
   ·
    intro w'
    go_simp
    with_reducible rfl
   rotate_left
   ·
    simp only [Act.put, List.setIfInBounds_toArray, List.set_cons_zero, List.set_cons_succ, i64_w, i32_w]
    rfl
   refine take_ (i := 0) (N := some 17) (v := ?_) (a' := ?_) #[true, true, false, true, false, false, false, false, false, false, false, false] rfl rfl (take_ofW HT_.out HW_.out (by kernel_rfl)) (fun _ _ _ h => h) (Or.inl ⟨by rfl, ?_⟩) hHeld ?_ ?_
   rotate_left
   ·
    rintro w' ⟨s0, s1⟩
    go_simp
    with_reducible rfl
   rotate_left
   ·
    simp only [Act.put, List.setIfInBounds_toArray, List.set_cons_zero, List.set_cons_succ, i64_w, i32_w]
    rfl
   refine one_ (i := 2) (N := some 19) #[true, true, true, true, false, false, false, false, false, false, false, false] rfl rfl (one_of HT_.out (by kernel_rfl)) (by decide) (fun K hK => ?_)
   refine goes_ Tryz.func143 (by kernel_rfl) rfl #[.string a1] (by rfl) rfl rfl (by (try simp only [List.map_toArray, List.map_cons, List.map_nil]); first | done | rfl | (simp only [List.length_drop, List.length_take]; rfl)) ?_
   with_reducible refine (linhayref04_Parts.calls k a1 t242 _ A8.out).mono ?_
   rintro e w12 ⟨v243, rfl, ho0, hb⟩
   refine ⟨_, rfl, ?_⟩
   have n0_ := qa (Kd.R_lower ho0 (below_size (by repeat (first | (with_reducible first | exact HB.out | apply below_alloc | apply pw_below_drewN | apply below_drew1 | refine below_set ?_ GE241.out) | exact HB.out))))
   have n1_ := qa (blk_below (g := gb241) (o := .cells #[.slice A0_0 l0_0.length c0_0, .int .i64 a0_1] 30 (0, 0)) (by (with_reducible repeat (first | refine blk_drewN ?_ _ | refine blk_drew ?_ | refine blk_alloc ?_ _)); exact BK241.out) hb)
   have n2_ := qa (below_step (by repeat (first | (with_reducible first | exact HB.out | apply below_alloc | apply pw_below_drewN | apply below_drew1 | refine below_set ?_ GE241.out) | exact HB.out)) hb)
   clear BK241
   clear HB
   have HO244 := n0_
   have BK241 := n1_
   have HB := n2_
   clear n0_ n1_ n2_
   (try clear hb)
   (try clear hb2)
   (try clear hk)
   (try clear hi)
   (try clear ho0)
   obtain ⟨Ao13, co13, eo13⟩ := Kd.R_slice HO244.out
   (first | subst eo13 | (injection eo13 with f1_ f2_ f3_; have f4_ := f1_.symm; have f5_ := f3_.symm; clear f1_ f2_ f3_; subst f4_; subst f5_))
   refine hK.out _ _ ⟨(blk_cell BK241.out 0).trans rfl, (blk_cell BK241.out 1).trans rfl⟩ (fun hHeld => ?_)
   clear hK K
   refine norm_ (a' := ?_) ?_ ?_
   rotate_left
   ·
    show Act.put _ (some 19) _ = _
    simp only [Act.put, List.setIfInBounds_toArray, List.set_cons_zero, List.set_cons_succ, i64_w, i32_w]
    rfl
   refine one_ (i := 4) (N := some 21) #[true, true, true, true, true, false, false, false, false, false, false, false] rfl rfl (one_of HT_.out (by kernel_rfl)) (by decide) (fun K hK => ?_)
   refine goes_ Tryz.func144 (by kernel_rfl) rfl #[.agg #[.slice A0_0 l0_0.length c0_0, .int .i64 a0_1], .int .i64 1, .slice Ao13 t242.length co13, .bool a2, .int .i64 0] (by rfl) rfl rfl (by (try simp only [List.map_toArray, List.map_cons, List.map_nil]); first | done | rfl | (simp only [List.length_drop, List.length_take]; rfl)) ?_
   with_reducible refine (linhayref08_Go.calls k _ _ l0_0 a0_1 1 _ _ t242 a2 0 t245 t246 t247 _ ?side1 ?side2 ?side3 ?side4 A9.out).mono ?_
   (case side1 => repeat (first | exact (Kd.C_below HR0_0.out HB.out) | (with_reducible refine Kd.C_alloc ?_ _) | (with_reducible refine Kd.C_drewN ?_ _) | (with_reducible refine Kd.C_drew ?_)))
   (case side2 => exact HC0_0.out)
   (case side3 => repeat (first | exact (Kd.R_reads' HO244.out).2.2 | (with_reducible refine Kd.C_alloc ?_ _) | (with_reducible refine Kd.C_drewN ?_ _) | (with_reducible refine Kd.C_drew ?_)))
   (case side4 => exact (Kd.R_reads' HO244.out).2.1)
   rintro e w14 ⟨rfl, hb⟩
   refine ⟨_, rfl, ?_⟩
   have n0_ := qa (Kd.R_below (by (with_reducible repeat (first | apply Kd.R_alloc | apply Kd.R_drewN | apply Kd.R_drew)); exact HO244.out) hb)
   have n1_ := qa (blk_below (g := gb241) (o := .cells #[.slice A0_0 l0_0.length c0_0, .int .i64 a0_1] 30 (0, 0)) (by (with_reducible repeat (first | refine blk_drewN ?_ _ | refine blk_drew ?_ | refine blk_alloc ?_ _)); exact BK241.out) hb)
   have n2_ := qa (below_step (by repeat (first | (with_reducible first | exact HB.out | apply below_alloc | apply pw_below_drewN | apply below_drew1 | refine below_set ?_ GE241.out) | exact HB.out)) hb)
   clear HO244
   clear BK241
   clear HB
   have HO244 := n0_
   have BK241 := n1_
   have HB := n2_
   clear n0_ n1_ n2_
   (try clear hb)
   (try clear hb2)
   (try clear hk)
   (try clear hi)
   refine hK.out _ _ ⟨(blk_cell BK241.out 0).trans rfl, (blk_cell BK241.out 1).trans rfl⟩ (fun hHeld => ?_)
   clear hK K
   refine norm_ (a' := ?_) ?_ ?_
   rotate_left
   ·
    show Act.put _ (some 21) _ = _
    simp only [Act.put, List.setIfInBounds_toArray, List.set_cons_zero, List.set_cons_succ, i64_w, i32_w]
    rfl
   refine pure_ (i := 5) (N := some 16) (v := ?_) (a' := ?_) #[true, true, true, true, true, true, false, false, false, false, false, false] rfl rfl (any_of HT_.out (by kernel_rfl)) (fun _ _ _ h => h) (Or.inl ⟨by rfl, ?_⟩) ?_ ?_
   rotate_left
   ·
    intro w'
    go_simp
    with_reducible rfl
   rotate_left
   ·
    simp only [Act.put, List.setIfInBounds_toArray, List.set_cons_zero, List.set_cons_succ, i64_w, i32_w]
    rfl
   refine pure_ (i := 6) (N := some 22) (v := ?_) (a' := ?_) #[true, true, true, true, true, true, true, false, false, false, false, false] rfl rfl (any_of HT_.out (by kernel_rfl)) (fun _ _ _ h => h) (Or.inl ⟨by rfl, ?_⟩) ?_ ?_
   rotate_left
   ·
    intro w'
    go_simp
    with_reducible rfl
   rotate_left
   ·
    simp only [Act.put, List.setIfInBounds_toArray, List.set_cons_zero, List.set_cons_succ, i64_w, i32_w]
    rfl
   refine pure_ (i := 7) (N := some 23) (v := ?_) (a' := ?_) #[true, true, true, true, true, true, true, true, false, false, false, false] rfl rfl (any_of HT_.out (by kernel_rfl)) (fun _ _ _ h => h) (Or.inl ⟨by rfl, ?_⟩) ?_ ?_
   rotate_left
   ·
    intro w'
    go_simp
    with_reducible rfl
   rotate_left
   ·
    simp only [Act.put, List.setIfInBounds_toArray, List.set_cons_zero, List.set_cons_succ, i64_w, i32_w]
    rfl
   refine pure_ (i := 8) (N := some 24) (v := ?_) (a' := ?_) #[true, true, true, true, true, true, true, true, true, false, false, false] rfl rfl (any_of HT_.out (by kernel_rfl)) (fun _ _ _ h => h) (Or.inl ⟨by rfl, ?_⟩) ?_ ?_
   rotate_left
   ·
    intro w'
    go_simp
    with_reducible rfl
   rotate_left
   ·
    simp only [Act.put, List.setIfInBounds_toArray, List.set_cons_zero, List.set_cons_succ, i64_w, i32_w]
    rfl
   refine pure_ (i := 9) (N := some 8) (v := ?_) (a' := ?_) #[true, true, true, true, true, true, true, true, true, true, false, false] rfl rfl (any_of HT_.out (by kernel_rfl)) (fun _ _ _ h => h) (Or.inl ⟨by rfl, ?_⟩) ?_ ?_
   rotate_left
   ·
    intro w'
    go_simp
    with_reducible rfl
   rotate_left
   ·
    simp only [Act.put, List.setIfInBounds_toArray, List.set_cons_zero, List.set_cons_succ, i64_w, i32_w]
    rfl
   refine pure_ (i := 10) (N := some 9) (v := ?_) (a' := ?_) #[true, true, true, true, true, true, true, true, true, true, true, false] rfl rfl (any_of HT_.out (by kernel_rfl)) (fun _ _ _ h => h) (Or.inl ⟨by rfl, ?_⟩) ?_ ?_
   rotate_left
   ·
    intro w'
    go_simp
    with_reducible rfl
   rotate_left
   ·
    simp only [Act.put, List.setIfInBounds_toArray, List.set_cons_zero, List.set_cons_succ, i64_w, i32_w]
    rfl
   refine pure_ (i := 11) (N := some 10) (v := ?_) (a' := ?_) #[true, true, true, true, true, true, true, true, true, true, true, true] rfl rfl (any_of HT_.out (by kernel_rfl)) (fun _ _ _ h => h) (Or.inl ⟨by rfl, ?_⟩) ?_ ?_
   rotate_left
   ·
    intro w'
    go_simp
    with_reducible rfl
   rotate_left
   ·
    simp only [Act.put, List.setIfInBounds_toArray, List.set_cons_zero, List.set_cons_succ, i64_w, i32_w]
    rfl
   refine done_ (done_of HT_.out (by kernel_rfl)) ?_
   try go_wp2
   go_ret2
   exact ⟨by first | rfl | (simp [errW_none, errW_some] <;> rfl) | (simp [*, errW_none, errW_some] <;> rfl) | (simp [errW_none, errW_some, bne_nil]; done) | (simp [*, bne_nil]; done) | (simp [bne]; done), by repeat (first | (with_reducible first | exact HB.out | apply below_alloc | apply pw_below_drewN | apply below_drew1 | refine below_set ?_ GE241.out) | exact HB.out)⟩
end Go.Proofs.YtnpeeiikdcankaaGreat.X

namespace Go.Proofs.YtnpeeiikdcankaaGreat.Tw
open Go Go.RowKit Go.Shelf Go.Proofs Go.Proofs.YtnpeeiikdcankaaGreat Go.Proofs.YtnpeeiikdcankaaGreatW.PrintWords Go.Proofs.YtnpeeiikdcankaaGreat.Ext Go.Proofs.YtnpeeiikdcankaaGreat.X Go.Proofs.YtnpeeiikdcankaaGreat.Pu
theorem walk_nil (T : Tr) (lst : Bool) (k : Nat) (a h : Int) : walkF T lst (k + 1) a h [] = some (a, 0) := rfl
theorem walk_cons (T : Tr) (lst : Bool) (k : Nat) (a h : Int) (s : ByteArray) (l : List ByteArray) : walkF T lst (k + 1) a h (s :: l) =
  if (T.node a).kind ≠ 1 then some (a, 7)
  else if s.toList = [46, 46] then walkF T lst k (T.node a).up h l
  else if (downT T a s).2 ≠ 0 then some (a, (downT T a s).2)
  else if (T.node (downT T a s).1).kind ≠ 3 ∨ (l = [] ∧ lst = false) then walkF T lst k (downT T a s).1 h l
  else if 40 ≤ h then some (a, 10)
  else walkF T lst k (if slashB (T.node (downT T a s).1).data = true then 1 else a) (h + 1) (partsB (T.node (downT T a s).1).data ++ l) := rfl
theorem slash_bt {x : ByteArray} (h : 0 < x.size) : slashB x = true ↔ bt x 0 = 47 := by
 obtain ⟨c, hc, hd⟩ := Pu.get_at x h
 have hb := bt_nat hc
 rw [Int.ofNat_zero] at hb
 rw [hb]
 rw [List.drop_zero] at hd
 unfold slashB
 rw [hd]
 have e : Lib.hasPrefix (c :: x.data.toList.drop 1) [47] = (c == 47) := by
  simp [Lib.hasPrefix, List.isPrefixOf]
  exact Bool.eq_iff_iff.2 (by rw [beq_iff_eq, beq_iff_eq]; exact eq_comm)
 rw [e, beq_iff_eq]
 constructor
 · rintro rfl; rfl
 ·
  intro h
  have : c.toNat = (47 : UInt8).toNat := by have : (47 : UInt8).toNat = 47 := rfl; omega
  exact UInt8.toNat_inj.1 this
theorem go_both {L : List RN} {last : Int} (hG : GoodL L last) (hM : GoodM L) (lst : Bool) : ∀ (j m : Nat) (l : List ByteArray) (a : Int), l.length = m → j ≤ 40 → (l.length : Int) ≤ 3000000 - 70000 * j →
  ∃ k q e h, walkF (trOf L last) lst k a (40 - j) l = some (q, e) ∧ Ev (fun k => linhayref08_Go.f k L last a l lst (40 - j)) (if e = 0 then q else 0, h, e) := by
 have hlen : L.length < 4294967296 := by have := hG.len; omega
 intro j
 induction j using Nat.strongRecOn with
 | _ j ihj =>
 intro m
 induction m with
 | zero =>
  intro l a hl hj hb
  obtain rfl : l = [] := List.eq_nil_of_length_eq_zero hl
  refine ⟨1, a, 0, 40 - j, rfl, ?_⟩
  rw [if_pos rfl]
  refine Ev.step (fun k => by rw [linhayref08_Go.f]) ?_
  exact ev_pos rfl (Ev.now _)
 | succ m ih =>
  intro l a hl hj hb
  obtain ⟨s, l, rfl⟩ : ∃ s l', l = s :: l' := by cases l with | nil => simp at hl | cons s l' => exact ⟨s, l', rfl⟩
  have hl' : l.length = m := by simpa using hl
  have hb' : (l.length : Int) ≤ 3000000 - 70000 * j := by simp only [List.length_cons] at hb; omega
  have hcons : ¬ (((s :: l).length : Nat) : Int) = 0 := by simp only [List.length_cons]; omega
  have hpos : 0 < (((s :: l).length : Nat) : Int) := by simp only [List.length_cons]; omega
  have h1le : 1 ≤ (((s :: l).length : Nat) : Int) := by simp only [List.length_cons]; omega
  have hn := node_of hG a
  have hnk : ((trOf L last).node a).kind = (atR L a).f3 := by rw [hn]
  have hnu : ((trOf L last).node a).up = (atR L a).f1 := by rw [hn]
  by_cases hk : (atR L a).f3 = 1
  ·
   have hw : ∀ k, walkF (trOf L last) lst (k + 1) a (40 - j) (s :: l) = _ := fun k => walk_cons (trOf L last) lst k a (40 - j) s l
   have start : ∀ {r : Int × Int × Int}, Ev (fun k => if (rdOf ByteArray.empty (s :: l) 0).toList = ([46, 46] : List UInt8) then ((linhayref07_At.f k L last a).bind fun bt204 => (if 1 ≤ (((s :: l).length : Nat) : Int) then ((linhayref08_Go.f k L last bt204.2.1 ((s :: l).drop 1) lst (40 - j)).bind fun bt210 => (some (bt210.1, bt210.2.1, bt210.2.2))) else (none))) else ((linhayref03_Check.f k (rdOf ByteArray.empty (s :: l) 0)).bind fun t214 => (if t214 = 0 then ((linhayref07_In.f k L last a (rdOf ByteArray.empty (s :: l) 0)).bind fun t216 => ((linhayref07_At.f k L last t216).bind fun bt217 => (if t216 = 0 then (some ((0 : Int), (40 : Int) - (j : Int), (5 : Int))) else (if bt217.2.2.2.1 = 3 then (if (((s :: l).length : Nat) : Int) = 1 then (linhayref08_Go.j0 k a (s :: l) lst (40 - j) t216 (!lst) L last bt217.1 bt217.2.1 bt217.2.2.1 bt217.2.2.2.1 bt217.2.2.2.2) else (linhayref08_Go.j0 k a (s :: l) lst (40 - j) t216 false L last bt217.1 bt217.2.1 bt217.2.2.1 bt217.2.2.2.1 bt217.2.2.2.2)) else (linhayref08_Go.j0 k a (s :: l) lst (40 - j) t216 true L last bt217.1 bt217.2.1 bt217.2.2.1 bt217.2.2.2.1 bt217.2.2.2.2))))) else (some ((0 : Int), (40 : Int) - (j : Int), t214))))) r → Ev (fun k => linhayref08_Go.f k L last a (s :: l) lst (40 - j)) r := by
    intro r hr
    refine Ev.step (fun k => by rw [linhayref08_Go.f]) ?_
    exact (ev_neg hcons (ev_bind (r07_at L a last hlen) (ev_pos hk (ev_pos hpos hr))))
   by_cases hdd : s.toList = [46, 46]
   ·
    obtain ⟨k, q, e, h, h1, h2⟩ := ih l (atR L a).f1 hl' hj hb'
    refine ⟨k + 1, q, e, h, ?_, start (ev_pos hdd (ev_bind (r07_at L a last hlen) (ev_pos h1le (ev_bind h2 (Ev.now _)))))⟩
    rw [hw, if_neg (by rw [hnk, hk]; simp), if_pos hdd, hnu, h1]
   ·
    have hdn := downT_of hG a s
    by_cases hc : Sp.check s.data.toList = 0
    ·
     rw [if_pos hc] at hdn
     have start2 : ∀ {r : Int × Int × Int}, Ev (fun k => if inR L a s = 0 then (some ((0 : Int), (40 : Int) - (j : Int), (5 : Int))) else (if (atR L (inR L a s)).f3 = 3 then (if (((s :: l).length : Nat) : Int) = 1 then (linhayref08_Go.j0 k a (s :: l) lst (40 - j) (inR L a s) (!lst) L last (atR L (inR L a s)).f0 (atR L (inR L a s)).f1 (atR L (inR L a s)).f2 (atR L (inR L a s)).f3 (atR L (inR L a s)).f4) else (linhayref08_Go.j0 k a (s :: l) lst (40 - j) (inR L a s) false L last (atR L (inR L a s)).f0 (atR L (inR L a s)).f1 (atR L (inR L a s)).f2 (atR L (inR L a s)).f3 (atR L (inR L a s)).f4)) else (linhayref08_Go.j0 k a (s :: l) lst (40 - j) (inR L a s) true L last (atR L (inR L a s)).f0 (atR L (inR L a s)).f1 (atR L (inR L a s)).f2 (atR L (inR L a s)).f3 (atR L (inR L a s)).f4))) r → Ev (fun k => linhayref08_Go.f k L last a (s :: l) lst (40 - j)) r := by
      intro r hr
      refine start (ev_neg hdd (ev_bind (r03_check s) (ev_pos hc (ev_bind (r07_in L a last s hlen) (ev_bind (r07_at L (inR L a s) last hlen) hr)))))
     by_cases hi : inR L a s = 0
     ·
      rw [if_pos hi] at hdn
      refine ⟨1, a, 5, 40 - j, ?_, start2 (ev_pos hi (Ev.now _))⟩
      rw [hw, if_neg (by rw [hnk, hk]; simp), if_neg hdd, hdn]; rfl
     ·
      rw [if_neg hi] at hdn
      obtain ⟨x, hx, hx0, hx1, hx2, hx3, hxe⟩ := inR_mem hG hi
      have hnn := node_of hG (inR L a s)
      have hnnk : ((trOf L last).node (inR L a s)).kind = x.f3 := by rw [hnn, hxe]
      have hnnd : ((trOf L last).node (inR L a s)).data = x.f4 := by rw [hnn, hxe]
      rw [hxe] at start2
      have goon : ((x.f3 ≠ 3 ∨ (l = [] ∧ lst = false))) → ∃ k q e h, walkF (trOf L last) lst k a (40 - j) (s :: l) = some (q, e) ∧ Ev (fun k => linhayref08_Go.f k L last a (s :: l) lst (40 - j)) (if e = 0 then q else 0, h, e) := by
       intro hgo
       obtain ⟨k, q, e, h, h1, h2⟩ := ih l (inR L a s) hl' hj hb'
       refine ⟨k + 1, q, e, h, ?_, start2 (ev_neg hi ?_)⟩
       · rw [hw, if_neg (by rw [hnk, hk]; simp), if_neg hdd, hdn, if_neg (by simp), if_pos (by rw [hnnk]; exact hgo)]; exact h1
       ·
        have hj0 : Ev (fun k => linhayref08_Go.j0 k a (s :: l) lst (40 - j) (inR L a s) true L last x.f0 x.f1 x.f2 x.f3 x.f4) (if e = 0 then q else 0, h, e) := by
         refine Ev.step (fun k => by rw [linhayref08_Go.j0]) ?_
         exact ev_pos rfl (ev_pos h1le (ev_bind h2 (Ev.now _)))
        by_cases h3 : x.f3 = 3
        ·
         obtain ⟨rfl, rfl⟩ := hgo.resolve_left (fun h => h h3)
         exact ev_pos h3 (ev_pos (by rfl) hj0)
        · exact ev_neg h3 hj0
      by_cases h3 : x.f3 = 3
      ·
       by_cases hls : l = [] ∧ lst = false
       · exact goon (.inr hls)
       ·
        have hsz := hM.link x hx h3
        have hs64 := hG.data x hx
        have body : ∀ {r : Int × Int × Int}, Ev (fun k => linhayref08_Go.j0 k a (s :: l) lst (40 - j) (inR L a s) false L last x.f0 x.f1 x.f2 x.f3 x.f4) r → Ev (fun k => linhayref08_Go.f k L last a (s :: l) lst (40 - j)) r := by
         intro r hr
         refine start2 (ev_neg hi (ev_pos h3 ?_))
         by_cases h1 : (((s :: l).length : Nat) : Int) = 1
         ·
          have hl0 : l = [] := List.eq_nil_of_length_eq_zero (by simp only [List.length_cons] at h1; omega)
          have hlt : lst = true := by cases lst with | true => rfl | false => exact absurd ⟨hl0, rfl⟩ hls
          refine ev_pos h1 ?_
          subst hlt
          exact hr
         · exact ev_neg h1 hr
        have hw2 : ∀ k, walkF (trOf L last) lst (k + 1) a (40 - j) (s :: l) = if (40 : Int) ≤ 40 - j then some (a, 10) else walkF (trOf L last) lst k (if slashB x.f4 = true then 1 else a) (40 - j + 1) (partsB x.f4 ++ l) := by
         intro k
         rw [hw, if_neg (by rw [hnk, hk]; simp), if_neg hdd, hdn, if_neg (by simp), if_neg (by rw [hnnk]; rintro (h | h); exact h h3; exact hls h), hnnd]
        cases j with
        | zero =>
         refine ⟨1, a, 10, 40 - (0 : Nat), ?_, body ?_⟩
         · rw [hw2, if_pos (by omega)]
         ·
          refine Ev.step (fun k => by rw [linhayref08_Go.j0]) ?_
          exact ev_neg (by simp) (ev_pos (by omega) (Ev.now _))
        | succ j =>
         have hpl := partsB_len' x.f4
         obtain ⟨k, q, e, h, h1, h2⟩ := ihj j (by omega) _ (partsB x.f4 ++ l) (if slashB x.f4 = true then 1 else a) rfl (by omega) (by rw [List.length_append]; omega)
         have ej : ((40 : Int) - ((j + 1 : Nat) : Int) + 1) = 40 - j := by omega
         refine ⟨k + 1, q, e, h, ?_, body ?_⟩
         · rw [hw2, if_neg (by omega), ej]; exact h1
         ·
          refine Ev.step (fun k => by rw [linhayref08_Go.j0]) ?_
          refine ev_neg (by simp) (ev_neg (by omega) (ev_pos (by omega) ?_))
          have hwr : wrap64 ((40 : Int) - ((j + 1 : Nat) : Int) + 1) = 40 - j := by unfold wrap64; omega
          have hp : Ev (fun k => linhayref04_Parts.f k x.f4) (partsB x.f4) := r04_parts x.f4 (by omega)
          have fin : ∀ (a' : Int), Ev (fun k => linhayref08_Go.f k L last a' (partsB x.f4 ++ l) lst (40 - j)) (if e = 0 then q else 0, h, e) → Ev (fun k => ((linhayref04_Parts.f k x.f4).bind fun t227 => (if ([] : List ByteArray).length + t227.length < 8796093022208 then ((some (([] : List ByteArray) ++ t227 : List ByteArray)).bind fun y230 => (if 1 ≤ (((s :: l).length : Nat) : Int) then (if y230.length + ((s :: l).drop 1).length < 8796093022208 then ((linhayref08_Go.f k L last a' (y230 ++ ((s :: l).drop 1)) lst (wrap64 ((40 : Int) - ((j + 1 : Nat) : Int) + 1))).bind fun bt237 => (some (bt237.1, bt237.2.1, bt237.2.2))) else (none)) else (none))) else (none)))) (if e = 0 then q else 0, h, e) := by
           intro a' hr
           refine ev_bind hp (ev_pos (by simp only [List.length_nil]; omega) (ev_some (ev_pos h1le (ev_pos (by simp only [List.nil_append, List.drop_one, List.tail_cons]; omega) ?_))))
           rw [hwr, List.nil_append]
           exact ev_bind hr (Ev.now _)
          by_cases hsl : bt x.f4 0 = 47
          ·
           rw [if_pos ((slash_bt hsz).2 hsl)] at h2
           exact ev_pos hsl (fin 1 h2)
          ·
           rw [if_neg (fun h => hsl ((slash_bt hsz).1 h))] at h2
           exact ev_neg hsl (fin a h2)
      · exact goon (.inl h3)
    ·
     rw [if_neg hc] at hdn
     refine ⟨1, a, Sp.check s.data.toList, 40 - j, ?_, start (ev_neg hdd (ev_bind (r03_check s) (ev_neg hc (by rw [if_neg hc]; exact Ev.now _))))⟩
     rw [hw, if_neg (by rw [hnk, hk]; simp), if_neg hdd, hdn, if_pos hc]
  ·
   refine ⟨1, a, 7, 40 - j, ?_, ?_⟩
   · rw [walk_cons, if_pos (by rw [hnk]; exact hk)]
   ·
    refine Ev.step (fun k => by rw [linhayref08_Go.f]) ?_
    exact ev_neg hcons (ev_bind (r07_at L a last hlen) (ev_neg hk (Ev.now _)))
theorem find_both {L : List RN} {last : Int} (hG : GoodL L last) (hM : GoodM L) (lst : Bool) (s : ByteArray) : ∃ k R, findF (trOf L last) lst k s = some R ∧ Ev (fun k => linhayref08_Find.f k L last s lst) R := by
 unfold findF beginE
 by_cases h0 : s.toList = []
 ·
  refine ⟨0, (0, 5), ?_, ?_⟩
  · rw [if_pos h0, if_neg (by decide)]
  · unfold linhayref08_Find.f; exact ev_pos h0 (Ev.now _)
 ·
  by_cases h1 : s.size > 1024
  ·
   refine ⟨0, (0, 11), ?_, ?_⟩
   · rw [if_neg h0, if_pos h1, if_neg (by decide)]
   · unfold linhayref08_Find.f; exact ev_neg h0 (ev_pos (by omega) (Ev.now _))
  ·
   have hpl := partsB_len' s
   obtain ⟨k, q, e, h, h2, h3⟩ := go_both hG hM lst 40 _ (partsB s) 1 rfl (by omega) (by omega)
   refine ⟨k, (if e = 0 then q else 0, e), ?_, ?_⟩
   ·
    rw [if_neg h0, if_neg h1, if_pos rfl, show walkF (trOf L last) lst k 1 0 (partsB s) = some (q, e) from h2]
    simp only [Option.bind_some]
    by_cases he : e = 0
    · rw [if_pos he, if_pos he, he]
    · rw [if_neg he, if_neg he]
   ·
    unfold linhayref08_Find.f
    exact ev_neg h0 (ev_neg (by omega) (ev_bind (r04_parts s (by omega)) (ev_bind h3 (Ev.now _))))
end Go.Proofs.YtnpeeiikdcankaaGreat.Tw

namespace Go.Sort
end Go.Sort
namespace Go.Proofs.YtnpeeiikdcankaaGreat.Tw
open Go Go.RowKit Go.Shelf Go.Proofs Go.Proofs.YtnpeeiikdcankaaGreat Go.Proofs.YtnpeeiikdcankaaGreatW.PrintWords Go.Proofs.YtnpeeiikdcankaaGreat.Ext Go.Proofs.YtnpeeiikdcankaaGreat.X Go.Proofs.YtnpeeiikdcankaaGreat.Pu Go.Sort
end Go.Proofs.YtnpeeiikdcankaaGreat.Tw

namespace Go.Proofs.YtnpeeiikdcankaaGreat.Tw
open Go Go.RowKit Go.Shelf Go.Proofs Go.Proofs.YtnpeeiikdcankaaGreat Go.Proofs.YtnpeeiikdcankaaGreatW.PrintWords Go.Proofs.YtnpeeiikdcankaaGreat.Ext Go.Proofs.YtnpeeiikdcankaaGreat.X Go.Proofs.YtnpeeiikdcankaaGreat.Pu
theorem root_at {L : List RN} {last : Int} (h : GoodL L last) : (atR L 1).f0 = 1 ∧ (atR L 1).f1 = 1 ∧ (atR L 1).f3 = 1 := by
 obtain ⟨r, hr, h0, h1, h3⟩ := h.root
 have := at_mem h hr
 rw [h0] at this
 rw [this]
 exact ⟨h0, h1, h3⟩
structure But (w w' : World) (k : Nat) : Prop where
 g : w.grownBy w' (some k)
 no : ∀ a s, a.block = k → w.cell? a ≠ some (.string s)
theorem But.cell {w w' : World} {k : Nat} (h : But w w' k) {a : Addr} {v : Value} (hne : a.block ≠ k) (hc : w.cell? a = some v) : w'.cell? a = some v := by
 have hlt := block_lt_of_cell hc
 rw [← hc]
 unfold World.cell?
 rw [h.g.block _ hlt (fun e => hne (Option.some.inj e))]
theorem add_block (ad : Addr) (n : Nat) : (ad.add n).block = ad.block := by unfold Addr.add; split <;> rfl
theorem EntsAt.but {w w' : World} {k : Nat} {s : Value} {l : List En} (h : EntsAt w s l) (hb : But w w' k) : EntsAt w' s l := by
 obtain ⟨A, c, e1, e2, hC⟩ := h
 refine ⟨A, c, e1, e2, hC.1, hC.2.1, fun hn => ?_⟩
 obtain ⟨ad, eA, hc⟩ := hC.2.2 hn
 refine ⟨ad, eA, fun j q hj => ?_⟩
 obtain ⟨cs, hl, hK, hq⟩ := hc j q hj
 obtain rfl := k162_open hK
 have hne : ad.block ≠ k := fun e => hb.no _ _ ((add_block ad _).trans e) (hq 0 _ rfl)
 exact ⟨_, hl, k162_mk _ _, fun i u hu => hb.cell (by rw [add_block]; exact hne) (hq i u hu)⟩
theorem RAt.but {w w' : World} {k : Nat} {v : Value} {L : List RN} {last : Int} (h : RAt w v L last) (hb : But w w' k) : RAt w' v L last := by
 obtain ⟨A, c, e1, e2, hC⟩ := h
 refine ⟨A, c, e1, e2, hC.1, hC.2.1, fun hn => ?_⟩
 obtain ⟨ad, eA, hc⟩ := hC.2.2 hn
 refine ⟨ad, eA, fun j q hj => ?_⟩
 obtain ⟨cs, hl, hK, hq⟩ := hc j q hj
 obtain rfl := k106_open hK
 have hne : ad.block ≠ k := fun e => hb.no _ _ ((add_block ad _).trans e) (hq 2 _ rfl)
 exact ⟨_, hl, k106_mk _ _, fun i u hu => hb.cell (by rw [add_block]; exact hne) (hq i u hu)⟩
theorem TreeB.but {w w' : World} {p B k : Nat} {T : Tr} (h : TreeB w p B T) (hb : But w w' k) (hp : p ≠ k) (hB : B ≠ k) : TreeB w' p B T := by
 obtain ⟨sv, D, h⟩ := h
 exact ⟨sv, D, (hb.g.block _ (blk_lt h.ptr) (fun e => hp (Option.some.inj e))).trans h.ptr, h.map.kept hb.g (fun e => hB (Option.some.inj e)), h.cnt, h.has, h.at_, fun n x hn hx => EntsAt.but (h.ents n x hn hx) hb⟩
theorem but_two {w : World} {k : Nat} {v0 v1 u0 u1 : Value} {t : TypeId} (h : w.heap[k]? = some (.cells #[v0, v1] t (0, 0))) (h0 : ∀ s, v0 ≠ .string s) (h1 : ∀ s, v1 ≠ .string s) :
  But w ((w.setCell ⟨k, 0, none⟩ u0).setCell ⟨k, 1, none⟩ u1) k := by
 refine ⟨⟨rfl, rfl, rfl, by simp, fun j _ hj => ?_⟩, ?_⟩
 ·
  have hne : j ≠ k := fun e => hj (by rw [e])
  exact (Below.heap_setCell _ ⟨k, 1, none⟩ u1 j hne).trans (Below.heap_setCell w ⟨k, 0, none⟩ u0 j hne)
 ·
  rintro ⟨b, o, sp⟩ s rfl
  simp only [World.cell?, h]
  split
  · simp
  ·
   match o with
   | 0 => simpa using fun e => h0 s e
   | 1 => simpa using fun e => h1 s e
   | n + 2 => simp
def IsI (u : Value) : Prop := ∃ m : Int, u = .int .i64 m
def OwnN (w : World) (base : Nat) (v : Value) (l : List Int) : Prop :=
 (v = .slice none 0 0 ∧ l = []) ∨
 ∃ g cap cur, v = .slice (some ⟨g, 0, none⟩) l.length cap ∧ base ≤ g ∧ w.heap[g]? = some (.cells cur 3 (0, 0)) ∧ l.length ≤ cap ∧ cap ≤ maxLen ∧ cur.size = cap ∧ cur.toList.take l.length = l.map (Value.int .i64) ∧ ∀ u ∈ cur.toList, IsI u
theorem infoI : (Tryz.prog.info? 3).map (fun i => (i.zero, i.size, i.bytes)) = some (some (.int .i64 0), 1, 8) := by kernel_rfl
theorem OwnN.made (W : World) (base : Nat) (hb : base ≤ W.heap.size) : OwnN (W.alloc (.cells #[] 3)) base (.slice (some ⟨W.heap.size, 0, none⟩) 0 0) [] :=
 .inr ⟨W.heap.size, 0, #[], rfl, hb, heap_alloc_new W _, Nat.le_refl _, by simp [maxLen], rfl, rfl, by simp⟩
theorem OwnN.toR {w : World} {base : Nat} {v : Value} {l : List Int} (h : OwnN w base v l) : Kd.R (Kd.int .i64) 3 w base (fun _ => True) v l := by
 refine Kd.R_of_own ?_ (fun _ _ => trivial)
 refine ⟨by simp [encs], ?_⟩
 rcases h with ⟨rfl, rfl⟩ | ⟨g, cap, cur, rfl, hb, hh, hle, hm, hc, ht, _⟩
 · exact .inl ⟨rfl, rfl⟩
 ·
  refine .inr ⟨g, cap, cur, rfl, hb, hh, hle, hm, by omega, ?_⟩
  rw [Nat.mul_one, ht]; rfl
theorem OwnN.step {w w' : World} {base : Nat} {v : Value} {l : List Int} (h : OwnN w base v l) (hs : ∀ k cur, k < w.heap.size → w.heap[k]? = some (.cells cur 3 (0, 0)) → w'.heap[k]? = w.heap[k]?) : OwnN w' base v l := by
 rcases h with h | ⟨g, cap, cur, e, hb, hh, r⟩
 · exact .inl h
 · exact .inr ⟨g, cap, cur, e, hb, (hs g cur (blk_lt hh) hh).trans hh, r⟩
theorem OwnN.below {w w' : World} {base : Nat} {v : Value} {l : List Int} (h : OwnN w base v l) (hb : Below w.heap.size w w') : OwnN w' base v l := h.step (fun k _ hk _ => hb.block k hk)
theorem OwnN.frm {w w' : World} {p B base : Nat} {T : Tr} {v : Value} {l : List Int} (h : OwnN w base v l) (hT : TreeB w p B T) (hf : Frm w w' p B) : OwnN w' base v l := by
 obtain ⟨hp, es, clock, hB⟩ := hT.two
 refine h.step (fun k cur hk hh => hf.block k hk ?_ ?_)
 ·
  rintro rfl
  rw [hp] at hh
  injection hh with hh
  injection hh with _ hh
  exact absurd hh (by decide)
 ·
  rintro rfl
  rw [hB] at hh
  cases hh
theorem OwnN.but {w w' : World} {k base : Nat} {v : Value} {l : List Int} {cs : Array Value} {t : TypeId} {fr : Nat × Nat} (h : OwnN w base v l) (hk : w.heap[k]? = some (.cells cs t fr)) (ht : t ≠ 3) (hb : But w w' k) : OwnN w' base v l := by
 refine h.step (fun j cur hj hh => hb.g.block j hj ?_)
 intro e
 obtain rfl : j = k := Option.some.inj e
 rw [hk] at hh
 injection hh with hh
 injection hh with _ hh
 exact ht hh
theorem OwnN.noS {w : World} {base : Nat} {v : Value} {l : List Int} (h : OwnN w base v l) (k : Nat) (hk : v.ownBlock = some k) : ∀ a s, a.block = k → w.cell? a ≠ some (.string s) := by
 rcases h with ⟨rfl, _⟩ | ⟨g, cap, cur, rfl, hb, hh, hle, hm, hc, ht, ha⟩
 · cases hk
 ·
  injection hk with hk
  change g = k at hk
  subst hk
  rintro ⟨b, o, sp⟩ s rfl
  simp only [World.cell?, hh]
  split
  · simp
  ·
   intro e
   obtain ⟨m, hm⟩ := ha _ (List.mem_of_getElem? (by simpa using e))
   cases hm
theorem drewAlloc (w : World) (o : Obj) (row : Option Nat) : w.grownBy (w.drew.alloc o) row := ⟨rfl, rfl, rfl, by simp, fun k hk _ => heap_alloc_old w.drew o k hk⟩
theorem zero_is (n : Nat) : ∀ u ∈ (Builtin.zeroCells (Value.cells (.int .i64 0)) n).toList, IsI u := by
 intro u hu
 simp only [Builtin.zeroCells] at hu
 simp at hu
 obtain ⟨_, hu⟩ := hu
 have : u = .int .i64 0 := by simp [Value.cells, Nat.mod_one] at hu; exact hu.2.symm
 exact ⟨0, this⟩
theorem OwnN.append {W : World} {base : Nat} {v : Value} {l : List Int} (h : OwnN W base v l) (x : Int) (ty : TypeId) (hb : base ≤ W.heap.size) (hl : l.length < 1000000) :
  ∃ v' w', (Builtin.append_ #[98, 98] ty #[v, .slice (some ⟨W.heap.size, 0, none⟩) 1 1]).run Tryz.prog (W.alloc (.cells #[.int .i64 x] 3)) = .ok v' w' ∧ OwnN w' base v' (l ++ [x]) ∧ W.grownBy w' v.ownBlock := by
 obtain ⟨i0, hi, hz0, hz1, hz2⟩ := info_parts infoI
 have ht := Tryz.underlying98
 have hnews := cell_one_new W (.int .i64 x) 3
 have h1 : ∀ u ∈ [Value.int .i64 x], u.oneCell' = true := by intro u hu; rw [List.mem_singleton.1 hu]; rfl
 have hgr := World.grownBy_alloc W (.cells #[.int .i64 x] 3)
 rcases h with ⟨rfl, rfl⟩ | ⟨g, cap, cur, rfl, hbg, hh, hle, hm, hc, htk, ha⟩
 ·
  have hr := run_append_nil (P := Tryz.prog) (W.alloc (.cells #[.int .i64 x] 3)) 98 ty 3 i0 (.int .i64 0) ht hi hz0 ⟨W.heap.size, 0, none⟩ 1 1 [.int .i64 x] (by rw [hz1]; rfl) hnews (by omega) (by omega) (by rw [hz2]; omega)
  refine ⟨_, _, hr, .inr ⟨_, _, _, rfl, ?_, heap_alloc_new _ _, ?_, ?_, ?_, ?_, ?_⟩, ?_⟩
  ·
   show base ≤ (W.alloc _).heap.size
   simp; omega
  · exact grownCap_ge _ 1 0 _
  · exact grownCap_le_maxLen _ 1 0 _ (by simp [maxLen])
  ·
   have := grownCap_ge (W.alloc (.cells #[.int .i64 x] 3)) 1 0 3
   simp only [Array.size_append, List.size_toArray, size_zeroCells]
   simp [Value.cells]
   omega
  · simp
  ·
   intro u hu
   rw [Array.toList_append] at hu
   rcases List.mem_append.1 hu with hu | hu
   · exact ⟨x, by simpa using hu⟩
   · exact zero_is _ u hu
  · exact World.grownBy.trans (hgr _) (drewAlloc _ _ _)
 ·
  have hg' : (W.alloc (.cells #[.int .i64 x] 3)).heap[g]? = some (.cells cur 3 (0, 0)) := (heap_alloc_old W _ g (blk_lt hh)).trans hh
  have hgr := World.grownBy_alloc W (.cells #[.int .i64 x] 3) (some g)
  by_cases hroom : l.length + 1 ≤ cap
  ·
   have hr := run_append_room (P := Tryz.prog) (W.alloc (.cells #[.int .i64 x] 3)) 98 ty 3 i0 ht hi g l.length cap cur hg' ⟨W.heap.size, 0, none⟩ 1 1 [.int .i64 x] (by rw [hz1]; rfl) hnews h1 hroom (by rw [hz1]; simp; omega)
   rw [hz1, Nat.mul_one] at hr
   refine ⟨_, _, hr, .inr ⟨g, cap, _, by simp, hbg, setRow_heap _ g cur _ _ _ hg', by simpa using hroom, hm, ?_, ?_, ?_⟩, ?_⟩
   ·
    have hcl : cur.toList.length = cap := by simpa using hc
    simp only [List.size_toArray, List.length_append, List.length_take, List.length_drop, hcl, List.length_singleton]
    omega
   ·
    rw [htk, List.map_append, List.length_append]
    have e : (l.map (Value.int .i64) ++ [Value.int .i64 x]).length = l.length + 1 := by simp
    show List.take (l.length + 1) (l.map (Value.int .i64) ++ [Value.int .i64 x] ++ _) = _
    rw [← e]
    exact List.take_left
   ·
    intro u hu
    simp only [List.mem_append] at hu
    rcases hu with (hu | hu) | hu
    · exact ha u (List.mem_of_mem_take hu)
    · exact ⟨x, by simpa using hu⟩
    · exact ha u (List.mem_of_mem_drop hu)
   · exact hgr.trans ⟨rfl, rfl, rfl, by simp [World.setRow], fun k hk hne => setRow_other _ g k _ (fun e => hne (by simp [e]))⟩
  ·
   have holds : ∀ j u, (l.map (Value.int .i64))[j]? = some u → (W.alloc (.cells #[.int .i64 x] 3)).cell? ((⟨g, 0, none⟩ : Addr).add j) = some u := by
    intro j u hu
    rw [← htk, List.getElem?_take] at hu
    have hadd : (⟨g, 0, none⟩ : Addr).add j = ⟨g, j, none⟩ := by simp [Addr.add_lit]
    rw [hadd, cell_of_row _ g j cur _ (0, 0) hg']
    split at hu
    · simpa using hu
    · cases hu
   have hle2 : l.length ≤ cap := hle
   have hr := run_append_grow (P := Tryz.prog) (W.alloc (.cells #[.int .i64 x] 3)) 98 ty 3 i0 (.int .i64 0) ht hi hz0 ⟨g, 0, none⟩ l.length cap (l.map (Value.int .i64)) (by rw [hz1]; simp) holds ⟨W.heap.size, 0, none⟩ 1 1 [.int .i64 x] (by rw [hz1]; rfl) hnews (by omega) (by omega) (growslice_fits (by omega) (by rw [hz2]; omega))
   refine ⟨_, _, hr, .inr ⟨_, grownCap (W.alloc (.cells #[.int .i64 x] 3)) (l.length + 1) cap 3, _, by simp, ?_, heap_alloc_new _ _, ?_, ?_, ?_, ?_, ?_⟩, ?_⟩
   ·
    show base ≤ (W.alloc _).heap.size
    simp; omega
   · simpa using grownCap_ge _ (l.length + 1) cap _
   · exact grownCap_le_maxLen _ (l.length + 1) cap _ (by simp [maxLen]; omega)
   ·
    have := grownCap_ge (W.alloc (.cells #[.int .i64 x] 3)) (l.length + 1) cap 3
    simp only [Array.size_append, List.size_toArray, size_zeroCells]
    simp [Value.cells]
    omega
   ·
    rw [Array.toList_append, Array.toList_append]
    have e : (l.map (Value.int .i64) ++ [Value.int .i64 x]).length = l.length + 1 := by simp
    show List.take (l ++ [x]).length (l.map (Value.int .i64) ++ [Value.int .i64 x] ++ _) = _
    rw [List.length_append, List.map_append]
    show List.take (l.length + 1) _ = _
    rw [← e]
    exact List.take_left
   ·
    intro u hu
    rw [Array.toList_append, Array.toList_append] at hu
    simp only [List.mem_append] at hu
    rcases hu with (hu | hu) | hu
    ·
     obtain ⟨m, _, rfl⟩ := List.mem_map.1 hu
     exact ⟨m, rfl⟩
    · exact ⟨x, by simpa using hu⟩
    · exact zero_is _ u hu
   · exact hgr.trans (drewAlloc _ _ _)
theorem OwnN.blk {w : World} {base : Nat} {v : Value} {l : List Int} (h : OwnN w base v l) (k : Nat) (hk : v.ownBlock = some k) : base ≤ k ∧ ∃ cur, w.heap[k]? = some (.cells cur 3 (0, 0)) := by
 rcases h with ⟨rfl, _⟩ | ⟨g, cap, cur, rfl, hb, hh, _⟩
 · cases hk
 ·
  injection hk with hk
  change g = k at hk
  subst hk
  exact ⟨hb, cur, hh⟩
theorem TreeB.app {w w' : World} {p B base : Nat} {T : Tr} {v : Value} {l : List Int} (h : TreeB w p B T) (hN : OwnN w base v l) (hg : w.grownBy w' v.ownBlock) : TreeB w' p B T := by
 cases hk : v.ownBlock with
 | none => rw [hk] at hg; exact h.below ⟨hg.os, hg.tape, hg.output, hg.size, fun k hk => hg.block k hk (by simp)⟩
 | some k =>
  rw [hk] at hg
  obtain ⟨_, cur, hc⟩ := hN.blk k hk
  obtain ⟨hp, es, clock, hB⟩ := h.two
  refine h.but ⟨hg, hN.noS k hk⟩ ?_ ?_
  ·
   rintro rfl
   rw [hp] at hc
   injection hc with hc
   injection hc with _ hc
   exact absurd hc (by decide)
  ·
   rintro rfl
   rw [hB] at hc
   cases hc
theorem RAt.app {w w' : World} {base : Nat} {u v : Value} {L : List RN} {last : Int} {l : List Int} (h : RAt w u L last) (hN : OwnN w base v l) (hg : w.grownBy w' v.ownBlock) : RAt w' u L last := by
 cases hk : v.ownBlock with
 | none => rw [hk] at hg; exact h.below ⟨hg.os, hg.tape, hg.output, hg.size, fun k hk => hg.block k hk (by simp)⟩
 | some k => rw [hk] at hg; exact h.but ⟨hg, hN.noS k hk⟩
theorem cells_app {w w' : World} {base k : Nat} {v : Value} {l : List Int} {cs : Array Value} {t : TypeId} {fr : Nat × Nat} (h : w.heap[k]? = some (.cells cs t fr)) (ht : t ≠ 3) (hN : OwnN w base v l) (hg : w.grownBy w' v.ownBlock) : w'.heap[k]? = some (.cells cs t fr) := by
 refine (hg.block k (blk_lt h) (fun e => ?_)).trans h
 obtain ⟨_, cur, hc⟩ := hN.blk k e.symm
 rw [h] at hc
 injection hc with hc
 injection hc with _ hc
 exact ht hc
theorem below_app {w0 w w' : World} {base : Nat} {v : Value} {l : List Int} (hB : Below base w0 w) (hN : OwnN w base v l) (hb : base ≤ w.heap.size) (hg : w.grownBy w' v.ownBlock) : Below base w0 w' := hB.grown hg hb (fun k hk => (hN.blk k hk).1)
theorem two_set {w : World} {k : Nat} {v0 v1 u0 u1 : Value} {t : TypeId} (h : w.heap[k]? = some (.cells #[v0, v1] t (0, 0))) : ((w.setCell ⟨k, 0, none⟩ u0).setCell ⟨k, 1, none⟩ u1).heap[k]? = some (.cells #[u0, u1] t (0, 0)) := by
 have k1 : (w.setCell ⟨k, 0, none⟩ u0).heap[k]? = some (.cells #[u0, v1] t (0, 0)) := by rw [setCell_eq_setRow w _ 0 _ _ _ _ h, setRow_heap w _ _ _ _ _ h]; rfl
 rw [setCell_eq_setRow _ _ 1 _ _ _ _ k1, setRow_heap _ _ _ _ _ _ k1]; rfl
section
variable {ops : Array Oper} {rest : List Oper} {o : Oper} {a : Act} {Q : Exit → Act → World → Prop}
theorem wpList_append_ints {W : World} (hgd : o.guard = none) (s x : Operand) (ho : o.op = .call { callee := .builtin .append, args := #[s, x], argTypes := #[98, 98] }) (base : Nat) (v : Value) (l : List Int) (n : Int) (hs : a.eval s = v) (hx : a.eval x = .slice (some ⟨W.heap.size, 0, none⟩) 1 1)
  (HO : OwnN W base v l) (hb : base ≤ W.heap.size) (hl : l.length < 1000000)
  (h : ∀ v' w', OwnN w' base v' (l ++ [n]) → W.grownBy w' v.ownBlock → wpList Tryz.prog ops Q rest (a.put o.dst v') w') :
  wpList Tryz.prog ops Q (o :: rest) a (W.alloc (.cells #[.int .i64 n] 3)) := by
 obtain ⟨v', w', hr, h2, h3⟩ := HO.append n o.type hb hl
 refine wpList_plain hgd fun K hK => ?_
 have hw := h v' w' h2 h3
 unfold Oper.wp execOp
 simp only [ho, resolve, invoke, builtin, Sem.run_bind, Sem.run_pure, Result.andThen_ok, List.map_toArray, List.map_cons, List.map_nil, hs, hx, hr]
 exact hK _ _ hw
end
structure MW (w wr : World) (p B r : Nat) (v6 : Value) (st : MSt) : Prop where
 hb : Below w.heap.size w wr
 tree : TreeB wr p B (trOf st.L st.last)
 hp : w.heap.size ≤ p
 hB : w.heap.size ≤ B
 hr : w.heap.size < r
 cell : ∃ A c, wr.heap[r]? = some (.cells #[.slice A st.L.length c, .int .i64 st.last] 30 (0, 0)) ∧ st.L.length ≤ c ∧ Kd.C k106 wr A st.L.length st.L
 nums : OwnN wr w.heap.size v6 st.nums
 res : wr.heap[w.heap.size]? = some (.cells #[.slice none 0 0, .int .i64 0] 30 (0, 0))
theorem made_round {w w8 w9 : World} {p B r : Nat} {A7 : Option Addr} {c7 : Nat} {L7 : List RN} {n7 : Int} {v : Value} {l : List Int} {T : Tr}
  (F : TreeB w8 p B T ∧ RAt w8 (.agg #[.slice A7 L7.length c7, .int .i64 n7]) L7 n7 ∧ OwnN w8 w.heap.size v l ∧ w8.heap[w.heap.size]? = some (.cells #[.slice none 0 0, .int .i64 0] 30 (0, 0)) ∧ w8.heap[r]? = some (.cells #[.slice A7 L7.length c7, .int .i64 n7] 30 (0, 0)) ∧ Below w.heap.size w w8) (hle : L7.length ≤ c7) (hg : w8.grownBy w9 v.ownBlock) :
  Below w.heap.size w w9 ∧ TreeB w9 p B T ∧ w9.heap[r]? = some (.cells #[.slice A7 L7.length c7, .int .i64 n7] 30 (0, 0)) ∧ L7.length ≤ c7 ∧ Kd.C k106 w9 A7 L7.length L7 ∧ w9.heap[w.heap.size]? = some (.cells #[.slice none 0 0, .int .i64 0] 30 (0, 0)) := by
 obtain ⟨hT, hR, hN, hS, hc, hB⟩ := F
 obtain ⟨A', c', e, h1, h2⟩ := hR.app hN hg
 simp only [Value.agg.injEq, Array.mk.injEq, List.cons.injEq, Value.slice.injEq, true_and, and_true] at e
 obtain ⟨rfl, rfl⟩ := e
 exact ⟨below_app hB hN hB.size hg, hT.app hN hg, cells_app hc (by decide) hN hg, h1, h2, cells_app hS (by decide) hN hg⟩
theorem made_calls (A : Option Addr) (c : Nat) (l : List MN) (w : World) (hC : Kd.C k93 w A l.length l) (hc : l.length ≤ c) (hl : l.length ≤ 60) (hs : ∀ x ∈ l, x.f1.size < 4294967281) :
  Calls Tryz.prog 14 #[.slice A l.length c] w fun e w' => ∃ p B v, e = .returned (.tuple #[pT p, v]) ∧ TreeB w' p B (trOf (madeF l).L (madeF l).last) ∧ RAt w' v (madeF l).L (madeF l).last ∧ Below w.heap.size w w' ∧ w.heap.size ≤ p ∧ w.heap.size ≤ B := by
 have HC := qh hC
 have HS := qh hs
 have HN := qh (fun W => new_calls W)
 have HRN := qh (fun W => linhayref07_New.calls [⟨1, 1, ⟨#[]⟩, 1, ⟨#[]⟩⟩] 1 W rfl)
 clear hC hs
 go_enter Tryz.func14, Tryz.ntmps14
 go_wp2_with (first | (go_at_call 54; refine (HN.out _).mono ?_; rintro e w2 ⟨p, B, rfl, hT2, hb2, hp2, hB2⟩) | (go_at_call 55; refine (HRN.out _).mono ?_; rintro e w3 ⟨v3, rfl, ho3, hb3⟩; obtain ⟨A3, c3, rfl, hle3, hC3⟩ := Kd.R_reads ho3))
 have hM0 : MW w ((w3.alloc (.cells #[.slice A3 1 c3, .int .i64 1] 30)).alloc (.cells #[] 3)) p B w3.heap.size (.slice (some ⟨w3.heap.size + 1, 0, none⟩) 0 0) made0 := by
  have hb0 := (Below.refl w.heap.size w).alloc (Nat.le_refl _) (.cells #[.slice none 0 0, .int .i64 0] 30)
  have hsz0 : w.heap.size + 1 = (w.alloc (.cells #[.slice none 0 0, .int .i64 0] 30)).heap.size := by simp
  have hbA := below_two w3 (.cells #[.slice A3 1 c3, .int .i64 1] 30) (.cells #[] 3)
  have hb3' : Below w.heap.size w w3 := (hb0.trans (hb2.mono (by omega))).trans (hb3.mono (Nat.le_trans (by omega) hb2.size))
  have hle : w.heap.size + 1 ≤ w3.heap.size := Nat.le_trans (Nat.le_trans (by omega) hb2.size) hb3.size
  have h1 := heap_alloc_new w (.cells #[.slice none 0 0, .int .i64 0] 30)
  refine ⟨hb3'.trans (hbA.mono hb3'.size), by
   have := (hT2.below hb3).below hbA
   rw [T0_eq] at this
   exact this, by omega, by omega, by omega, ⟨A3, c3, ?_, hle3, Kd.C_below hC3 hbA⟩, ?_, ?_⟩
  · exact (((Below.refl _ (w3.alloc (.cells #[.slice A3 1 c3, .int .i64 1] 30))).alloc (Nat.le_refl _) (.cells #[] 3)).block w3.heap.size (by simp)).trans (heap_alloc_new w3 _)
  ·
   have := OwnN.made (w3.alloc (.cells #[.slice A3 1 c3, .int .i64 1] 30)) w.heap.size (by simp; omega)
   simpa [made0] using this
  · exact (hbA.block _ (by omega)).trans ((hb3.block _ (by have := hb2.size; omega)).trans ((hb2.block _ (by omega)).trans h1))
 have HM0 := qa hM0
 clear hM0 hb2 hb3 hT2 hp2 hB2 ho3 hle3 hC3
 go_loopw [6, 7] (fun v6 v7 wr => ∃ i : Nat, v7 = .int .i64 (i : Int) ∧ i ≤ l.length ∧ MW w wr p B w3.heap.size v6 ((l.take i).foldl madeStep made0) ∧ MInv ((l.take i).foldl madeStep made0) i) (fun _ v _ => l.length - (intOf v).toNat)
 case atStart => exact ⟨0, rfl, Nat.zero_le _, HM0.out, minv0⟩
 case round =>
  obtain ⟨i, rfl, hi, hM, hI⟩ := hrel
  have HM := qa hM
  have HI := qa hI
  by_cases hlt : i < l.length
  ·
   obtain ⟨ad, eA, a0, a1, a2, a3⟩ := at_T93 (Kd.C_below HC.out hM.hb) (i : Int) (by omega) (by omega)
   have hrd : rd_T93 l (i : Int) = l[i] := by simp [rd_T93, hlt]
   rw [hrd] at a0 a1 a2 a3
   rw [Int.toNat_natCast] at a0 a1 a2 a3
   subst eA
   have hsz := HS.out l[i] (List.getElem_mem hlt)
   have htk : (l.take (i + 1)).foldl madeStep made0 = madeStep ((l.take i).foldl madeStep made0) l[i] := by
    rw [List.take_succ_eq_append_getElem hlt, List.foldl_append]; rfl
   have HTK := qh htk
   have HRD := qh hrd
   clear htk hrd
   generalize (l.take i).foldl madeStep made0 = st at *
   generalize l[i] = x at *
   obtain ⟨A5, c5, hcl, hle5, hC5⟩ := hM.cell
   obtain ⟨A6, c6, rfl, hle6, hC6⟩ := Kd.R_reads hM.nums.toR
   have hlen := hI.len
   have hlt' : (i : Int) < (l.length : Int) := by omega
   have hi0 : (0 : Int) ≤ (i : Int) := by omega
   have HCL := qa (And.intro hcl (And.intro hle5 hC5))
   have HARG := qh (fun (W : World) (h : Below w.heap.size w W) => show W.cell? ⟨(ad.add (i * 4)).block, (ad.add (i * 4)).off + 1, none⟩ = some (.string x.f1) ∧ W.cell? ⟨(ad.add (i * 4)).block, (ad.add (i * 4)).off + 2, none⟩ = some (.int .i64 x.f2) ∧ W.cell? ⟨(ad.add (i * 4)).block, (ad.add (i * 4)).off + 3, none⟩ = some (.string x.f3) by
    obtain ⟨ad', e', b0, b1, b2, b3⟩ := at_T93 (Kd.C_below HC.out h) (i : Int) hi0 hlt'
    cases e'
    rw [Int.toNat_natCast, HRD.out] at b0 b1 b2 b3
    exact ⟨b1, b2, b3⟩)
   have hdin := dirAt_in HI.out x
   have hla : st.last < 1000000 := by have := HI.out.last; omega
   have HPT := qh (fun W h => tput_calls p B st.L st.last (dirAt st.nums x) x.f1 x.f2 x.f3 W h HI.out.good (wf_of (by omega)) hsz hla)
   have HRP := qh (fun v W h => rput_calls st.L st.last (dirAt st.nums x) v x.f1 x.f2 x.f3 W h HI.out.good hla)
   have HSTEP := qh (show madeStep st x = ⟨putL st.L st.last (dirAt st.nums x) x.f1 x.f2 x.f3, putN st.L st.last (dirAt st.nums x) x.f1 x.f2 x.f3, st.nums ++ [putA st.L st.last (dirAt st.nums x) x.f1 x.f2 x.f3]⟩ from rfl)
   have hdir0 : dirAt st.nums x = (if 0 ≤ x.f0 ∧ x.f0 < (i : Int) then st.nums.getD x.f0.toNat 0 else 1) := by
    unfold dirAt; rw [hlen]
   generalize putL st.L st.last (dirAt st.nums x) x.f1 x.f2 x.f3 = L7 at HPT HRP HSTEP
   generalize putN st.L st.last (dirAt st.nums x) x.f1 x.f2 x.f3 = n7 at HPT HRP HSTEP
   generalize putA st.L st.last (dirAt st.nums x) x.f1 x.f2 x.f3 = m7 at HPT HRP HSTEP
   generalize putRE st.L (dirAt st.nums x) x.f1 x.f2 x.f3 = e7 at HPT HRP
   have HNL := qh hlen
   by_cases hd : 0 ≤ x.f0 ∧ x.f0 < (i : Int)
   case' pos =>
    obtain ⟨d0, d1⟩ := hd
    obtain ⟨a6, eA6, n0⟩ := Kd.at_int hC6 x.f0 d0 (by omega)
    have hdir : dirAt st.nums x = rd st.nums x.f0 := by
     rw [hdir0, if_pos ⟨d0, d1⟩]; rfl
    have d2 : x.f0 < (st.nums.length : Int) := by omega
    rw [← hdir] at n0
    subst eA6
    clear hdir
   case' neg =>
    have hdir : dirAt st.nums x = 1 := by rw [hdir0, if_neg hd]
    rw [hdir] at HPT HRP
    have hd2 : x.f0 < 0 ∨ ((0 : Int) ≤ x.f0 ∧ (i : Int) ≤ x.f0) := by omega
    clear hdir hd
    rcases hd2 with hd2 | ⟨hd2, hd3⟩
   all_goals
    clear hM hI hcl hle5 hC5 hC6 hdin hla hsz hlen hdir0
    go_upto_region 9 with (fail)
    go_region_held3 (fun w' => w'.cell? ⟨(ad.add (i * 4)).block, (ad.add (i * 4)).off + 1, none⟩ = some (.string x.f1) ∧ w'.cell? ⟨(ad.add (i * 4)).block, (ad.add (i * 4)).off + 2, none⟩ = some (.int .i64 x.f2) ∧ w'.cell? ⟨(ad.add (i * 4)).block, (ad.add (i * 4)).off + 3, none⟩ = some (.string x.f3)) (first | (go_keep; done) | exact HA5.out)
     ((go_at_call 56; refine (HPT.out _ (by first | exact HM.out.tree | exact HM.out.tree.drew | exact HM.out.tree.below (pw_below_drewN (Below.refl _ _) _))).mono ?_; rintro e w5 ⟨rfl, hT5, hf5⟩; have hf5' : Frm wr w5 p B := (by first | exact hf5 | exact (Frm.ofBelow (below_drew (Below.refl _ wr))).trans hf5 | exact (Frm.ofBelow (pw_below_drewN (Below.refl _ wr) _)).trans hf5); have HB5 := qa (HM.out.hb.trans (Frm.below hf5' HM.out.hb.size HM.out.hp HM.out.hB)); have HA5 := qh (HARG.out w5 HB5.out)))
    obtain ⟨hcl, hle5, hC5⟩ := HCL.out
    have hcl5 := cells_frm hcl (by decide) HM.out.tree hf5'
    have hR5 : RAt w5 (.agg #[.slice A5 st.L.length c5, .int .i64 st.last]) st.L st.last := RAt.frm ⟨A5, c5, rfl, hle5, hC5⟩ HM.out.tree hf5'
    have hN5 := HM.out.nums.frm HM.out.tree hf5'
    have hS5 := cells_frm HM.out.res (by decide) HM.out.tree hf5'
    have r0 : w5.cell? ⟨w3.heap.size, 0, none⟩ = some (.slice A5 st.L.length c5) := by rw [blk_cell hcl5]; rfl
    have r1 : w5.cell? ⟨w3.heap.size, 1, none⟩ = some (.int .i64 st.last) := by rw [blk_cell hcl5]; rfl
    obtain ⟨b1, b2, b3⟩ := HA5.out
    have hrlt : w3.heap.size < w5.heap.size := blk_lt hcl5
    have HK5 := qh (fun (W : World) (h : Below w5.heap.size w5 W) => show W.cell? ⟨w3.heap.size, 0, none⟩ = some (.slice A5 st.L.length c5) ∧ W.cell? ⟨w3.heap.size, 1, none⟩ = some (.int .i64 st.last) ∧ W.cell? ⟨(ad.add (i * 4)).block, (ad.add (i * 4)).off + 1, none⟩ = some (.string x.f1) ∧ W.cell? ⟨(ad.add (i * 4)).block, (ad.add (i * 4)).off + 2, none⟩ = some (.int .i64 x.f2) ∧ W.cell? ⟨(ad.add (i * 4)).block, (ad.add (i * 4)).off + 3, none⟩ = some (.string x.f3) from ⟨pw_cell_below h r0, pw_cell_below h r1, pw_cell_below h b1, pw_cell_below h b2, pw_cell_below h b3⟩)
    have HF5 := qa (And.intro hcl5 (And.intro hR5 (And.intro hN5 (And.intro hS5 hT5))))
    have HP := qa (And.intro HM.out.hp (And.intro HM.out.hB HM.out.hr))
    clear hcl hle5 hC5 hcl5 hR5 hN5 hS5 hT5 hf5 hf5' HM HCL HARG HA5 HPT a0 a1 a2 a3
    go_upto_region 10 with (fail)
    go_region_held3 (fun w' => w'.cell? ⟨w3.heap.size, 0, none⟩ = some (.slice A5 st.L.length c5) ∧ w'.cell? ⟨w3.heap.size, 1, none⟩ = some (.int .i64 st.last) ∧ w'.cell? ⟨(ad.add (i * 4)).block, (ad.add (i * 4)).off + 1, none⟩ = some (.string x.f1) ∧ w'.cell? ⟨(ad.add (i * 4)).block, (ad.add (i * 4)).off + 2, none⟩ = some (.int .i64 x.f2) ∧ w'.cell? ⟨(ad.add (i * 4)).block, (ad.add (i * 4)).off + 3, none⟩ = some (.string x.f3)) (first | (go_keep; done) | exact HK5.out _ hb56 | exact HK5.out _ (hb56.alloc hb56.size _) | exact HK5.out _ (hb56.setCell (p := ⟨w5.heap.size, 0, none⟩) (Nat.le_refl _) _) | exact HK5.out _ ((hb56.setCell (p := ⟨w5.heap.size, 0, none⟩) (Nat.le_refl _) _).setCell (p := ⟨w5.heap.size, 1, none⟩) (Nat.le_refl _) _))
     ((go_at_call 57; refine (HRP.out _ _ (by first | exact HF5.out.2.1 | exact HF5.out.2.1.below (below_drew (Below.refl _ _)) | exact HF5.out.2.1.below (below_drew ((Below.refl _ w5).alloc (Nat.le_refl _) _)) | exact HF5.out.2.1.below ((Below.refl _ w5).alloc (Nat.le_refl _) _) | exact HF5.out.2.1.below (pw_below_drewN (Below.refl _ _) _) | exact HF5.out.2.1.below (pw_below_drewN ((Below.refl _ w5).alloc (Nat.le_refl _) _) _))).mono ?_; rintro e w6 ⟨v', rfl, ⟨A7, c7, rfl, hle7, hC7⟩, hb6⟩; have hb56 : Below w5.heap.size w5 w6 := (by first | exact (below_drew (Below.refl _ w5)).trans hb6 | exact (below_drew ((Below.refl _ w5).alloc (Nat.le_refl _) _)).trans (hb6.mono (by simp)) | exact (pw_below_drewN (Below.refl _ w5) _).trans hb6 | exact (pw_below_drewN ((Below.refl _ w5).alloc (Nat.le_refl _) _) _).trans (hb6.mono (by simp))); have HC7 := qa hC7; clear hC7; (first | (have h9 := (hb6.block w5.heap.size (by simp)).trans (heap_alloc_new w5 _); have x90 : w6.cell? ⟨w5.heap.size, 0, none⟩ = some (.slice none 0 0) := (by rw [blk_cell h9]; rfl); have x91 : w6.cell? ⟨w5.heap.size, 1, none⟩ = some (.int .i64 0) := (by rw [blk_cell h9]; rfl); have f90 := blk_frozen h9 0; have f91 := blk_frozen h9 1; have H9 := qa h9; clear h9) | skip)))
    all_goals first
     | (have h9' := H9.out; have hR7 : RAt ((w6.setCell ⟨w5.heap.size, 0, none⟩ (.slice A7 L7.length c7)).setCell ⟨w5.heap.size, 1, none⟩ (.int .i64 n7)) (.agg #[.slice A7 L7.length c7, .int .i64 n7]) L7 n7 := RAt.but ⟨A7, c7, rfl, hle7, HC7.out⟩ (but_two h9' (by simp) (by simp)); have hb57 : Below w5.heap.size w5 ((w6.setCell ⟨w5.heap.size, 0, none⟩ (.slice A7 L7.length c7)).setCell ⟨w5.heap.size, 1, none⟩ (.int .i64 n7)) := (hb56.setCell (p := ⟨w5.heap.size, 0, none⟩) (Nat.le_refl _) _).setCell (p := ⟨w5.heap.size, 1, none⟩) (Nat.le_refl _) _; have h7 := two_set (u0 := .slice A7 L7.length c7) (u1 := .int .i64 n7) h9'; have hgr : w3.heap.size < w5.heap.size := hrlt; clear x90 x91 f90 f91 H9 h9'; generalize (w6.setCell ⟨w5.heap.size, 0, none⟩ (.slice A7 L7.length c7)).setCell ⟨w5.heap.size, 1, none⟩ (.int .i64 n7) = w7 at hR7 hb57 h7 ⊢; generalize w5.heap.size = g at h7 hgr ⊢)
     | (have hb57 : Below w5.heap.size w5 (w6.alloc (.cells #[.slice A7 L7.length c7, .int .i64 n7] 30)) := hb56.alloc hb56.size _; have hR7 : RAt (w6.alloc (.cells #[.slice A7 L7.length c7, .int .i64 n7] 30)) (.agg #[.slice A7 L7.length c7, .int .i64 n7]) L7 n7 := RAt.below ⟨A7, c7, rfl, hle7, HC7.out⟩ ((Below.refl _ w6).alloc (Nat.le_refl _) _); have h7 := heap_alloc_new w6 (.cells #[.slice A7 L7.length c7, .int .i64 n7] 30); have hgr : w3.heap.size < w6.heap.size := Nat.lt_of_lt_of_le hrlt hb56.size; generalize w6.alloc (.cells #[.slice A7 L7.length c7, .int .i64 n7] 30) = w7 at hR7 hb57 h7 ⊢; generalize w6.heap.size = g at h7 hgr ⊢)
    all_goals
     obtain ⟨hcl5, hR5, hN5, hS5, hT5⟩ := HF5.out
     have hcl7 := (hb57.block _ hrlt).trans hcl5
     have hS7 := (hb57.block _ (blk_lt hS5)).trans hS5
     have hN7 := hN5.below hb57
     have hT7 := hT5.below hb57
     have hB7 := HB5.out.trans (hb57.mono HB5.out.size)
     have y0 : w7.cell? ⟨g, 0, none⟩ = some (.slice A7 L7.length c7) := by rw [blk_cell h7]; rfl
     have y1 : w7.cell? ⟨g, 1, none⟩ = some (.int .i64 n7) := by rw [blk_cell h7]; rfl
     have z0 : w7.cell? ⟨w3.heap.size, 0, none⟩ = some (.slice A5 st.L.length c5) := by rw [blk_cell hcl7]; rfl
     have z1 : w7.cell? ⟨w3.heap.size, 1, none⟩ = some (.int .i64 st.last) := by rw [blk_cell hcl7]; rfl
     have f0 := blk_frozen hcl7 0
     have f1 := blk_frozen hcl7 1
     have hgne : g ≠ w3.heap.size := by omega
     have hpne : p ≠ w3.heap.size := by
      rintro rfl
      have h1 := hcl7
      rw [hT7.two.1] at h1
      injection h1 with h1
      injection h1 with _ h1
      exact absurd h1 (by decide)
     have hBne : B ≠ w3.heap.size := by
      rintro rfl
      have h1 := hcl7
      obtain ⟨_, es, ck, h2⟩ := hT7.two
      rw [h2] at h1
      cases h1
     have hbut := but_two (u0 := .slice A7 L7.length c7) (u1 := .int .i64 n7) hcl7 (by simp) (by simp)
     have hT8 := hT7.but hbut hpne hBne
     have hR8 := RAt.but hR7 hbut
     have hN8 := hN7.but hcl7 (by decide) hbut
     have hS8 := (hbut.g.block _ (blk_lt hS7) (fun e => by have := Option.some.inj e; have := HP.out.2.2; omega)).trans hS7
     have hcl8 := two_set (u0 := .slice A7 L7.length c7) (u1 := .int .i64 n7) hcl7
     have hB8 := (hB7.setCell (p := ⟨w3.heap.size, 0, none⟩) (Nat.le_of_lt HP.out.2.2) (.slice A7 L7.length c7)).setCell (p := ⟨w3.heap.size, 1, none⟩) (Nat.le_of_lt HP.out.2.2) (.int .i64 n7)
     have F8 := qa (And.intro hT8 (And.intro hR8 (And.intro hN8 (And.intro hS8 (And.intro hcl8 hB8)))))
     clear hcl5 hR5 hN5 hS5 hT5 hS7 hN7 hT7 hT8 hR8 hN8 hS8 hcl8 hB8 hbut hcl7 h7 hR7 hb57 hB7 hpne hBne hb6 HC7 r0 r1 b1 b2 b3 HF5 HK5
     go_upto_region 12 with (fail)
     generalize (w7.setCell ⟨w3.heap.size, 0, none⟩ (.slice A7 L7.length c7)).setCell ⟨w3.heap.size, 1, none⟩ (.int .i64 n7) = w8 at F8 ⊢
     clear y0 y1 z0 z1 f0 f1
     go_wp2_with ((with_reducible refine gate_builtin (b := .append) (xs := #[.tmp 85, .tmp 87]) rfl ?_); at_builtin; refine wpList_append_ints rfl (.tmp 85) (.tmp 87) rfl w.heap.size _ st.nums m7 rfl rfl F8.out.2.2.1 F8.out.2.2.2.2.2.size (by have := HNL.out; omega) ?_; intro v9 w9 ho9 hg9)
     have HO9 := qa ho9
     have F9 := made_round F8.out hle7 hg9
     have HF9 := qa F9
     clear ho9 hg9 F9
     go_roundw
     case rel =>
      refine ⟨i + 1, by go_num, hlt, ?_, ?_⟩
      ·
       rw [HTK.out, HSTEP.out]
       obtain ⟨g1, g2, g3, g4, g5, g6⟩ := HF9.out
       exact ⟨g1, g2, HP.out.1, HP.out.2.1, HP.out.2.2, ⟨A7, c7, g3, g4, g5⟩, HO9.out, g6⟩
      · rw [HTK.out]; exact minv_step HI.out x
     case measure => simp [intOf]; omega
  ·
   obtain rfl : i = l.length := by omega
   rw [List.take_length] at hM hI
   obtain ⟨A5, c5, hcl, hle5, hC5⟩ := hM.cell
   change wr.heap[w3.heap.size]? = some (.cells #[.slice A5 (madeF l).L.length c5, .int .i64 (madeF l).last] _ (0, 0)) at hcl
   change (madeF l).L.length ≤ c5 at hle5
   change Kd.C _ wr A5 (madeF l).L.length (madeF l).L at hC5
   have HT := qa (show TreeB wr p B (trOf (madeF l).L (madeF l).last) from hM.tree)
   have HX := qa (And.intro hle5 hC5)
   have HP := qa (And.intro hM.hp hM.hB)
   have HBB := qa hM.hb
   have HRES := qa hM.res
   have x0 : wr.cell? ⟨w3.heap.size, 0, none⟩ = some (.slice A5 (madeF l).L.length c5) := by rw [blk_cell hcl]; rfl
   have x1 : wr.cell? ⟨w3.heap.size, 1, none⟩ = some (.int .i64 (madeF l).last) := by rw [blk_cell hcl]; rfl
   have y0 : wr.cell? ⟨w.heap.size, 0, none⟩ = some (.slice none 0 0) := by rw [blk_cell hM.res]; rfl
   have y1 : wr.cell? ⟨w.heap.size, 1, none⟩ = some (.int .i64 0) := by rw [blk_cell hM.res]; rfl
   have f0 := blk_frozen hM.res 0
   have f1 := blk_frozen hM.res 1
   have hbut := but_two (u0 := .slice A5 (madeF l).L.length c5) (u1 := .int .i64 (madeF l).last) hM.res (by simp) (by simp)
   have hpne : p ≠ w.heap.size := by
    rintro rfl
    have h1 := hM.res
    rw [hM.tree.two.1] at h1
    injection h1 with h1
    injection h1 with _ h1
    exact absurd h1 (by decide)
   have hBne : B ≠ w.heap.size := by
    rintro rfl
    have h1 := hM.res
    obtain ⟨_, es, ck, h2⟩ := hM.tree.two
    rw [h2] at h1
    cases h1
   have hT9 := HT.out.but hbut hpne hBne
   have hR9 : RAt ((wr.setCell ⟨w.heap.size, 0, none⟩ (.slice A5 (madeF l).L.length c5)).setCell ⟨w.heap.size, 1, none⟩ (.int .i64 (madeF l).last)) (.agg #[.slice A5 (madeF l).L.length c5, .int .i64 (madeF l).last]) (madeF l).L (madeF l).last := RAt.but ⟨A5, c5, rfl, hle5, hC5⟩ hbut
   have hB9 : Below w.heap.size w ((wr.setCell ⟨w.heap.size, 0, none⟩ (.slice A5 (madeF l).L.length c5)).setCell ⟨w.heap.size, 1, none⟩ (.int .i64 (madeF l).last)) := (hM.hb.setCell (Nat.le_refl _) _).setCell (Nat.le_refl _) _
   have k2 : ((wr.setCell ⟨w.heap.size, 0, none⟩ (.slice A5 (madeF l).L.length c5)).setCell ⟨w.heap.size, 1, none⟩ (.int .i64 (madeF l).last)).heap[w.heap.size]? = some (.cells #[.slice A5 (madeF l).L.length c5, .int .i64 (madeF l).last] 30 (0, 0)) := by
    have k1 : (wr.setCell ⟨w.heap.size, 0, none⟩ (.slice A5 (madeF l).L.length c5)).heap[w.heap.size]? = some (.cells #[.slice A5 (madeF l).L.length c5, .int .i64 0] 30 (0, 0)) := by rw [setCell_eq_setRow wr _ 0 _ _ _ _ hM.res, setRow_heap wr _ _ _ _ _ hM.res]; rfl
    rw [setCell_eq_setRow _ _ 1 _ _ _ _ k1, setRow_heap _ _ _ _ _ _ k1]; rfl
   have FIN := qa (And.intro hT9 (And.intro hR9 (And.intro hB9 (And.intro k2 (And.intro hM.hp hM.hB)))))
   clear hM hI hcl hle5 hC5 hbut hpne hBne hT9 hR9 hB9 k2 HT HX HP HBB HRES
   go_wp2
   go_region
   go_wp2
   obtain ⟨hT9, hR9, hB9, k2, hp9, hBB9⟩ := FIN.out
   generalize (wr.setCell ⟨w.heap.size, 0, none⟩ (.slice A5 (madeF l).L.length c5)).setCell ⟨w.heap.size, 1, none⟩ (.int .i64 (madeF l).last) = w9 at hT9 hR9 hB9 k2 ⊢
   have c0 : w9.cell? ⟨w.heap.size, 0, none⟩ = some (.slice A5 (madeF l).L.length c5) := by rw [blk_cell k2]; rfl
   have c1 : w9.cell? ⟨w.heap.size, 1, none⟩ = some (.int .i64 (madeF l).last) := by rw [blk_cell k2]; rfl
   have hu := Tryz.underlying30
   refine bodyPost_ret (v := .tuple #[pT p, .agg #[.slice A5 (madeF l).L.length c5, .int .i64 (madeF l).last]]) (by simp [results, Tryz.results14, go_sem, c0, c1, hu]) rfl ⟨p, B, _, rfl, hT9.drew, hR9.below (below_drew (Below.refl _ _)), below_drew hB9, hp9, hBB9⟩
def spotRF (L : List RN) (last : Int) (k : Nat) (s : ByteArray) : Option R3 :=
 if beginE s = 0 then
  match (partsB s).getLast? with
  | none => some (noS 6)
  | some z => if z.toList = [46, 46] then some (noS 6) else (linhayref08_Go.f k L last 1 (partsB s).dropLast true 0).bind fun r =>
    if r.2.2 = 0 then (if (atR L r.1).f3 = 1 then (if Sp.check z.data.toList = 0 then some (r.1, z, 0) else some (noS (Sp.check z.data.toList))) else some (noS 7)) else some (noS r.2.2)
 else some (noS (beginE s))
theorem cutH (ad : Addr) (n len c : Nat) (h1 : n ≤ c) :
  ∀ W : World, (Instr.slice 186 (.slice (some ad) len c) none (some (.int .i64 (n : Int))) none).run Tryz.prog W = .ok (.slice (some ad) n c) W := by
 intro W
 obtain ⟨i0, hi, hz0, hz1, hz2⟩ := info_parts infoS
 have ht := Tryz.underlying186
 have hel : Tryz.prog.elem 186 = 9 := by simp [Program.elem, ht]
 have hu : Tryz.prog.underlying 186 = some (.slice (Tryz.prog.elem 186)) := by rw [hel]; exact ht
 rw [run_slice_h W 186 (some ad) len c hu .i64 (n : Int) (by omega) (by omega), hel]
 simp [sizeOf, typeInfo, hi, hz1, sliced, Result.andThen]
 intro _
 unfold Addr.add
 split <;> simp_all
theorem spot_both {L : List RN} {last : Int} (hG : GoodL L last) (hM : GoodM L) (s : ByteArray) : ∃ k k2 R, spotF (trOf L last) k s = some R ∧ spotRF L last k2 s = some R := by
 unfold spotF spotRF
 by_cases h0 : beginE s = 0
 ·
  simp only [if_pos h0]
  have hz := (beginE_ok h0).1
  have hpl := partsB_len' s
  cases hl : (partsB s).getLast? with
  | none => exact ⟨0, 0, _, rfl, rfl⟩
  | some z =>
   by_cases hd : z.toList = [46, 46]
   · simp only [if_pos hd]; exact ⟨0, 0, _, rfl, rfl⟩
   ·
    simp only [if_neg hd]
    obtain ⟨k, q, e, h, h1, h2⟩ := go_both hG hM true 40 _ (partsB s).dropLast 1 rfl (by omega) (by rw [List.length_dropLast]; omega)
    obtain ⟨k2, h3⟩ := Ev.rounds h2
    have h1' : walkF (trOf L last) true k 1 0 (partsB s).dropLast = some (q, e) := h1
    have h3' : linhayref08_Go.f k2 L last 1 (partsB s).dropLast true 0 = some (if e = 0 then q else 0, h, e) := h3
    obtain ⟨R, hR⟩ : ∃ R, (if e = 0 then (if (atR L q).f3 = 1 then (if Sp.check z.data.toList = 0 then some (q, z, 0) else some (noS (Sp.check z.data.toList))) else some (noS 7)) else some (noS e)) = some R := by
     repeat' split
     all_goals exact ⟨_, rfl⟩
    refine ⟨k, k2, R, ?_, ?_⟩
    ·
     rw [h1', ← hR]
     simp only [Option.bind_some, node_of hG]
    ·
     rw [h3', ← hR]
     simp only [Option.bind_some]
     by_cases he : e = 0
     · rw [if_pos he, if_pos he, if_pos he]
     · rw [if_neg he, if_neg he]
 · simp only [if_neg h0]; exact ⟨0, 0, _, rfl, rfl⟩
theorem rspot_calls (L : List RN) (last : Int) (v : Value) (s : ByteArray) (k : Nat) (R : R3) (w : World) (hV : RAt w v L last) (hl : L.length < 4294967296) (hR : spotRF L last k s = some R) :
  Calls Tryz.prog 107 #[v, .string s] w fun e w' => e = .returned (.tuple #[.int .i64 R.1, .string R.2.1, .int .i64 R.2.2]) ∧ Below w.heap.size w w' := by
 obtain ⟨A, c, rfl, hc, hC⟩ := hV
 have hu28 := Tryz.underlying30
 have HB0 := qh ((Below.refl w.heap.size w).alloc (Nat.le_refl _) (.cells #[.slice A L.length c, .int .i64 last] 30))
 have HBX := qh (heap_alloc_new w (.cells #[.slice A L.length c, .int .i64 last] 30))
 unfold spotRF at hR
 by_cases h0 : beginE s = 0
 ·
  rw [if_pos h0] at hR
  obtain ⟨hz, hne⟩ := beginE_ok h0
  have b0 : (s.toList == []) = false := by simpa using hne
  have b0' : s.toList.isEmpty = false := by simpa using hne
  have hz' : (s.size : Int) ≤ 1024 := by omega
  obtain ⟨kp, hkp⟩ := Ev.rounds (r04_parts s (by omega))
  have HP := qh (fun W => linhayref04_Parts.calls kp s (partsB s) W hkp)
  have hpl := partsB_len' s
  generalize partsB s = l at hR HP hpl
  clear h0 hkp hne
  rcases List.eq_nil_or_concat l with rfl | ⟨ini, z, rfl⟩
  ·
   have hR := Option.some.inj hR
   subst hR
   go_enter Tryz.func107, Tryz.ntmps107
   go_wp2_with (go_at_call 143; refine (HP.out _).mono ?_; rintro e w3 ⟨v, rfl, ho, hb3⟩; obtain ⟨A3, c3, rfl, hl3, hC3⟩ := Kd.R_reads ho; clear ho hC3)
   go_ret3
   exact ⟨rfl, HB0.out.trans (hb3.mono HB0.out.size)⟩
  ·
   rw [List.concat_eq_append] at *
   rw [List.getLast?_concat, List.dropLast_concat] at hR
   simp only [] at hR
   have hlen : (ini ++ [z]).length = ini.length + 1 := by simp
   have hini : ini.length ≤ 2000 := by simp at hpl; omega
   by_cases hdd : z.toList = [46, 46]
   ·
    rw [if_pos hdd] at hR
    have hR := Option.some.inj hR
    subst hR
    have b2 : (z.toList == [46, 46]) = true := by rw [hdd]; rfl
    clear hdd hC
    go_enter Tryz.func107, Tryz.ntmps107
    go_upto_region 6 with (go_at_call 143; refine (HP.out _).mono ?_; rintro e w3 ⟨v, rfl, ho, hb3⟩; obtain ⟨A3, c3, rfl, hl3, hC3⟩ := Kd.R_reads ho; have HC3 := qh hC3; clear ho hC3)
    obtain ⟨ad, eA, x0⟩ := Kd.at_string HC3.out (ini.length : Int) (by omega) (by simp; omega)
    have e0 : rdOf ByteArray.empty (ini ++ [z]) (ini.length : Int) = z := by simp [rdOf]
    rw [e0, Int.toNat_natCast] at x0
    subst eA
    have i0 : (0 : Int) ≤ (ini.length : Int) := by omega
    have i1 : (ini.length : Int) < (ini.length : Int) + 1 := by omega
    have i2 : (ini.length : Int) ≤ (ini.length : Int) + 1 := by omega
    have d0 : ((ini.length : Int) + 1 == 0) = false := by simp; omega
    clear e0
    go_wp2
    go_ret3
    exact ⟨rfl, HB0.out.trans (hb3.mono HB0.out.size)⟩
   ·
    rw [if_neg hdd] at hR
    have b2 : (z.toList == [46, 46]) = false := by simpa using hdd
    clear hdd
    obtain ⟨r, hr, hR⟩ := Option.bind_eq_some_iff.1 hR
    obtain ⟨rn, rh, re⟩ := r
    simp only [] at hR
    have HGO := qh (fun W A2 c2 h1 h2 h3 => linhayref08_Go.calls k A c L last 1 A2 c2 ini true 0 rn rh re W h1 hc h2 h3 hr)
    obtain ⟨ka, hka⟩ := Ev.rounds (r07_at L rn last hl)
    have HAT := qh (fun W h1 => linhayref07_At.calls ka A c L last rn _ _ _ _ _ W h1 hc hka)
    obtain ⟨kc, hkc⟩ := Ev.rounds (r03_check z)
    have HCK := qh (fun W => linhayref03_Check.calls kc z _ W hkc)
    have HC := qh hC
    have HR := qh hR
    generalize (atR L rn).f3 = kd at HAT HR
    generalize (atR L rn).f0 = kd0 at HAT
    generalize (atR L rn).f1 = kd1 at HAT
    generalize (atR L rn).f2 = kd2 at HAT
    generalize (atR L rn).f4 = kd4 at HAT
    generalize Sp.check z.data.toList = ck at HCK HR
    clear hC hR hr hka hkc
    go_enter Tryz.func107, Tryz.ntmps107
    go_upto_region 6 with (go_at_call 143; refine (HP.out _).mono ?_; rintro e w3 ⟨v, rfl, ho, hb3⟩; obtain ⟨A3, c3, rfl, hl3, hC3⟩ := Kd.R_reads ho; have HC3 := qh hC3; clear ho hC3)
    obtain ⟨ad, eA, x0⟩ := Kd.at_string HC3.out (ini.length : Int) (by omega) (by simp; omega)
    have e0 : rdOf ByteArray.empty (ini ++ [z]) (ini.length : Int) = z := by simp [rdOf]
    rw [e0, Int.toNat_natCast] at x0
    subst eA
    have i0 : (0 : Int) ≤ (ini.length : Int) := by omega
    have i1 : (ini.length : Int) < (ini.length : Int) + 1 := by omega
    have i2 : (ini.length : Int) ≤ (ini.length : Int) + 1 := by omega
    have d0 : ((ini.length : Int) + 1 == 0) = false := by simp; omega
    have hct := Kd.C_take (m := ini.length) HC3.out (by simp)
    rw [List.take_left] at hct
    have HCT := qh hct
    have HB3 := qh (HB0.out.trans (hb3.mono HB0.out.size))
    have hbx := (hb3.block _ (blk_lt HBX.out)).trans HBX.out
    have y0 : w3.cell? ⟨w.heap.size, 0, none⟩ = some (.slice A L.length c) := by rw [blk_cell hbx]; rfl
    have y1 : w3.cell? ⟨w.heap.size, 1, none⟩ = some (.int .i64 last) := by rw [blk_cell hbx]; rfl
    have HX3 := qh hbx
    have X0 := qh x0
    clear e0 hct hb3 hbx
    go_upto_region 8 with (fail)
    clear x0
    have d1 : decide ((ini.length : Int) < 0) = false := decide_eq_false (by omega)
    have i3 : (ini.length : Int) ≤ (c3 : Int) := by simp at hl3; omega
    have d2 : decide ((c3 : Int) < (ini.length : Int)) = false := decide_eq_false (by omega)
    have i4 : ini.length ≤ c3 := by omega
    have i5 : ¬ c3 = 0 := by simp at hl3; omega
    have i6 : ad.add 0 = ad := by unfold Addr.add; split <;> simp_all
    have hcut := cutH ad ini.length (ini.length + 1) c3 (by omega)
    have w1 : IntKind.i64.wrap (ini.length : Int) = (ini.length : Int) := IntWalk.i64_in _ (by omega)
    go_region_held3 (fun w' => w'.cell? ⟨w.heap.size, 0, none⟩ = some (.slice A L.length c) ∧ w'.cell? ⟨w.heap.size, 1, none⟩ = some (.int .i64 last)) (first | (go_keep; done) | exact ⟨pw_cell_below hb4 y0, pw_cell_below hb4 y1⟩)
     ((go_at_call 144; refine (HGO.out _ _ _ (Kd.C_below HC.out (by first | exact HB3.out | exact below_drew HB3.out | exact pw_below_drewN HB3.out _)) (by first | exact HCT.out | exact Kd.C_below HCT.out (below_drew (Below.refl _ _)) | exact Kd.C_below HCT.out (pw_below_drewN (Below.refl _ _) _)) (by simp at hl3; omega)).mono ?_; rintro e w4 ⟨rfl, hb4'⟩; have hb4 : Below w3.heap.size w3 w4 := (by first | exact hb4' | exact (below_drew (Below.refl _ w3)).trans hb4' | exact (pw_below_drewN (Below.refl _ w3) _).trans hb4')))
    clear w1 d1 d2 i3 i4 i5 i6 hcut
    have HB4 := qh (HB3.out.trans (hb4.mono HB3.out.size))
    have HX4 := qh ((hb4.block _ (blk_lt HX3.out)).trans HX3.out)
    have z0 := pw_cell_below hb4 y0
    have z1 := pw_cell_below hb4 y1
    have x4 := pw_cell_below hb4 X0.out
    clear y0 y1 hb4
    by_cases he : re = 0
    ·
     subst he
     rw [if_pos rfl] at HR
     by_cases hkd : kd = 1
     ·
      subst hkd
      rw [if_pos rfl] at HR
      by_cases hc0 : ck = 0
      ·
       subst hc0
       rw [if_pos rfl] at HR
       have hR := Option.some.inj HR.out
       subst hR
       go_upto_region 15 with (first | (go_at_call 68; refine (HAT.out _ (Kd.C_below HC.out HB4.out)).mono ?_; rintro e w5 ⟨rfl, hb5⟩; have x5 := pw_cell_below hb5 x4; have HB5 := qh (HB4.out.trans (hb5.mono HB4.out.size))) | (go_at_call 104; refine (HCK.out _).mono ?_; rintro e w6 ⟨rfl, hd6⟩; have x6 := pw_cell_below hd6.below x5; have HB6 := qh (HB5.out.trans (hd6.below.mono HB5.out.size))))
       clear x4 x5 z0 z1
       go_quiet (fail)
       go_wp2
       go_ret3
       exact ⟨rfl, pw_below_drewN HB6.out nq⟩
      ·
       rw [if_neg hc0] at HR
       have b6 : (ck != 0) = true := bne_iff_ne.2 hc0
       have hR := Option.some.inj HR.out
       subst hR
       clear hc0
       go_wp2_with (first | (go_at_call 68; refine (HAT.out _ (Kd.C_below HC.out HB4.out)).mono ?_; rintro e w5 ⟨rfl, hb5⟩; have x5 := pw_cell_below hb5 x4; have HB5 := qh (HB4.out.trans (hb5.mono HB4.out.size))) | (go_at_call 104; refine (HCK.out _).mono ?_; rintro e w6 ⟨rfl, hd6⟩; have HB6 := qh (HB5.out.trans (hd6.below.mono HB5.out.size))))
       go_ret3
       exact ⟨rfl, HB6.out⟩
     ·
      rw [if_neg hkd] at HR
      have b5 : (kd != 1) = true := bne_iff_ne.2 hkd
      have hR := Option.some.inj HR.out
      subst hR
      clear hkd
      go_wp2_with (go_at_call 68; refine (HAT.out _ (Kd.C_below HC.out HB4.out)).mono ?_; rintro e w5 ⟨rfl, hb5⟩; have HB5 := qh (HB4.out.trans (hb5.mono HB4.out.size)))
      go_ret3
      exact ⟨rfl, HB5.out⟩
    ·
     rw [if_neg he] at HR
     have b4 : (re == 0) = false := by simpa using he
     have b4' : (re != 0) = true := bne_iff_ne.2 he
     have hR := Option.some.inj HR.out
     subst hR
     clear he
     go_wp2
     go_ret3
     exact ⟨rfl, HB4.out⟩
 ·
  rw [if_neg h0] at hR
  have hR := Option.some.inj hR
  subst hR
  unfold beginE at h0 ⊢
  by_cases h1 : s.toList = []
  ·
   rw [if_pos h1] at h0 ⊢
   have b0 : (s.toList == []) = true := by simpa using h1
   have b0' : s.toList.isEmpty = true := by simpa using h1
   clear hC
   go_enter Tryz.func107, Tryz.ntmps107
   go_wp2
   go_ret3
   exact ⟨rfl, HB0.out⟩
  ·
   have b0 : (s.toList == []) = false := by simpa using h1
   have b0' : s.toList.isEmpty = false := by simpa using h1
   by_cases h2 : s.size > 1024
   ·
    rw [if_neg h1, if_pos h2]
    have h2' : (1024 : Int) < (s.size : Int) := by omega
    clear hC h0 h1
    go_enter Tryz.func107, Tryz.ntmps107
    go_wp2
    go_ret3
    exact ⟨rfl, HB0.out⟩
   · rw [if_neg h1, if_neg h2] at h0; exact absurd rfl h0
def bulkN (x : MN) : Nat := 1 + (x.f1.size + 1 + (1 + (x.f3.size + 1))) + 1
theorem sum_in8 {α : Type} (β : α → Nat) {x : α} : ∀ {l : List α}, x ∈ l → β x ≤ (l.map β).sum
 | y :: l, h => by
  rw [List.map_cons, List.sum_cons]
  rcases List.mem_cons.1 h with rfl | h
  · omega
  · have := sum_in8 β h; omega
theorem few_ev (l : List MN) (hl : l.length < 4294967296) : ∃ b, Ev (fun k => linhaylaw08_Few.f k l) b ∧ (b = true → l.length ≤ 60) := by
 have key : ∀ (d i : Nat), i + d = l.length → ∃ b, Ev (fun k => linhaylaw08_Few.l0 k l (i : Int)) b ∧ (b = true → l.length ≤ 60) := by
  intro d
  induction d with
  | zero =>
   intro i hi
   refine ⟨decide ((l.length : Int) ≤ 60), ?_, fun h => by have := of_decide_eq_true h; omega⟩
   refine Ev.step (fun k => by rw [linhaylaw08_Few.l0]) ?_
   exact ev_neg (by omega) (Ev.now _)
  | succ d ih =>
   intro i hi
   obtain ⟨b, h1, h2⟩ := ih (i + 1) (by omega)
   by_cases hz : (((rd_T93 l (i : Int)).f3).size : Int) > 2000
   ·
    refine ⟨false, ?_, fun h => by cases h⟩
    refine Ev.step (fun k => by rw [linhaylaw08_Few.l0]) ?_
    exact ev_pos (by omega) (ev_pos (by omega) (ev_pos hz (Ev.now _)))
   ·
    refine ⟨b, ?_, h2⟩
    refine Ev.step (fun k => by rw [linhaylaw08_Few.l0]) ?_
    refine ev_pos (by omega) (ev_pos (by omega) (ev_neg hz ?_))
    rw [w1 (by omega)]
    exact h1
 exact key l.length 0 (by omega)
theorem three_set {w : World} {k : Nat} {v0 v1 v2 u0 u1 u2 : Value} {t : TypeId} (h : w.heap[k]? = some (.cells #[v0, v1, v2] t (0, 0))) : (((w.setCell ⟨k, 0, none⟩ u0).setCell ⟨k, 1, none⟩ u1).setCell ⟨k, 2, none⟩ u2).heap[k]? = some (.cells #[u0, u1, u2] t (0, 0)) := by
 have k1 : (w.setCell ⟨k, 0, none⟩ u0).heap[k]? = some (.cells #[u0, v1, v2] t (0, 0)) := by rw [setCell_eq_setRow w _ 0 _ _ _ _ h, setRow_heap w _ _ _ _ _ h]; rfl
 have k2 : ((w.setCell ⟨k, 0, none⟩ u0).setCell ⟨k, 1, none⟩ u1).heap[k]? = some (.cells #[u0, u1, v2] t (0, 0)) := by rw [setCell_eq_setRow _ _ 1 _ _ _ _ k1, setRow_heap _ _ _ _ _ _ k1]; rfl
 rw [setCell_eq_setRow _ _ 2 _ _ _ _ k2, setRow_heap _ _ _ _ _ _ k2]; rfl
def sizeT (T : Tr) (n : Int) : Int := ((T.node n).data.size : Int) + ((T.node n).ents.length : Int)
def stT (T : Tr) (R : Int × Int) : Int × Int × Int := if R.2 = 0 then (R.1, (T.node R.1).kind, sizeT T R.1) else (0, 0, 0)
abbrev v3 (x : Int × Int × Int) : Value := .agg #[.int .i64 x.1, .int .i64 x.2.1, .int .i64 x.2.2]
theorem stat_calls (p : Nat) (T : Tr) (s : ByteArray) (last : Bool) (k : Nat) (R : Int × Int) (w : World) (hT : TreeAt w p T) (hO : TrOK T) (hw : wf R.1) (hR : findF T last k s = some R) :
  Calls Tryz.prog 133 #[pT p, .string s, .bool last] w fun e w' => e = .returned (.tuple #[v3 (stT T R), .int .i64 R.2]) ∧ Below w.heap.size w w' := by
 have HF := qh (fun W h => seekFind_calls p T s last k R W h hO hR)
 have HK := qh (fun W h => kind_calls p T R.1 W h hw)
 have HD := qh (fun W h => data_calls p T R.1 W h hw)
 have HL := qh (fun W h => list_calls p T R.1 W h hw (hO.small.node R.1))
 have hdz := hO.sz R.1
 have hlz := hO.small.node R.1
 have HT := qh hT
 have HST := qh (show stT T R = if R.2 = 0 then (R.1, (T.node R.1).kind, ((T.node R.1).data.size : Int) + ((T.node R.1).ents.length : Int)) else (0, 0, 0) from rfl)
 generalize stT T R = st at *
 obtain ⟨n, e⟩ := R
 simp only [] at *
 generalize T.node n = nd at *
 obtain ⟨kd, up, dt, es⟩ := nd
 simp only [] at *
 clear hT hO hw hR
 have hu := Tryz.underlying143
 have HB0 := qh ((Below.refl w.heap.size w).alloc (Nat.le_refl _) (.cells #[.int .i64 0, .int .i64 0, .int .i64 0] 143))
 have HX0 := qh (heap_alloc_new w (.cells #[.int .i64 0, .int .i64 0, .int .i64 0] 143))
 by_cases he : e = 0
 ·
  subst he
  have hst := HST.out
  rw [if_pos rfl] at hst
  subst hst
  clear HST
  go_enter Tryz.func133, Tryz.ntmps133
  go_upto_region 4 with (go_at_call 156; refine (HF.out _ (HT.out.below HB0.out)).mono ?_; rintro e w2 ⟨rfl, hb2⟩)
  have HB2 := qh (HB0.out.trans (hb2.mono HB0.out.size))
  have H2 := qh ((hb2.block _ (blk_lt HX0.out)).trans HX0.out)
  have HT2 := qh (HT.out.below HB2.out)
  clear hb2
  go_wp2_with (first
   | (go_at_call 69; refine (HK.out _ HT2.out).mono ?_; rintro e w3 ⟨rfl, hb3⟩)
   | (go_at_call 70; refine (HD.out _ (HT2.out.below hb3)).mono ?_; rintro e w4 ⟨rfl, hb4⟩)
   | (go_at_call 74; refine (HL.out _ ((HT2.out.below hb3).below hb4)).mono ?_; rintro e w5 ⟨v, rfl, ho, hb5⟩; obtain ⟨A5, c5, rfl, hl5, hC5⟩ := Kd.R_reads ho; have HB5 := qh (hb3.trans ((hb4.mono hb3.size).trans (hb5.mono (Nat.le_trans hb3.size hb4.size)))); have h5 := (HB5.out.block _ (blk_lt H2.out)).trans H2.out; have x0 : w5.cell? ⟨w.heap.size, 0, none⟩ = some (.int .i64 0) := (by rw [blk_cell h5]; rfl); have x1 : w5.cell? ⟨w.heap.size, 1, none⟩ = some (.int .i64 0) := (by rw [blk_cell h5]; rfl); have x2 : w5.cell? ⟨w.heap.size, 2, none⟩ = some (.int .i64 0) := (by rw [blk_cell h5]; rfl); have f0 := blk_frozen h5 0; have f1 := blk_frozen h5 1; have f2 := blk_frozen h5 2; have H5 := qh h5; clear h5 ho hC5 hb3 hb4 hb5))
  have H9 := qh (three_set (u0 := .int .i64 n) (u1 := .int .i64 kd) (u2 := .int .i64 ((dt.size : Int) + (es.length : Int))) H5.out)
  have HB9 := qh ((((HB2.out.trans (HB5.out.mono HB2.out.size)).setCell (p := ⟨w.heap.size, 0, none⟩) (Nat.le_refl _) (.int .i64 n)).setCell (p := ⟨w.heap.size, 1, none⟩) (Nat.le_refl _) (.int .i64 kd)).setCell (p := ⟨w.heap.size, 2, none⟩) (Nat.le_refl _) (.int .i64 ((dt.size : Int) + (es.length : Int))))
  clear x0 x1 x2
  generalize ((w5.setCell ⟨w.heap.size, 0, none⟩ (.int .i64 n)).setCell ⟨w.heap.size, 1, none⟩ (.int .i64 kd)).setCell ⟨w.heap.size, 2, none⟩ (.int .i64 ((dt.size : Int) + (es.length : Int))) = w9 at H9 HB9 ⊢
  have c0 : w9.cell? ⟨w.heap.size, 0, none⟩ = some (.int .i64 n) := by rw [blk_cell H9.out]; rfl
  have c1 : w9.cell? ⟨w.heap.size, 1, none⟩ = some (.int .i64 kd) := by rw [blk_cell H9.out]; rfl
  have c2 : w9.cell? ⟨w.heap.size, 2, none⟩ = some (.int .i64 ((dt.size : Int) + (es.length : Int))) := by rw [blk_cell H9.out]; rfl
  refine bodyPost_ret (v := .tuple #[.agg #[.int .i64 n, .int .i64 kd, .int .i64 ((dt.size : Int) + (es.length : Int))], .int .i64 0]) (by simp [results, Tryz.results133, go_sem, c0, c1, c2, hu]) rfl ⟨rfl, HB9.out⟩
 ·
  have hst := HST.out
  rw [if_neg he] at hst
  subst hst
  have he' : (e != 0) = true := bne_iff_ne.2 he
  clear HST he
  go_enter Tryz.func133, Tryz.ntmps133
  go_upto_region 3 with (go_at_call 156; refine (HF.out _ (HT.out.below HB0.out)).mono ?_; rintro e w2 ⟨rfl, hb2⟩)
  have h2 := (hb2.block _ (blk_lt HX0.out)).trans HX0.out
  have hB2 := HB0.out.trans (hb2.mono HB0.out.size)
  have x0 : w2.cell? ⟨w.heap.size, 0, none⟩ = some (.int .i64 0) := by rw [blk_cell h2]; rfl
  have x1 : w2.cell? ⟨w.heap.size, 1, none⟩ = some (.int .i64 0) := by rw [blk_cell h2]; rfl
  have x2 : w2.cell? ⟨w.heap.size, 2, none⟩ = some (.int .i64 0) := by rw [blk_cell h2]; rfl
  have f0 := blk_frozen h2 0
  have f1 := blk_frozen h2 1
  have f2 := blk_frozen h2 2
  have H3 := qh (three_set (u0 := .int .i64 0) (u1 := .int .i64 0) (u2 := .int .i64 0) h2)
  have HB3 := qh (((hB2.setCell (p := ⟨w.heap.size, 0, none⟩) (Nat.le_refl _) (.int .i64 0)).setCell (p := ⟨w.heap.size, 1, none⟩) (Nat.le_refl _) (.int .i64 0)).setCell (p := ⟨w.heap.size, 2, none⟩) (Nat.le_refl _) (.int .i64 0))
  clear h2 hB2 hb2
  go_wp2
  generalize ((w2.setCell ⟨w.heap.size, 0, none⟩ (.int .i64 0)).setCell ⟨w.heap.size, 1, none⟩ (.int .i64 0)).setCell ⟨w.heap.size, 2, none⟩ (.int .i64 0) = w9 at H3 HB3 ⊢
  have c0 : w9.cell? ⟨w.heap.size, 0, none⟩ = some (.int .i64 0) := by rw [blk_cell H3.out]; rfl
  have c1 : w9.cell? ⟨w.heap.size, 1, none⟩ = some (.int .i64 0) := by rw [blk_cell H3.out]; rfl
  have c2 : w9.cell? ⟨w.heap.size, 2, none⟩ = some (.int .i64 0) := by rw [blk_cell H3.out]; rfl
  refine bodyPost_ret (v := .tuple #[.agg #[.int .i64 0, .int .i64 0, .int .i64 0], .int .i64 e]) (by simp [results, Tryz.results133, go_sem, c0, c1, c2, hu]) rfl ⟨rfl, HB3.out⟩
theorem pstat_calls (p : Nat) (T : Tr) (s : ByteArray) (k : Nat) (R : Int × Int) (w : World) (hT : TreeAt w p T) (hO : TrOK T) (hw : wf R.1) (hR : findF T true k s = some R) :
  Calls Tryz.prog 91 #[pT p, .string s] w fun e w' => e = .returned (.tuple #[v3 (stT T R), .int .i64 R.2]) ∧ Below w.heap.size w w' := by
 have HS := qh (fun W h => stat_calls p T s true k R W h hO hw hR)
 have HT := qh hT
 have hu := Tryz.underlying143
 have HB0 := qh ((Below.refl w.heap.size w).alloc (Nat.le_refl _) (.cells #[.int .i64 0, .int .i64 0, .int .i64 0] 143))
 have HX0 := qh (heap_alloc_new w (.cells #[.int .i64 0, .int .i64 0, .int .i64 0] 143))
 generalize stT T R = st at *
 obtain ⟨a0, a1, a2⟩ := st
 generalize R.2 = e at *
 clear hT hO hw hR
 go_enter Tryz.func91, Tryz.ntmps91
 go_wp2_with (go_at_call 133; refine (HS.out _ (HT.out.below HB0.out)).mono ?_; rintro e w5 ⟨rfl, hb5⟩; have h5 := (hb5.block _ (blk_lt HX0.out)).trans HX0.out; have x0 : w5.cell? ⟨w.heap.size, 0, none⟩ = some (.int .i64 0) := (by rw [blk_cell h5]; rfl); have x1 : w5.cell? ⟨w.heap.size, 1, none⟩ = some (.int .i64 0) := (by rw [blk_cell h5]; rfl); have x2 : w5.cell? ⟨w.heap.size, 2, none⟩ = some (.int .i64 0) := (by rw [blk_cell h5]; rfl); have f0 := blk_frozen h5 0; have f1 := blk_frozen h5 1; have f2 := blk_frozen h5 2; have H5 := qh h5; have HB5 := qh (HB0.out.trans (hb5.mono HB0.out.size)); clear h5 hb5)
 have H9 := qh (three_set (u0 := .int .i64 a0) (u1 := .int .i64 a1) (u2 := .int .i64 a2) H5.out)
 have HB9 := qh (((HB5.out.setCell (p := ⟨w.heap.size, 0, none⟩) (Nat.le_refl _) (.int .i64 a0)).setCell (p := ⟨w.heap.size, 1, none⟩) (Nat.le_refl _) (.int .i64 a1)).setCell (p := ⟨w.heap.size, 2, none⟩) (Nat.le_refl _) (.int .i64 a2))
 clear x0 x1 x2
 generalize ((w5.setCell ⟨w.heap.size, 0, none⟩ (.int .i64 a0)).setCell ⟨w.heap.size, 1, none⟩ (.int .i64 a1)).setCell ⟨w.heap.size, 2, none⟩ (.int .i64 a2) = w9 at H9 HB9 ⊢
 have c0 : w9.cell? ⟨w.heap.size, 0, none⟩ = some (.int .i64 a0) := by rw [blk_cell H9.out]; rfl
 have c1 : w9.cell? ⟨w.heap.size, 1, none⟩ = some (.int .i64 a1) := by rw [blk_cell H9.out]; rfl
 have c2 : w9.cell? ⟨w.heap.size, 2, none⟩ = some (.int .i64 a2) := by rw [blk_cell H9.out]; rfl
 refine bodyPost_ret (v := .tuple #[.agg #[.int .i64 a0, .int .i64 a1, .int .i64 a2], .int .i64 e]) (by simp [results, Tryz.results91, go_sem, c0, c1, c2, hu]) rfl ⟨rfl, HB9.out⟩
def OnlyV (W : World) (v : Value) (kind e : Int) : Prop := ∃ g h : Nat, v = .func (.func 140) #[] #[.pointer (some ⟨g, 0, none⟩), .pointer (some ⟨h, 0, none⟩)] ∧ W.heap[g]? = some (.cells #[.int .i64 kind] 3 (0, 0)) ∧ W.heap[h]? = some (.cells #[.int .i64 e] 37 (0, 0))
theorem OnlyV.below {w W : World} {v : Value} {kind e : Int} (h : OnlyV w v kind e) (hb : Below w.heap.size w W) : OnlyV W v kind e := by
 obtain ⟨g, k, rfl, h1, h2⟩ := h
 exact ⟨g, k, rfl, (hb.block _ (blk_lt h1)).trans h1, (hb.block _ (blk_lt h2)).trans h2⟩
theorem only_calls (kind e : Int) (w : World) : Calls Tryz.prog 96 #[.int .i64 kind, .int .i64 e] w fun r w' => ∃ v, r = .returned v ∧ OnlyV w' v kind e ∧ Below w.heap.size w w' := by
 go_enter Tryz.func96, Tryz.ntmps96
 go_wp2
 go_ret
 have h1 := heap_alloc_new w (.cells #[.int .i64 kind] 3)
 have h2 := heap_alloc_new (w.alloc (.cells #[.int .i64 kind] 3)) (.cells #[.int .i64 e] 37)
 have e2 : (w.alloc (.cells #[.int .i64 kind] 3)).heap.size = w.heap.size + 1 := Array.size_push _
 rw [e2] at h2
 refine ⟨_, rfl, ⟨_, _, rfl, (heap_alloc_old _ _ _ (blk_lt h1)).trans h1, h2⟩, ?_⟩
 exact ((Below.refl w.heap.size w).alloc (Nat.le_refl _) _).alloc (by rw [e2]; omega) _
theorem only1_calls (k kind e : Int) (g h : Nat) (w : World) (h1 : w.heap[g]? = some (.cells #[.int .i64 kind] 3 (0, 0))) (h2 : w.heap[h]? = some (.cells #[.int .i64 e] 37 (0, 0))) :
  Calls Tryz.prog 140 #[.int .i64 k, .pointer (some ⟨g, 0, none⟩), .pointer (some ⟨h, 0, none⟩)] w fun r w' => r = .returned (.int .i64 (if k = kind then 0 else e)) ∧ Below w.heap.size w w' := by
 have x1 : w.cell? ⟨g, 0, none⟩ = some (.int .i64 kind) := by rw [blk_cell h1]; rfl
 have x2 : w.cell? ⟨h, 0, none⟩ = some (.int .i64 e) := by rw [blk_cell h2]; rfl
 by_cases hk : k = kind
 ·
  subst hk
  rw [if_pos rfl]
  go_enter Tryz.func140, Tryz.ntmps140
  go_wp2
  go_ret
  exact ⟨rfl, Below.refl _ _⟩
 ·
  rw [if_neg hk]
  have hk' : (k != kind) = true := bne_iff_ne.2 hk
  clear hk
  go_enter Tryz.func140, Tryz.ntmps140
  go_wp2
  go_ret
  exact ⟨rfl, Below.refl _ _⟩
def StrV (W : World) (v : Value) (l : List ByteArray) : Prop := ∃ A c, v = .slice A l.length c ∧ l.length ≤ c ∧ Kd.C Kd.string W A l.length l
theorem StrV.below {w W : World} {v : Value} {l : List ByteArray} (h : StrV w v l) (hb : Below w.heap.size w W) : StrV W v l := by
 obtain ⟨A, c, rfl, h1, h2⟩ := h
 exact ⟨A, c, rfl, h1, Kd.C_below h2 hb⟩
theorem node_rt {T : Tr} (hO : TrOK T) (n : Int) : Rt (T.node n).ents := by
 unfold Tr.node
 cases hx : T.get n with
 | none => exact List.Pairwise.nil
 | some x => exact hO.sorted n x hx
end Go.Proofs.YtnpeeiikdcankaaGreat.Tw

namespace Go.Proofs.YtnpeeiikdcankaaGreat.X
open Go.RowKit Go.Proofs.YtnpeeiikdcankaaGreatW.PrintWords Go.Proofs.YtnpeeiikdcankaaGreatW.PrintLast Go.Proofs.YtnpeeiikdcankaaGreatW.PrintMore Go.Proofs.YtnpeeiikdcankaaGreat.Ext
attribute [local go_sem] max2_int min2_int max_two min_two max_three min_three max_four min_four
def linhayref06_Right.l0 : Nat → List (S162) → Int → Option (Bool)
 | 0, _, _ => none
 | k + 1, x0, x3 => if (wrap64 (x3 + 1)) < (x0.length : Int) then (if 0 ≤ x3 then (if x3 < (x0.length : Int) then (if 0 ≤ (wrap64 (x3 + 1)) then (if ((Op.bytesLess (((rd_T162 x0 x3).f0).toList) (((rd_T162 x0 (wrap64 (x3 + 1))).f0).toList)) = true) then (linhayref06_Right.l0 k x0 (wrap64 (x3 + 1))) else (some false)) else (none)) else (none)) else (none)) else (some true)
def linhayref06_Right.f (k : Nat) (l0 : List (S162)) : Option (Bool) := linhayref06_Right.l0 k l0 0
theorem linhayref06_Right.calls (k : Nat) (A0 : Option Addr) (c0 : Nat) (l0 : List (S162)) (r : Bool) (w : World) (hr0 : Kd.C k162 w A0 l0.length l0) (hc0 : l0.length ≤ c0) (h : linhayref06_Right.f k l0 = some r) :
  Calls Tryz.prog 179 #[.slice A0 l0.length c0] w fun e w' => e = .returned (.bool r) ∧ Drawn0 w w' := by
 have hu36 := Tryz.underlying36
 have hu49 := Tryz.underlying49
 have hu66 := Tryz.underlying66
 have hu93 := Tryz.underlying93
 have hu106 := Tryz.underlying106
 have hu115 := Tryz.underlying115
 have hu130 := Tryz.underlying130
 have hu162 := Tryz.underlying162
 have HR0 := qa hr0
 have HC0 := qa hc0
 clear hr0 hc0
 have H : (linhayref06_Right.l0 k l0 0) = some r := h
 clear h
 have H' := qa H
 clear H
 go_enter Tryz.func179, Tryz.ntmps179
 go_wp2
 repeat (go_quiet (fail); try go_wp2)
 go_loopg [3] k (fun kq v3 w' => ∃ (x3_1 : Int), v3 = .int .i64 x3_1 ∧ Aside0 (linhayref06_Right.l0 kq l0 x3_1 = some r) ∧ Aside0 (kq ≤ k) ∧ Drawn0 w w')
 case atStart => exact ⟨(0), (by first | rfl | (simp; done) | (simp [*]; done) | (simp [bne_nil]; done)), H', ⟨Nat.le_refl _⟩, by repeat (first | exact Drawn0.refl _ | apply Drawn0.step)⟩
 case round =>
  clear H'
  try clear c1
  obtain ⟨x3_1, rfl, HA, HK1, ⟨m1, rfl⟩⟩ := hrel
  cases gk with
  | zero => exact absurd HA.out (by simp [linhayref06_Right.l0])
  | succ k1 =>
   have H := HA.out
   clear HA
   simp only [linhayref06_Right.l0] at H
   by_cases c2 : (wrap64 (x3_1 + 1)) < (l0.length : Int)
   ·
    rw [if_pos c2] at H
    have c2b0 : decide ((wrap64 (x3_1 + 1)) < (l0.length : Int)) = true := decide_eq_true c2
    clear c2
    by_cases c3 : 0 ≤ x3_1
    ·
     rw [if_pos c3] at H
     have c3b0 : decide (0 ≤ x3_1) = true := decide_eq_true c3
     clear c3
     by_cases c4 : x3_1 < (l0.length : Int)
     ·
      rw [if_pos c4] at H
      have c4b0 : decide (x3_1 < (l0.length : Int)) = true := decide_eq_true c4
      clear c4
      obtain ⟨ji5, hji5⟩ : ∃ j_ : Int, (wrap64 (x3_1 + 1)) = j_ := ⟨_, rfl⟩
      replace H : (if 0 ≤ (ji5) then (if ((Op.bytesLess (((rd_T162 l0 x3_1).f0).toList) (((rd_T162 l0 (ji5)).f0).toList)) = true) then (linhayref06_Right.l0 k1 l0 ji5) else (some false)) else (none)) = some r := by first | (rw [hji5] at H; exact H) | (simp only [hji5] at H ⊢; exact H)
      (try rw [hji5] at c2b0)
      have hji5w : (IntKind.i64.wrap (x3_1 + 1)) = ji5 := (i64_w _).trans hji5
      by_cases c6 : 0 ≤ (ji5)
      ·
       rw [if_pos c6] at H
       have c6b0 : decide (0 ≤ (ji5)) = true := decide_eq_true c6
       clear c6
       by_cases c7 : ((Op.bytesLess (((rd_T162 l0 x3_1).f0).toList) (((rd_T162 l0 (ji5)).f0).toList)) = true)
       ·
        rw [if_pos c7] at H
        have c7b0 : (Op.bytesLess (((rd_T162 l0 x3_1).f0).toList) (((rd_T162 l0 (ji5)).f0).toList)) = true := c7
        (try (have c7L1 : Op.bytesLess (((rd_T162 l0 (ji5)).f0).toList) (((rd_T162 l0 x3_1).f0).toList) = false := less_asym _ _ c7b0; have c7L2 : ((((rd_T162 l0 (ji5)).f0).toList) == (((rd_T162 l0 x3_1).f0).toList)) = false := less_flip c7b0))
        clear c7
        have H' := qa H
        clear H
        have p149 : 0 ≤ (x3_1 : Int) := of_decide_eq_true (by first | (with_reducible assumption) | assumption)
        have q149 : x3_1 < (l0.length : Int) := of_decide_eq_true (by first | (with_reducible assumption) | assumption)
        obtain ⟨ad149, e149, hx149_0, hx149_1⟩ := at_T162 HR0.out x3_1 p149 q149
        cases e149
        replace p149 := eq_true p149
        replace q149 := eq_true q149
        have p150 : 0 ≤ ((ji5) : Int) := of_decide_eq_true (by first | (with_reducible assumption) | assumption)
        have q150 : (ji5) < (l0.length : Int) := of_decide_eq_true (by first | (with_reducible assumption) | assumption)
        obtain ⟨ad150, e150, hx150_0, hx150_1⟩ := at_T162 HR0.out (ji5) p150 q150
        obtain rfl : ad149 = ad150 := (by injection e150)
        replace p150 := eq_true p150
        replace q150 := eq_true q150
        go_wp2
        repeat (go_quiet (fail); try go_wp2)
        go_roundg k1
        case measure => have := HK1.out; omega
        case rel => exact ⟨(ji5), (by first | rfl | (simp; done) | (simp only [← hji5] <;> (first | rfl | simp)) | (simp [*]; done)), H', ⟨by have := HK1.out; omega⟩, by repeat (first | exact Drawn0.refl _ | apply Drawn0.step)⟩
       ·
        rw [if_neg c7] at H
        have c7b0 : (Op.bytesLess (((rd_T162 l0 x3_1).f0).toList) (((rd_T162 l0 (ji5)).f0).toList)) = false := by simpa using c7
        (try (have c7L1 : (Op.bytesLess (((rd_T162 l0 (ji5)).f0).toList) (((rd_T162 l0 x3_1).f0).toList) || (((rd_T162 l0 (ji5)).f0).toList) == (((rd_T162 l0 x3_1).f0).toList)) = true := less_tot _ _ c7b0))
        clear c7
        obtain rfl := Option.some.inj H
        have p149 : 0 ≤ (x3_1 : Int) := of_decide_eq_true (by first | (with_reducible assumption) | assumption)
        have q149 : x3_1 < (l0.length : Int) := of_decide_eq_true (by first | (with_reducible assumption) | assumption)
        obtain ⟨ad149, e149, hx149_0, hx149_1⟩ := at_T162 HR0.out x3_1 p149 q149
        cases e149
        replace p149 := eq_true p149
        replace q149 := eq_true q149
        have p150 : 0 ≤ ((ji5) : Int) := of_decide_eq_true (by first | (with_reducible assumption) | assumption)
        have q150 : (ji5) < (l0.length : Int) := of_decide_eq_true (by first | (with_reducible assumption) | assumption)
        obtain ⟨ad150, e150, hx150_0, hx150_1⟩ := at_T162 HR0.out (ji5) p150 q150
        obtain rfl : ad149 = ad150 := (by injection e150)
        replace p150 := eq_true p150
        replace q150 := eq_true q150
        go_wp2
        repeat (go_quiet (fail); try go_wp2)
        go_ret
        exact ⟨by first | rfl | (simp; done) | (simp only [← hji5] <;> (first | rfl | simp)) | (simp [*]; done), by repeat (first | exact Drawn0.refl _ | apply Drawn0.step)⟩
      ·
       rw [if_neg c6] at H
       exact absurd H (by simp)
     ·
      rw [if_neg c4] at H
      exact absurd H (by simp)
    ·
     rw [if_neg c3] at H
     exact absurd H (by simp)
   ·
    rw [if_neg c2] at H
    have c2b0 : decide ((wrap64 (x3_1 + 1)) < (l0.length : Int)) = false := decide_eq_false c2
    clear c2
    obtain rfl := Option.some.inj H
    go_wp2
    repeat (go_quiet (fail); try go_wp2)
    go_ret
    exact ⟨by first | rfl | (simp; done) | (simp [*]; done), by repeat (first | exact Drawn0.refl _ | apply Drawn0.step)⟩
def linhayref06_all.f (k : Nat) (l0 : List (S162)) : Option ((List (S162))) := (linhayref06_Right.f k l0).bind fun t151 => (if t151 = true then (some l0) else (some ([] : List (S162))))
theorem linhayref06_all.calls (k : Nat) (P0_ : Nat → Prop) (u9000_ : Value) (l0 : List (S162)) (r : List (S162)) (w0 w : World) (hB : Below w0.heap.size w0 w) (ho0 : Kd.R k162 162 w w0.heap.size P0_ u9000_ l0) (h : linhayref06_all.f k l0 = some r) :
  Calls Tryz.prog 167 #[u9000_] w fun e w' => ∃ v0_ : Value, e = .returned (v0_) ∧ Kd.R k162 162 w' w0.heap.size (fun k_ => (P0_ k_ ∨ w.heap.size ≤ k_)) v0_ r ∧ Below w0.heap.size w0 w' ∧ Kept w w' (fun k_ => P0_ k_) := by
 have hu36 := Tryz.underlying36
 have hu49 := Tryz.underlying49
 have hu66 := Tryz.underlying66
 have hu93 := Tryz.underlying93
 have hu106 := Tryz.underlying106
 have hu115 := Tryz.underlying115
 have hu130 := Tryz.underlying130
 have hu162 := Tryz.underlying162
 have HO0 := qa (show Kd.R k162 162 w w0.heap.size (fun k_ => (P0_ k_ ∨ w.heap.size ≤ k_)) u9000_ l0 from Kd.R_mono ho0 (fun k_ hk => (.inl hk)))
 have HK := qa (Kept.refl w (fun k_ => P0_ k_))
 have HW0 := qa hB.size
 have HB := qa hB
 clear hB
 have H : ((linhayref06_Right.f k l0).bind fun t151 => (if t151 = true then (some l0) else (some ([] : List (S162))))) = some r := h
 clear h
 replace H := Option.bind_eq_some_iff.mp H
 obtain ⟨t151, A20, H⟩ := H
 replace H : (if t151 = true then (some l0) else (some ([] : List (S162)))) = some r := H
 have A2 := qa A20
 clear A20
 by_cases c3 : t151 = true
 ·
  subst c3
  have H1 : (some l0) = some r := by rw [if_pos rfl] at H; exact H
  clear H
  have H := H1
  clear H1
  obtain rfl := Option.some.inj H
  obtain ⟨Ao4, co4, eo4⟩ := Kd.R_slice HO0.out
  subst eo4
  go_enter Tryz.func167, Tryz.ntmps167
  go_wp2_with (first | ((with_reducible refine gate_callee (f := 179) rfl ?_); refine goesL_ (some 4) rfl rfl Tryz.func179 (by kernel_rfl) rfl #[.slice Ao4 l0.length co4] rfl (by (try simp only [List.map_toArray, List.map_cons, List.map_nil]); first | done | rfl | (simp only [List.length_drop, List.length_take]; rfl)) ?_; (with_reducible refine (linhayref06_Right.calls k _ _ l0 true _ ?side1 ?side2 A2.out).mono ?_); (case side1 => repeat (first | exact (Kd.R_reads' HO0.out).2.2 | (with_reducible refine Kd.C_alloc ?_ _) | (with_reducible refine Kd.C_drewN ?_ _) | (with_reducible refine Kd.C_drew ?_))); (case side2 => exact (Kd.R_reads' HO0.out).2.1); rintro e w' ⟨rfl, ⟨nd, rfl⟩⟩; refine ⟨_, rfl, ?_⟩))
  go_ret
  exact ⟨_, by first | rfl | (simp [errW_none, errW_some] <;> rfl) | (simp [*, errW_none, errW_some] <;> rfl) | (simp [errW_none, errW_some, bne_nil]; done) | (simp [*, bne_nil]; done) | (simp [bne]; done), by (with_reducible repeat (first | apply Kd.R_alloc | apply Kd.R_drewN | apply Kd.R_drew)); exact HO0.out, by repeat (first | (with_reducible first | exact HB.out | apply below_alloc | apply pw_below_drewN | apply below_drew1) | exact HB.out), by repeat (first | (with_reducible first | exact HK.out | apply Kept.alloc | apply Kept.drewN | apply Kept.drew) | exact HK.out)⟩
 ·
  replace c3 := Bool.eq_false_iff.mpr c3
  subst c3
  have H1 : (some ([] : List (S162))) = some r := by rw [if_neg (show ¬ (false = true) by decide)] at H; exact H
  clear H
  have H := H1
  clear H1
  obtain rfl := Option.some.inj H
  obtain ⟨Ao5, co5, eo5⟩ := Kd.R_slice HO0.out
  subst eo5
  go_enter Tryz.func167, Tryz.ntmps167
  go_wp2_with (first | ((with_reducible refine gate_callee (f := 179) rfl ?_); refine goesL_ (some 4) rfl rfl Tryz.func179 (by kernel_rfl) rfl #[.slice Ao5 l0.length co5] rfl (by (try simp only [List.map_toArray, List.map_cons, List.map_nil]); first | done | rfl | (simp only [List.length_drop, List.length_take]; rfl)) ?_; (with_reducible refine (linhayref06_Right.calls k _ _ l0 false _ ?side1 ?side2 A2.out).mono ?_); (case side1 => repeat (first | exact (Kd.R_reads' HO0.out).2.2 | (with_reducible refine Kd.C_alloc ?_ _) | (with_reducible refine Kd.C_drewN ?_ _) | (with_reducible refine Kd.C_drew ?_))); (case side2 => exact (Kd.R_reads' HO0.out).2.1); rintro e w' ⟨rfl, ⟨nd, rfl⟩⟩; refine ⟨_, rfl, ?_⟩))
  go_ret
  exact ⟨_, by first | rfl | (simp [errW_none, errW_some] <;> rfl) | (simp [*, errW_none, errW_some] <;> rfl) | (simp [errW_none, errW_some, bne_nil]; done) | (simp [*, bne_nil]; done) | (simp [bne]; done), by first | exact Kd.R_nil _ _ _ _ _ | exact Kd.N_nil _ _ _ _ _ | exact Kd.V_nil _ _ _ _ _ | exact Kd.Q_nil _ _ _ _ _ | exact Kd.S_nil _ _ _ _ _, by repeat (first | (with_reducible first | exact HB.out | apply below_alloc | apply pw_below_drewN | apply below_drew1) | exact HB.out), by repeat (first | (with_reducible first | exact HK.out | apply Kept.alloc | apply Kept.drewN | apply Kept.drew) | exact HK.out)⟩
def linhayref06_Cut.l0 : Nat → List (S162) → ByteArray → List (S162) → Int → Option ((List (S162)))
 | 0, _, _, _, _ => none
 | k + 1, x0, x1, x5, x6 => if x6 < (x0.length : Int) then (if 0 ≤ x6 then (if ((rd_T162 x0 x6).f0).toList = x1.toList then (linhayref06_Cut.l0 k x0 x1 x5 (wrap64 (x6 + 1))) else (if x5.length < 5864062014805 then (linhayref06_Cut.l0 k x0 x1 (x5 ++ [(⟨(rd_T162 x0 x6).f0, (rd_T162 x0 x6).f1⟩ : S162)]) (wrap64 (x6 + 1))) else (none))) else (none)) else (some x5)
def linhayref06_Cut.f (k : Nat) (l0 : List (S162)) (a1 : ByteArray) : Option ((List (S162))) := (linhayref06_all.f k l0).bind fun t152 => (linhayref06_Cut.l0 k t152 a1 ([] : List (S162)) 0)
theorem linhayref06_Cut.calls (k : Nat) (P0_ : Nat → Prop) (u9000_ : Value) (l0 : List (S162)) (a1 : ByteArray) (r : List (S162)) (w0 w : World) (hB : Below w0.heap.size w0 w) (ho0 : Kd.R k162 162 w w0.heap.size P0_ u9000_ l0) (h : linhayref06_Cut.f k l0 a1 = some r) :
  Calls Tryz.prog 150 #[u9000_, .string a1] w fun e w' => ∃ v0_ : Value, e = .returned (v0_) ∧ Kd.R k162 162 w' w0.heap.size (fun k_ => (P0_ k_ ∨ w.heap.size ≤ k_)) v0_ r ∧ Below w0.heap.size w0 w' ∧ Kept w w' (fun k_ => P0_ k_) := by
 have hu36 := Tryz.underlying36
 have hu49 := Tryz.underlying49
 have hu66 := Tryz.underlying66
 have hu93 := Tryz.underlying93
 have hu106 := Tryz.underlying106
 have hu115 := Tryz.underlying115
 have hu130 := Tryz.underlying130
 have hu162 := Tryz.underlying162
 have HO0 := qa (show Kd.R k162 162 w w0.heap.size (fun k_ => (P0_ k_ ∨ w.heap.size ≤ k_)) u9000_ l0 from Kd.R_mono ho0 (fun k_ hk => (.inl hk)))
 have HK := qa (Kept.refl w (fun k_ => P0_ k_))
 have HW0 := qa hB.size
 have HB := qa hB
 clear hB
 have H : ((linhayref06_all.f k l0).bind fun t152 => (linhayref06_Cut.l0 k t152 a1 ([] : List (S162)) 0)) = some r := h
 clear h
 replace H := Option.bind_eq_some_iff.mp H
 obtain ⟨t152, A30, H⟩ := H
 replace H : (linhayref06_Cut.l0 k t152 a1 ([] : List (S162)) 0) = some r := H
 have A3 := qa A30
 clear A30
 have H' := qa H
 clear H
 obtain ⟨Ao4, co4, eo4⟩ := Kd.R_slice HO0.out
 subst eo4
 go_enter Tryz.func150, Tryz.ntmps150
 go_wp2_with (first | ((with_reducible refine gate_callee (f := 167) rfl ?_); refine goesL_ (some 8) rfl rfl Tryz.func167 (by kernel_rfl) rfl #[.slice Ao4 l0.length co4] rfl (by (try simp only [List.map_toArray, List.map_cons, List.map_nil]); first | done | rfl | (simp only [List.length_drop, List.length_take]; rfl)) ?_; (with_reducible refine (linhayref06_all.calls k (fun k_ => some k_ = (.slice Ao4 l0.length co4 : Value).ownBlock) (.slice Ao4 l0.length co4) l0 t152 w0 _ ?side1 ?side2 A3.out).mono ?_); (case side1 => repeat (first | (with_reducible first | exact HB.out | apply below_alloc | apply pw_below_drewN | apply below_drew1) | exact HB.out)); (case side2 => exact Kd.R_tight rfl HO0.out); rintro e w5 ⟨v153, rfl, ho0, hb, hkp⟩; refine ⟨_, rfl, ?_⟩; have n0_ := qa (Kd.R_mono (ok' := fun k_ => (P0_ k_ ∨ w.heap.size ≤ k_)) ho0 (fun k_ hk_ => Or.elim hk_ (fun hs_ => (HO0.out.1 k_ (hs_).symm)) (fun hn_ => (.inr (Nat.le_trans (by first | exact HK.out.1 | exact (show Kept w _ (fun k_ => P0_ k_) from by repeat (first | (with_reducible first | exact HK.out | apply Kept.alloc | apply Kept.drewN | apply Kept.drew) | exact HK.out)).1) hn_))))); have n1_ := qa (Kept.then_ (S := (fun k_ => P0_ k_)) (by repeat (first | (with_reducible first | exact HK.out | apply Kept.alloc | apply Kept.drewN | apply Kept.drew) | exact HK.out)) hkp (fun k_ hs_ => (fun e_ => (HO0.out.1 k_ e_.symm)) hs_)); have n2_ := qa (hb); clear HK; clear HB; clear HO0; have HO154 := n0_; have HK := n1_; have HB := n2_; clear n0_ n1_ n2_; (try clear hb); (try clear hkp); (try clear ho0)))
 go_loopg [5, 6] k (fun kq v5 v6 w' => ∃ (x5_1 : List (S162)) (x6_1 : Int), v6 = .int .i64 x6_1 ∧ Aside0 (linhayref06_Cut.l0 kq t152 a1 x5_1 x6_1 = some r) ∧ Aside0 (kq ≤ k) ∧ Aside0 (Kd.R k162 162 w' w0.heap.size (fun k_ => (P0_ k_ ∨ w.heap.size ≤ k_) ∧ some k_ ≠ (v5 : Value).ownBlock) v153 t152) ∧ Aside0 (Kd.R k162 162 w' w0.heap.size (fun k_ => (P0_ k_ ∨ w.heap.size ≤ k_) ∧ some k_ ≠ (v153 : Value).ownBlock) v5 x5_1) ∧ Aside0 (Kept w w' (fun k_ => P0_ k_)) ∧ Aside0 (Below w0.heap.size w0 w'))
 case atStart => exact ⟨(([] : List (S162))), (0), (by first | rfl | (simp; done) | (simp [*]; done) | (simp [bne_nil]; done)), H', ⟨Nat.le_refl _⟩, ⟨by (with_reducible repeat (first | apply Kd.R_alloc | apply Kd.R_drewN | apply Kd.R_drew)); exact Kd.R_mono HO154.out (fun _ hk => ⟨hk, (by simp [Value.ownBlock])⟩)⟩, ⟨by first | exact Kd.R_nil _ _ _ _ _ | exact Kd.N_nil _ _ _ _ _ | exact Kd.V_nil _ _ _ _ _ | exact Kd.Q_nil _ _ _ _ _ | exact Kd.S_nil _ _ _ _ _⟩, ⟨by repeat (first | (with_reducible first | exact HK.out | apply Kept.alloc | apply Kept.drewN | apply Kept.drew) | exact HK.out)⟩, ⟨by repeat (first | (with_reducible first | exact HB.out | apply below_alloc | apply pw_below_drewN | apply below_drew1) | exact HB.out)⟩⟩
 case round =>
  clear H'
  try clear c1
  try clear p2
  obtain ⟨x5_1, x6_1, rfl, HA, HK1, HO_0, HO_5, HK, HB⟩ := hrel
  cases gk with
  | zero => exact absurd HA.out (by simp [linhayref06_Cut.l0])
  | succ k1 =>
   have H := HA.out
   clear HA
   simp only [linhayref06_Cut.l0] at H
   by_cases c6 : x6_1 < (t152.length : Int)
   ·
    rw [if_pos c6] at H
    have c6b0 : decide (x6_1 < (t152.length : Int)) = true := decide_eq_true c6
    clear c6
    by_cases c7 : 0 ≤ x6_1
    ·
     rw [if_pos c7] at H
     have c7b0 : decide (0 ≤ x6_1) = true := decide_eq_true c7
     clear c7
     by_cases c8 : ((rd_T162 t152 x6_1).f0).toList = a1.toList
     ·
      rw [if_pos c8] at H
      have c8b0 : (((rd_T162 t152 x6_1).f0).toList == a1.toList) = true := beq_iff_eq.mpr c8
      have c8b1 : (((rd_T162 t152 x6_1).f0).toList != a1.toList) = false := bne_eq_false_iff_eq.mpr c8
      clear c8
      have H' := qa H
      clear H
      obtain ⟨Ao9, co9, eo9⟩ := Kd.R_slice HO_0.out
      subst eo9
      have p155 : 0 ≤ (x6_1 : Int) := of_decide_eq_true (by first | (with_reducible assumption) | assumption)
      have q155 : x6_1 < (t152.length : Int) := of_decide_eq_true (by first | (with_reducible assumption) | assumption)
      obtain ⟨ad155, e155, hx155_0, hx155_1⟩ := at_T162 (Kd.R_reads' HO_0.out).2.2 x6_1 p155 q155
      cases e155
      replace p155 := eq_true p155
      replace q155 := eq_true q155
      go_wp2
      go_roundg k1
      case measure => have := HK1.out; omega
      case rel => exact ⟨(x5_1), (wrap64 (x6_1 + 1)), (by first | rfl | (simp; done) | (simp [*]; done) | (simp [bne_nil]; done)), H', ⟨by have := HK1.out; omega⟩, ⟨by (with_reducible repeat (first | apply Kd.R_alloc | apply Kd.R_drewN | apply Kd.R_drew)); first | exact HO_0.out | exact own_cut HO_0.out⟩, ⟨by (with_reducible repeat (first | apply Kd.R_alloc | apply Kd.R_drewN | apply Kd.R_drew)); first | exact HO_5.out | exact own_cut HO_5.out⟩, ⟨by repeat (first | (with_reducible first | exact HK.out | apply Kept.alloc | apply Kept.drewN | apply Kept.drew) | exact HK.out)⟩, ⟨by repeat (first | (with_reducible first | exact HB.out | apply below_alloc | apply pw_below_drewN | apply below_drew1) | exact HB.out)⟩⟩
     ·
      rw [if_neg c8] at H
      have c8b0 : (((rd_T162 t152 x6_1).f0).toList == a1.toList) = false := beq_eq_false_iff_ne.mpr c8
      have c8b1 : (((rd_T162 t152 x6_1).f0).toList != a1.toList) = true := bne_iff_ne.mpr c8
      by_cases c10 : x5_1.length < 5864062014805
      ·
       rw [if_pos c10] at H
       have LMc10 := qa c10
       clear c10
       obtain ⟨y157, hy157⟩ : ∃ y_ : List (S162), y_ = (x5_1 ++ [(⟨(rd_T162 t152 x6_1).f0, (rd_T162 t152 x6_1).f1⟩ : S162)]) := ⟨_, rfl⟩
       replace H : (linhayref06_Cut.l0 k1 t152 a1 y157 (wrap64 (x6_1 + 1))) = some r := by first | (rw [hy157]; with_reducible exact H) | (have H2_ := (Option.bind_some _ _).symm.trans H; rw [hy157]; with_reducible exact H2_) | (have H2_ := (Option.bind_some _ _).symm.trans H; with_reducible exact H2_) | with_reducible exact H | (rw [hy157]; exact H) | exact H
       have Ny157 := qa hy157
       clear hy157
       have H' := qa H
       clear H
       obtain ⟨Ao11, co11, eo11⟩ := Kd.R_slice HO_0.out
       subst eo11
       have p155 : 0 ≤ (x6_1 : Int) := of_decide_eq_true (by first | (with_reducible assumption) | assumption)
       have q155 : x6_1 < (t152.length : Int) := of_decide_eq_true (by first | (with_reducible assumption) | assumption)
       obtain ⟨ad155, e155, hx155_0, hx155_1⟩ := at_T162 (Kd.R_reads' HO_0.out).2.2 x6_1 p155 q155
       cases e155
       replace p155 := eq_true p155
       replace q155 := eq_true q155
       have p156 : 0 ≤ (x6_1 : Int) := of_decide_eq_true (by first | (with_reducible assumption) | assumption)
       have q156 : x6_1 < (t152.length : Int) := of_decide_eq_true (by first | (with_reducible assumption) | assumption)
       obtain ⟨ad156, e156, hx156_0, hx156_1⟩ := at_T162 (Kd.R_reads' HO_0.out).2.2 x6_1 p156 q156
       obtain rfl : ad155 = ad156 := (by injection e156)
       replace p156 := eq_true p156
       replace q156 := eq_true q156
       go_wp2_with (first | ((with_reducible refine gate_builtin (b := .append) (xs := #[.tmp 22, .tmp 27]) rfl ?_); at_builtin; refine Kd.R_append k162 (w0 := w0) w0.heap.size rfl (.tmp 22) (.tmp 27) 110 162 (.agg #[(.string ⟨#[]⟩), (.int .i64 0)]) 24 rfl Tryz.underlying110 info162 rfl (by decide) (by omega) u5 x5_1 (⟨(rd_T162 t152 x6_1).f0, (rd_T162 t152 x6_1).f1⟩ : S162) [.string ((rd_T162 t152 x6_1).f0), .int .i64 ((rd_T162 t152 x6_1).f1)] (fun k_ => (P0_ k_ ∨ w.heap.size ≤ k_) ∧ some k_ ≠ (.slice (some ad155) t152.length co11 : Value).ownBlock) (fun _ => False) rfl rfl ?aP (fun _ hk => hk.elim) ?aF ?aO ?aB ?aS ?aL ?_; (case aP => exact k162_mkM _ _ _ (⟨(rd_T162 t152 x6_1).f0, (rd_T162 t152 x6_1).f1⟩ : S162)); (case aB => exact (by repeat (first | (with_reducible first | exact HB.out | apply below_alloc | apply pw_below_drewN | apply below_drew1) | exact HB.out))); (case aF => exact (fun k_ hk => ⟨(.inr (Nat.le_trans (by first | exact HK.out.1 | exact (show Kept w _ (fun k_ => P0_ k_) from by repeat (first | (with_reducible first | exact HK.out | apply Kept.alloc | apply Kept.drewN | apply Kept.drew) | exact HK.out)).1) hk)), Kd.fresh' (Kd.R_lt (by (with_reducible repeat (first | apply Kd.R_alloc | apply Kd.R_drewN | apply Kd.R_drew)); exact HO_0.out)) k_ hk⟩)); (case aO => exact (by (with_reducible repeat (first | apply Kd.R_alloc | apply Kd.R_drewN | apply Kd.R_drew)); exact HO_5.out)); (case aS => exact (below_size (by repeat (first | (with_reducible first | exact HB.out | apply below_alloc | apply pw_below_drewN | apply below_drew1) | exact HB.out)))); (case aL => have := LMc10.out; omega); intro v158 w12 ho hb hg hat; rw [← Ny157.out] at ho; have n0_ := qa (Kd.R_after (ok := (fun k_ => (P0_ k_ ∨ w.heap.size ≤ k_))) (by (with_reducible repeat (first | apply Kd.R_alloc | apply Kd.R_drewN | apply Kd.R_drew)); exact HO_0.out) hg hat); have n1_ := qa (hb); have n2_ := qa (Kept.of_grown (S := (fun k_ => P0_ k_)) hg (by repeat (first | (with_reducible first | exact HK.out | apply Kept.alloc | apply Kept.drewN | apply Kept.drew) | exact HK.out)) (fun k_ e_ => (HO_5.out.1 k_ e_).1)); have n3_ := qa (ho); clear HO_0; clear HB; clear HK; clear HO_5; have HO_0 := n0_; have HB := n1_; have HK := n2_; have HO159 := n3_; clear n0_ n1_ n2_ n3_; clear ho hb hg hat))
       go_roundg k1
       case measure => have := HK1.out; omega
       case rel => exact ⟨(y157), (wrap64 (x6_1 + 1)), (by first | rfl | (simp; done) | (simp [*]; done) | (simp [bne_nil]; done)), H', ⟨by have := HK1.out; omega⟩, ⟨by (with_reducible repeat (first | apply Kd.R_alloc | apply Kd.R_drewN | apply Kd.R_drew)); first | exact HO_0.out | exact own_cut HO_0.out⟩, ⟨by (with_reducible repeat (first | apply Kd.R_alloc | apply Kd.R_drewN | apply Kd.R_drew)); first | exact HO159.out | exact own_cut HO159.out⟩, ⟨by repeat (first | (with_reducible first | exact HK.out | apply Kept.alloc | apply Kept.drewN | apply Kept.drew) | exact HK.out)⟩, ⟨by repeat (first | (with_reducible first | exact HB.out | apply below_alloc | apply pw_below_drewN | apply below_drew1) | exact HB.out)⟩⟩
      ·
       rw [if_neg c10] at H
       exact absurd H (by simp)
    ·
     rw [if_neg c7] at H
     exact absurd H (by simp)
   ·
    rw [if_neg c6] at H
    have c6b0 : decide (x6_1 < (t152.length : Int)) = false := decide_eq_false c6
    clear c6
    obtain rfl := Option.some.inj H
    obtain ⟨Ao13, co13, eo13⟩ := Kd.R_slice HO_0.out
    subst eo13
    go_wp2
    go_ret
    exact ⟨_, by first | rfl | (simp [errW_none, errW_some] <;> rfl) | (simp [*, errW_none, errW_some] <;> rfl) | (simp [errW_none, errW_some, bne_nil]; done) | (simp [*, bne_nil]; done) | (simp [bne]; done), by (with_reducible repeat (first | apply Kd.R_alloc | apply Kd.R_drewN | apply Kd.R_drew)); exact Kd.R_mono HO_5.out (fun _ hk => hk.1), by repeat (first | (with_reducible first | exact HB.out | apply below_alloc | apply pw_below_drewN | apply below_drew1) | exact HB.out), by repeat (first | (with_reducible first | exact HK.out | apply Kept.alloc | apply Kept.drewN | apply Kept.drew) | exact HK.out)⟩
mutual
def linhayref06_Put.l0 : Nat → List (S162) → List (S162) → Int → ByteArray → Int → Option ((List (S162)))
 | 0, _, _, _, _, _ => none
 | k + 1, x0, x5, x6, x161000, x161001 => if x6 < (x0.length : Int) then (if 0 ≤ x6 then (if (Op.bytesLess (((rd_T162 x0 x6).f0).toList) x161000.toList) = true then (if x5.length < 5864062014805 then (linhayref06_Put.l0 k x0 (x5 ++ [(⟨(rd_T162 x0 x6).f0, (rd_T162 x0 x6).f1⟩ : S162)]) (wrap64 (x6 + 1)) x161000 x161001) else (none)) else (linhayref06_Put.l0 k x0 x5 (wrap64 (x6 + 1)) x161000 x161001)) else (none)) else (if x5.length < 5864062014805 then (linhayref06_Put.l1 k x0 (x5 ++ [(⟨x161000, x161001⟩ : S162)]) 0 x161000 x161001) else (none))
def linhayref06_Put.l1 : Nat → List (S162) → List (S162) → Int → ByteArray → Int → Option ((List (S162)))
 | 0, _, _, _, _, _ => none
 | k + 1, x0, x5, x7, x161000, x161001 => if x7 < (x0.length : Int) then (if 0 ≤ x7 then (if (Op.bytesLess x161000.toList (((rd_T162 x0 x7).f0).toList)) = true then (if x5.length < 5864062014805 then (linhayref06_Put.l1 k x0 (x5 ++ [(⟨(rd_T162 x0 x7).f0, (rd_T162 x0 x7).f1⟩ : S162)]) (wrap64 (x7 + 1)) x161000 x161001) else (none)) else (linhayref06_Put.l1 k x0 x5 (wrap64 (x7 + 1)) x161000 x161001)) else (none)) else (some x5)
end
def linhayref06_Put.f (k : Nat) (l0 : List (S162)) (a1_0 : ByteArray) (a1_1 : Int) : Option ((List (S162))) := (linhayref06_Cut.f k l0 a1_0).bind fun t161 => (linhayref06_Put.l0 k t161 ([] : List (S162)) 0 a1_0 a1_1)
theorem linhayref06_Put.calls (k : Nat) (P0_ : Nat → Prop) (u9000_ : Value) (l0 : List (S162)) (a1_0 : ByteArray) (a1_1 : Int) (r : List (S162)) (w0 w : World) (hB : Below w0.heap.size w0 w) (ho0 : Kd.R k162 162 w w0.heap.size P0_ u9000_ l0) (h : linhayref06_Put.f k l0 a1_0 a1_1 = some r) :
  Calls Tryz.prog 117 #[u9000_, .agg #[.string a1_0, .int .i64 a1_1]] w fun e w' => ∃ v0_ : Value, e = .returned (v0_) ∧ Kd.R k162 162 w' w0.heap.size (fun k_ => (P0_ k_ ∨ w.heap.size ≤ k_)) v0_ r ∧ Below w0.heap.size w0 w' ∧ Kept w w' (fun k_ => P0_ k_) := by
 have hu36 := Tryz.underlying36
 have hu49 := Tryz.underlying49
 have hu66 := Tryz.underlying66
 have hu93 := Tryz.underlying93
 have hu106 := Tryz.underlying106
 have hu115 := Tryz.underlying115
 have hu130 := Tryz.underlying130
 have hu162 := Tryz.underlying162
 have HO0 := qa (show Kd.R k162 162 w w0.heap.size (fun k_ => (P0_ k_ ∨ w.heap.size ≤ k_)) u9000_ l0 from Kd.R_mono ho0 (fun k_ hk => (.inl hk)))
 have HK := qa (Kept.refl w (fun k_ => P0_ k_))
 have HW0 := qa hB.size
 have HB := qa hB
 clear hB
 have H : ((linhayref06_Cut.f k l0 a1_0).bind fun t161 => (linhayref06_Put.l0 k t161 ([] : List (S162)) 0 a1_0 a1_1)) = some r := h
 clear h
 replace H := Option.bind_eq_some_iff.mp H
 obtain ⟨t161, A30, H⟩ := H
 replace H : (linhayref06_Put.l0 k t161 ([] : List (S162)) 0 a1_0 a1_1) = some r := H
 have A3 := qa A30
 clear A30
 have H' := qa H
 clear H
 go_enter Tryz.func117, Tryz.ntmps117
 go_wp2_with (first | ((with_reducible refine gate_dst (N := 3) rfl ?_); refine box_event ?hg (N := 3) ?hd (cs := #[.string a1_0, .int .i64 a1_1]) (t := 162) ?hr ?_; (case hd => rfl); (case hg => rfl); (case hr => first | (go_simp; done) | (go_simp; rfl)); intro gb160 hg w4 hbox hb; have n0_ := qa (Kd.R_below (Kd.R_elderB (by (with_reducible repeat (first | apply Kd.R_alloc | apply Kd.R_drewN | apply Kd.R_drew)); exact HO0.out) gb160 (Nat.le_of_eq hg.symm)) hb); have n1_ := qa (Kept.below (S := (fun k_ => P0_ k_)) (by repeat (first | (with_reducible first | exact HK.out | apply Kept.alloc | apply Kept.drewN | apply Kept.drew) | exact HK.out)) hb); have n2_ := qa (below_step (by repeat (first | (with_reducible first | exact HB.out | apply below_alloc | apply pw_below_drewN | apply below_drew1) | exact HB.out)) hb); have n3_ := qa (hbox); have n4_ := qa ((by rw [hg]; exact (by first | exact HK.out.1 | exact (show Kept w _ (fun k_ => P0_ k_) from by repeat (first | (with_reducible first | exact HK.out | apply Kept.alloc | apply Kept.drewN | apply Kept.drew) | exact HK.out)).1) : w.heap.size ≤ gb160)); have n5_ := qa ((by rw [hg]; exact (below_size (by repeat (first | (with_reducible first | exact HB.out | apply below_alloc | apply pw_below_drewN | apply below_drew1) | exact HB.out))) : w0.heap.size ≤ gb160)); clear HO0; clear HK; clear HB; have HO0 := n0_; have HK := n1_; have HB := n2_; have BK160 := n3_; have GW160 := n4_; have GE160 := n5_; clear n0_ n1_ n2_ n3_ n4_ n5_; clear hb hbox hg; have hcz5_0 : w4.cell? ⟨gb160, 0, none⟩ = some (.string a1_0) := (blk_cell BK160.out 0).trans rfl; have hcz5_1 : w4.cell? ⟨gb160, 1, none⟩ = some (.int .i64 a1_1) := (blk_cell BK160.out 1).trans rfl; have hfz5_0 := blk_frozen BK160.out 0; have hfz5_1 := blk_frozen BK160.out 1; obtain ⟨Ao6, co6, eo6⟩ := Kd.R_slice HO0.out; subst eo6) | (go_at_call 150; (with_reducible refine (linhayref06_Cut.calls k (fun k_ => some k_ = (.slice Ao6 l0.length co6 : Value).ownBlock) (.slice Ao6 l0.length co6) l0 a1_0 t161 w0 _ ?side1 ?side2 A3.out).mono ?_); (case side1 => repeat (first | (with_reducible first | exact HB.out | apply below_alloc | apply pw_below_drewN | apply below_drew1 | refine below_set ?_ GE160.out) | exact HB.out)); (case side2 => exact Kd.R_tight rfl HO0.out); rintro e w7 ⟨v162, rfl, ho0, hb, hkp⟩; have n0_ := qa (blk_kept (by (with_reducible repeat (first | refine blk_drewN ?_ _ | refine blk_drew ?_ | refine blk_alloc ?_ _)); exact BK160.out) hkp (fun hs_ => (fun e_ => (Kd.R_away HO0.out (fun _ hk => hk.2)) e_) hs_)); have n1_ := qa (Kd.R_mono (ok' := fun k_ => (P0_ k_ ∨ w.heap.size ≤ k_) ∧ k_ ≠ gb160) ho0 (fun k_ hk_ => ⟨Or.elim hk_ (fun hs_ => (HO0.out.1 k_ (hs_).symm).1) (fun hn_ => (.inr (Nat.le_trans (by first | exact HK.out.1 | exact (show Kept w _ (fun k_ => P0_ k_) from by repeat (first | (with_reducible first | exact HK.out | apply Kept.alloc | apply Kept.drewN | apply Kept.drew | refine Kept.setCell ?_ (.inr GW160.out) _) | exact HK.out)).1) hn_))), Or.elim hk_ (fun hs_ => fun e_ => (Kd.R_away HO0.out (fun _ hk => hk.2)) (by rw [← e_]; exact hs_)) (fun hn_ => (Kd.freshB (g := gb160) (o := .cells #[.string a1_0, .int .i64 a1_1] 162 (0, 0)) (by (with_reducible repeat (first | refine blk_drewN ?_ _ | refine blk_drew ?_ | refine blk_alloc ?_ _)); exact BK160.out) k_ hn_))⟩)); have n2_ := qa (Kept.then_ (S := (fun k_ => P0_ k_)) (by repeat (first | (with_reducible first | exact HK.out | apply Kept.alloc | apply Kept.drewN | apply Kept.drew | refine Kept.setCell ?_ (.inr GW160.out) _) | exact HK.out)) hkp (fun k_ hs_ => (fun e_ => (HO0.out.1 k_ e_.symm).1) hs_)); have n3_ := qa (hb); clear BK160; clear HK; clear HB; clear HO0; have BK160 := n0_; have HO163 := n1_; have HK := n2_; have HB := n3_; clear n0_ n1_ n2_ n3_; (try clear hb); (try clear hkp); (try clear ho0)))
 repeat (go_quiet (first | ((with_reducible refine gate_dst (N := 3) rfl ?_); refine box_event ?hg (N := 3) ?hd (cs := #[.string a1_0, .int .i64 a1_1]) (t := 162) ?hr ?_; (case hd => rfl); (case hg => rfl); (case hr => first | (go_simp; done) | (go_simp; rfl)); intro gb160 hg w4 hbox hb; have n0_ := qa (Kd.R_below (Kd.R_elderB (by (with_reducible repeat (first | apply Kd.R_alloc | apply Kd.R_drewN | apply Kd.R_drew)); exact HO0.out) gb160 (Nat.le_of_eq hg.symm)) hb); have n1_ := qa (Kept.below (S := (fun k_ => P0_ k_)) (by repeat (first | (with_reducible first | exact HK.out | apply Kept.alloc | apply Kept.drewN | apply Kept.drew) | exact HK.out)) hb); have n2_ := qa (below_step (by repeat (first | (with_reducible first | exact HB.out | apply below_alloc | apply pw_below_drewN | apply below_drew1) | exact HB.out)) hb); have n3_ := qa (hbox); have n4_ := qa ((by rw [hg]; exact (by first | exact HK.out.1 | exact (show Kept w _ (fun k_ => P0_ k_) from by repeat (first | (with_reducible first | exact HK.out | apply Kept.alloc | apply Kept.drewN | apply Kept.drew) | exact HK.out)).1) : w.heap.size ≤ gb160)); have n5_ := qa ((by rw [hg]; exact (below_size (by repeat (first | (with_reducible first | exact HB.out | apply below_alloc | apply pw_below_drewN | apply below_drew1) | exact HB.out))) : w0.heap.size ≤ gb160)); clear HO0; clear HK; clear HB; have HO0 := n0_; have HK := n1_; have HB := n2_; have BK160 := n3_; have GW160 := n4_; have GE160 := n5_; clear n0_ n1_ n2_ n3_ n4_ n5_; clear hb hbox hg; have hcz5_0 : w4.cell? ⟨gb160, 0, none⟩ = some (.string a1_0) := (blk_cell BK160.out 0).trans rfl; have hcz5_1 : w4.cell? ⟨gb160, 1, none⟩ = some (.int .i64 a1_1) := (blk_cell BK160.out 1).trans rfl; have hfz5_0 := blk_frozen BK160.out 0; have hfz5_1 := blk_frozen BK160.out 1; obtain ⟨Ao6, co6, eo6⟩ := Kd.R_slice HO0.out; subst eo6) | (go_at_call 150; (with_reducible refine (linhayref06_Cut.calls k (fun k_ => some k_ = (.slice Ao6 l0.length co6 : Value).ownBlock) (.slice Ao6 l0.length co6) l0 a1_0 t161 w0 _ ?side1 ?side2 A3.out).mono ?_); (case side1 => repeat (first | (with_reducible first | exact HB.out | apply below_alloc | apply pw_below_drewN | apply below_drew1 | refine below_set ?_ GE160.out) | exact HB.out)); (case side2 => exact Kd.R_tight rfl HO0.out); rintro e w7 ⟨v162, rfl, ho0, hb, hkp⟩; have n0_ := qa (blk_kept (by (with_reducible repeat (first | refine blk_drewN ?_ _ | refine blk_drew ?_ | refine blk_alloc ?_ _)); exact BK160.out) hkp (fun hs_ => (fun e_ => (Kd.R_away HO0.out (fun _ hk => hk.2)) e_) hs_)); have n1_ := qa (Kd.R_mono (ok' := fun k_ => (P0_ k_ ∨ w.heap.size ≤ k_) ∧ k_ ≠ gb160) ho0 (fun k_ hk_ => ⟨Or.elim hk_ (fun hs_ => (HO0.out.1 k_ (hs_).symm).1) (fun hn_ => (.inr (Nat.le_trans (by first | exact HK.out.1 | exact (show Kept w _ (fun k_ => P0_ k_) from by repeat (first | (with_reducible first | exact HK.out | apply Kept.alloc | apply Kept.drewN | apply Kept.drew | refine Kept.setCell ?_ (.inr GW160.out) _) | exact HK.out)).1) hn_))), Or.elim hk_ (fun hs_ => fun e_ => (Kd.R_away HO0.out (fun _ hk => hk.2)) (by rw [← e_]; exact hs_)) (fun hn_ => (Kd.freshB (g := gb160) (o := .cells #[.string a1_0, .int .i64 a1_1] 162 (0, 0)) (by (with_reducible repeat (first | refine blk_drewN ?_ _ | refine blk_drew ?_ | refine blk_alloc ?_ _)); exact BK160.out) k_ hn_))⟩)); have n2_ := qa (Kept.then_ (S := (fun k_ => P0_ k_)) (by repeat (first | (with_reducible first | exact HK.out | apply Kept.alloc | apply Kept.drewN | apply Kept.drew | refine Kept.setCell ?_ (.inr GW160.out) _) | exact HK.out)) hkp (fun k_ hs_ => (fun e_ => (HO0.out.1 k_ e_.symm).1) hs_)); have n3_ := qa (hb); clear BK160; clear HK; clear HB; clear HO0; have BK160 := n0_; have HO163 := n1_; have HK := n2_; have HB := n3_; clear n0_ n1_ n2_ n3_; (try clear hb); (try clear hkp); (try clear ho0))); try go_wp2_with (first | ((with_reducible refine gate_dst (N := 3) rfl ?_); refine box_event ?hg (N := 3) ?hd (cs := #[.string a1_0, .int .i64 a1_1]) (t := 162) ?hr ?_; (case hd => rfl); (case hg => rfl); (case hr => first | (go_simp; done) | (go_simp; rfl)); intro gb160 hg w4 hbox hb; have n0_ := qa (Kd.R_below (Kd.R_elderB (by (with_reducible repeat (first | apply Kd.R_alloc | apply Kd.R_drewN | apply Kd.R_drew)); exact HO0.out) gb160 (Nat.le_of_eq hg.symm)) hb); have n1_ := qa (Kept.below (S := (fun k_ => P0_ k_)) (by repeat (first | (with_reducible first | exact HK.out | apply Kept.alloc | apply Kept.drewN | apply Kept.drew) | exact HK.out)) hb); have n2_ := qa (below_step (by repeat (first | (with_reducible first | exact HB.out | apply below_alloc | apply pw_below_drewN | apply below_drew1) | exact HB.out)) hb); have n3_ := qa (hbox); have n4_ := qa ((by rw [hg]; exact (by first | exact HK.out.1 | exact (show Kept w _ (fun k_ => P0_ k_) from by repeat (first | (with_reducible first | exact HK.out | apply Kept.alloc | apply Kept.drewN | apply Kept.drew) | exact HK.out)).1) : w.heap.size ≤ gb160)); have n5_ := qa ((by rw [hg]; exact (below_size (by repeat (first | (with_reducible first | exact HB.out | apply below_alloc | apply pw_below_drewN | apply below_drew1) | exact HB.out))) : w0.heap.size ≤ gb160)); clear HO0; clear HK; clear HB; have HO0 := n0_; have HK := n1_; have HB := n2_; have BK160 := n3_; have GW160 := n4_; have GE160 := n5_; clear n0_ n1_ n2_ n3_ n4_ n5_; clear hb hbox hg; have hcz5_0 : w4.cell? ⟨gb160, 0, none⟩ = some (.string a1_0) := (blk_cell BK160.out 0).trans rfl; have hcz5_1 : w4.cell? ⟨gb160, 1, none⟩ = some (.int .i64 a1_1) := (blk_cell BK160.out 1).trans rfl; have hfz5_0 := blk_frozen BK160.out 0; have hfz5_1 := blk_frozen BK160.out 1; obtain ⟨Ao6, co6, eo6⟩ := Kd.R_slice HO0.out; subst eo6) | (go_at_call 150; (with_reducible refine (linhayref06_Cut.calls k (fun k_ => some k_ = (.slice Ao6 l0.length co6 : Value).ownBlock) (.slice Ao6 l0.length co6) l0 a1_0 t161 w0 _ ?side1 ?side2 A3.out).mono ?_); (case side1 => repeat (first | (with_reducible first | exact HB.out | apply below_alloc | apply pw_below_drewN | apply below_drew1 | refine below_set ?_ GE160.out) | exact HB.out)); (case side2 => exact Kd.R_tight rfl HO0.out); rintro e w7 ⟨v162, rfl, ho0, hb, hkp⟩; have n0_ := qa (blk_kept (by (with_reducible repeat (first | refine blk_drewN ?_ _ | refine blk_drew ?_ | refine blk_alloc ?_ _)); exact BK160.out) hkp (fun hs_ => (fun e_ => (Kd.R_away HO0.out (fun _ hk => hk.2)) e_) hs_)); have n1_ := qa (Kd.R_mono (ok' := fun k_ => (P0_ k_ ∨ w.heap.size ≤ k_) ∧ k_ ≠ gb160) ho0 (fun k_ hk_ => ⟨Or.elim hk_ (fun hs_ => (HO0.out.1 k_ (hs_).symm).1) (fun hn_ => (.inr (Nat.le_trans (by first | exact HK.out.1 | exact (show Kept w _ (fun k_ => P0_ k_) from by repeat (first | (with_reducible first | exact HK.out | apply Kept.alloc | apply Kept.drewN | apply Kept.drew | refine Kept.setCell ?_ (.inr GW160.out) _) | exact HK.out)).1) hn_))), Or.elim hk_ (fun hs_ => fun e_ => (Kd.R_away HO0.out (fun _ hk => hk.2)) (by rw [← e_]; exact hs_)) (fun hn_ => (Kd.freshB (g := gb160) (o := .cells #[.string a1_0, .int .i64 a1_1] 162 (0, 0)) (by (with_reducible repeat (first | refine blk_drewN ?_ _ | refine blk_drew ?_ | refine blk_alloc ?_ _)); exact BK160.out) k_ hn_))⟩)); have n2_ := qa (Kept.then_ (S := (fun k_ => P0_ k_)) (by repeat (first | (with_reducible first | exact HK.out | apply Kept.alloc | apply Kept.drewN | apply Kept.drew | refine Kept.setCell ?_ (.inr GW160.out) _) | exact HK.out)) hkp (fun k_ hs_ => (fun e_ => (HO0.out.1 k_ e_.symm).1) hs_)); have n3_ := qa (hb); clear BK160; clear HK; clear HB; clear HO0; have BK160 := n0_; have HO163 := n1_; have HK := n2_; have HB := n3_; clear n0_ n1_ n2_ n3_; (try clear hb); (try clear hkp); (try clear ho0))))
 go_loopg [5, 6] k (fun kq v5 v6 w' => ∃ (x5_1 : List (S162)) (x6_1 : Int), v6 = .int .i64 x6_1 ∧ Aside0 (linhayref06_Put.l0 kq t161 x5_1 x6_1 a1_0 a1_1 = some r) ∧ Aside0 (kq ≤ k) ∧ Aside0 (Kd.R k162 162 w' w0.heap.size (fun k_ => (P0_ k_ ∨ w.heap.size ≤ k_) ∧ some k_ ≠ (v5 : Value).ownBlock ∧ k_ ≠ gb160) v162 t161) ∧ Aside0 (Kd.R k162 162 w' w0.heap.size (fun k_ => (P0_ k_ ∨ w.heap.size ≤ k_) ∧ some k_ ≠ (v162 : Value).ownBlock ∧ k_ ≠ gb160) v5 x5_1) ∧ Aside0 (w'.heap[gb160]? = some (.cells #[.string a1_0, .int .i64 a1_1] 162 (0, 0))) ∧ Aside0 (Kept w w' (fun k_ => P0_ k_)) ∧ Aside0 (Below w0.heap.size w0 w'))
 case atStart => exact ⟨(([] : List (S162))), (0), (by first | rfl | (simp; done) | (simp [*]; done) | (simp [bne_nil]; done)), H', ⟨Nat.le_refl _⟩, ⟨by (with_reducible repeat (first | apply Kd.R_alloc | apply Kd.R_drewN | apply Kd.R_drew)); exact Kd.R_mono HO163.out (fun _ hk => ⟨hk.1, ⟨(by simp [Value.ownBlock]), hk.2⟩⟩)⟩, ⟨by first | exact Kd.R_nil _ _ _ _ _ | exact Kd.N_nil _ _ _ _ _ | exact Kd.V_nil _ _ _ _ _ | exact Kd.Q_nil _ _ _ _ _ | exact Kd.S_nil _ _ _ _ _⟩, ⟨by (with_reducible repeat (first | refine blk_drewN ?_ _ | refine blk_drew ?_ | refine blk_alloc ?_ _)); exact BK160.out⟩, ⟨by repeat (first | (with_reducible first | exact HK.out | apply Kept.alloc | apply Kept.drewN | apply Kept.drew | refine Kept.setCell ?_ (.inr GW160.out) _) | exact HK.out)⟩, ⟨by repeat (first | (with_reducible first | exact HB.out | apply below_alloc | apply pw_below_drewN | apply below_drew1 | refine below_set ?_ GE160.out) | exact HB.out)⟩⟩
 case round =>
  clear H'
  try clear c1
  try clear p2
  try clear hcz5_0
  try clear hcz5_1
  try clear hfz5_0
  try clear hfz5_1
  obtain ⟨x5_1, x6_1, rfl, HA, HK1, HO_0, HO_5, BK160, HK, HB⟩ := hrel
  cases gk with
  | zero => exact absurd HA.out (by simp [linhayref06_Put.l0])
  | succ k1 =>
   have H := HA.out
   clear HA
   simp only [linhayref06_Put.l0] at H
   by_cases c8 : x6_1 < (t161.length : Int)
   ·
    rw [if_pos c8] at H
    have c8b0 : decide (x6_1 < (t161.length : Int)) = true := decide_eq_true c8
    clear c8
    by_cases c9 : 0 ≤ x6_1
    ·
     rw [if_pos c9] at H
     have c9b0 : decide (0 ≤ x6_1) = true := decide_eq_true c9
     clear c9
     by_cases c10 : (Op.bytesLess (((rd_T162 t161 x6_1).f0).toList) a1_0.toList) = true
     ·
      rw [if_pos c10] at H
      have c10b0 : (Op.bytesLess (((rd_T162 t161 x6_1).f0).toList) a1_0.toList) = true := c10
      (try (have c10L1 : Op.bytesLess a1_0.toList (((rd_T162 t161 x6_1).f0).toList) = false := less_asym _ _ c10b0; have c10L2 : (a1_0.toList == (((rd_T162 t161 x6_1).f0).toList)) = false := less_flip c10b0))
      clear c10
      by_cases c11 : x5_1.length < 5864062014805
      ·
       rw [if_pos c11] at H
       have LMc11 := qa c11
       clear c11
       obtain ⟨y166, hy166⟩ : ∃ y_ : List (S162), y_ = (x5_1 ++ [(⟨(rd_T162 t161 x6_1).f0, (rd_T162 t161 x6_1).f1⟩ : S162)]) := ⟨_, rfl⟩
       replace H : (linhayref06_Put.l0 k1 t161 y166 (wrap64 (x6_1 + 1)) a1_0 a1_1) = some r := by first | (rw [hy166]; with_reducible exact H) | (have H2_ := (Option.bind_some _ _).symm.trans H; rw [hy166]; with_reducible exact H2_) | (have H2_ := (Option.bind_some _ _).symm.trans H; with_reducible exact H2_) | with_reducible exact H | (rw [hy166]; exact H) | exact H
       have Ny166 := qa hy166
       clear hy166
       have H' := qa H
       clear H
       obtain ⟨Ao12, co12, eo12⟩ := Kd.R_slice HO_0.out
       subst eo12
       have p164 : 0 ≤ (x6_1 : Int) := of_decide_eq_true (by first | (with_reducible assumption) | assumption)
       have q164 : x6_1 < (t161.length : Int) := of_decide_eq_true (by first | (with_reducible assumption) | assumption)
       obtain ⟨ad164, e164, hx164_0, hx164_1⟩ := at_T162 (Kd.R_reads' HO_0.out).2.2 x6_1 p164 q164
       cases e164
       replace p164 := eq_true p164
       replace q164 := eq_true q164
       have hcz13_0 : wr.cell? ⟨gb160, 0, none⟩ = some (.string a1_0) := (blk_cell BK160.out 0).trans rfl
       have hcz13_1 : wr.cell? ⟨gb160, 1, none⟩ = some (.int .i64 a1_1) := (blk_cell BK160.out 1).trans rfl
       have hfz13_0 := blk_frozen BK160.out 0
       have hfz13_1 := blk_frozen BK160.out 1
       have p165 : 0 ≤ (x6_1 : Int) := of_decide_eq_true (by first | (with_reducible assumption) | assumption)
       have q165 : x6_1 < (t161.length : Int) := of_decide_eq_true (by first | (with_reducible assumption) | assumption)
       obtain ⟨ad165, e165, hx165_0, hx165_1⟩ := at_T162 (Kd.R_reads' HO_0.out).2.2 x6_1 p165 q165
       obtain rfl : ad164 = ad165 := (by injection e165)
       replace p165 := eq_true p165
       replace q165 := eq_true q165
       go_wp2_with (first | ((with_reducible refine gate_builtin (b := .append) (xs := #[.tmp 26, .tmp 31]) rfl ?_); at_builtin; refine Kd.R_append k162 (w0 := w0) w0.heap.size rfl (.tmp 26) (.tmp 31) 110 162 (.agg #[(.string ⟨#[]⟩), (.int .i64 0)]) 24 rfl Tryz.underlying110 info162 rfl (by decide) (by omega) u5 x5_1 (⟨(rd_T162 t161 x6_1).f0, (rd_T162 t161 x6_1).f1⟩ : S162) [.string ((rd_T162 t161 x6_1).f0), .int .i64 ((rd_T162 t161 x6_1).f1)] (fun k_ => (P0_ k_ ∨ w.heap.size ≤ k_) ∧ some k_ ≠ (.slice (some ad164) t161.length co12 : Value).ownBlock ∧ k_ ≠ gb160) (fun _ => False) rfl rfl ?aP (fun _ hk => hk.elim) ?aF ?aO ?aB ?aS ?aL ?_; (case aP => exact k162_mkM _ _ _ (⟨(rd_T162 t161 x6_1).f0, (rd_T162 t161 x6_1).f1⟩ : S162)); (case aB => exact (by repeat (first | (with_reducible first | exact HB.out | apply below_alloc | apply pw_below_drewN | apply below_drew1 | refine below_set ?_ GE160.out) | exact HB.out))); (case aF => exact (fun k_ hk => ⟨(.inr (Nat.le_trans (by first | exact HK.out.1 | exact (show Kept w _ (fun k_ => P0_ k_) from by repeat (first | (with_reducible first | exact HK.out | apply Kept.alloc | apply Kept.drewN | apply Kept.drew | refine Kept.setCell ?_ (.inr GW160.out) _) | exact HK.out)).1) hk)), Kd.fresh' (Kd.R_lt (by (with_reducible repeat (first | apply Kd.R_alloc | apply Kd.R_drewN | apply Kd.R_drew)); exact HO_0.out)) k_ hk, Kd.freshB (g := gb160) (o := .cells #[.string a1_0, .int .i64 a1_1] 162 (0, 0)) (by (with_reducible repeat (first | refine blk_drewN ?_ _ | refine blk_drew ?_ | refine blk_alloc ?_ _)); exact BK160.out) k_ hk⟩)); (case aO => exact (by (with_reducible repeat (first | apply Kd.R_alloc | apply Kd.R_drewN | apply Kd.R_drew)); exact HO_5.out)); (case aS => exact (below_size (by repeat (first | (with_reducible first | exact HB.out | apply below_alloc | apply pw_below_drewN | apply below_drew1 | refine below_set ?_ GE160.out) | exact HB.out)))); (case aL => have := LMc11.out; omega); intro v167 w14 ho hb hg hat; rw [← Ny166.out] at ho; have n0_ := qa (Kd.R_after (ok := (fun k_ => (P0_ k_ ∨ w.heap.size ≤ k_) ∧ k_ ≠ gb160)) (by (with_reducible repeat (first | apply Kd.R_alloc | apply Kd.R_drewN | apply Kd.R_drew)); exact Kd.R_mono HO_0.out (fun _ hk => ⟨⟨hk.1, hk.2.2⟩, hk.2.1⟩)) hg hat); have n1_ := qa (blk_grown (g := gb160) (o := .cells #[.string a1_0, .int .i64 a1_1] 162 (0, 0)) (by (with_reducible repeat (first | refine blk_drewN ?_ _ | refine blk_drew ?_ | refine blk_alloc ?_ _)); exact BK160.out) hg (Kd.R_away HO_5.out (fun _ hk => hk.2.2))); have n2_ := qa (hb); have n3_ := qa (Kept.of_grown (S := (fun k_ => P0_ k_)) hg (by repeat (first | (with_reducible first | exact HK.out | apply Kept.alloc | apply Kept.drewN | apply Kept.drew | refine Kept.setCell ?_ (.inr GW160.out) _) | exact HK.out)) (fun k_ e_ => (HO_5.out.1 k_ e_).1)); have n4_ := qa (ho); clear HO_0; clear BK160; clear HB; clear HK; clear HO_5; have HO_0 := n0_; have BK160 := n1_; have HB := n2_; have HK := n3_; have HO168 := n4_; clear n0_ n1_ n2_ n3_ n4_; clear ho hb hg hat))
       repeat (go_quiet (first | ((with_reducible refine gate_builtin (b := .append) (xs := #[.tmp 26, .tmp 31]) rfl ?_); at_builtin; refine Kd.R_append k162 (w0 := w0) w0.heap.size rfl (.tmp 26) (.tmp 31) 110 162 (.agg #[(.string ⟨#[]⟩), (.int .i64 0)]) 24 rfl Tryz.underlying110 info162 rfl (by decide) (by omega) u5 x5_1 (⟨(rd_T162 t161 x6_1).f0, (rd_T162 t161 x6_1).f1⟩ : S162) [.string ((rd_T162 t161 x6_1).f0), .int .i64 ((rd_T162 t161 x6_1).f1)] (fun k_ => (P0_ k_ ∨ w.heap.size ≤ k_) ∧ some k_ ≠ (.slice (some ad164) t161.length co12 : Value).ownBlock ∧ k_ ≠ gb160) (fun _ => False) rfl rfl ?aP (fun _ hk => hk.elim) ?aF ?aO ?aB ?aS ?aL ?_; (case aP => exact k162_mkM _ _ _ (⟨(rd_T162 t161 x6_1).f0, (rd_T162 t161 x6_1).f1⟩ : S162)); (case aB => exact (by repeat (first | (with_reducible first | exact HB.out | apply below_alloc | apply pw_below_drewN | apply below_drew1 | refine below_set ?_ GE160.out) | exact HB.out))); (case aF => exact (fun k_ hk => ⟨(.inr (Nat.le_trans (by first | exact HK.out.1 | exact (show Kept w _ (fun k_ => P0_ k_) from by repeat (first | (with_reducible first | exact HK.out | apply Kept.alloc | apply Kept.drewN | apply Kept.drew | refine Kept.setCell ?_ (.inr GW160.out) _) | exact HK.out)).1) hk)), Kd.fresh' (Kd.R_lt (by (with_reducible repeat (first | apply Kd.R_alloc | apply Kd.R_drewN | apply Kd.R_drew)); exact HO_0.out)) k_ hk, Kd.freshB (g := gb160) (o := .cells #[.string a1_0, .int .i64 a1_1] 162 (0, 0)) (by (with_reducible repeat (first | refine blk_drewN ?_ _ | refine blk_drew ?_ | refine blk_alloc ?_ _)); exact BK160.out) k_ hk⟩)); (case aO => exact (by (with_reducible repeat (first | apply Kd.R_alloc | apply Kd.R_drewN | apply Kd.R_drew)); exact HO_5.out)); (case aS => exact (below_size (by repeat (first | (with_reducible first | exact HB.out | apply below_alloc | apply pw_below_drewN | apply below_drew1 | refine below_set ?_ GE160.out) | exact HB.out)))); (case aL => have := LMc11.out; omega); intro v167 w14 ho hb hg hat; rw [← Ny166.out] at ho; have n0_ := qa (Kd.R_after (ok := (fun k_ => (P0_ k_ ∨ w.heap.size ≤ k_) ∧ k_ ≠ gb160)) (by (with_reducible repeat (first | apply Kd.R_alloc | apply Kd.R_drewN | apply Kd.R_drew)); exact Kd.R_mono HO_0.out (fun _ hk => ⟨⟨hk.1, hk.2.2⟩, hk.2.1⟩)) hg hat); have n1_ := qa (blk_grown (g := gb160) (o := .cells #[.string a1_0, .int .i64 a1_1] 162 (0, 0)) (by (with_reducible repeat (first | refine blk_drewN ?_ _ | refine blk_drew ?_ | refine blk_alloc ?_ _)); exact BK160.out) hg (Kd.R_away HO_5.out (fun _ hk => hk.2.2))); have n2_ := qa (hb); have n3_ := qa (Kept.of_grown (S := (fun k_ => P0_ k_)) hg (by repeat (first | (with_reducible first | exact HK.out | apply Kept.alloc | apply Kept.drewN | apply Kept.drew | refine Kept.setCell ?_ (.inr GW160.out) _) | exact HK.out)) (fun k_ e_ => (HO_5.out.1 k_ e_).1)); have n4_ := qa (ho); clear HO_0; clear BK160; clear HB; clear HK; clear HO_5; have HO_0 := n0_; have BK160 := n1_; have HB := n2_; have HK := n3_; have HO168 := n4_; clear n0_ n1_ n2_ n3_ n4_; clear ho hb hg hat)); try go_wp2_with (first | ((with_reducible refine gate_builtin (b := .append) (xs := #[.tmp 26, .tmp 31]) rfl ?_); at_builtin; refine Kd.R_append k162 (w0 := w0) w0.heap.size rfl (.tmp 26) (.tmp 31) 110 162 (.agg #[(.string ⟨#[]⟩), (.int .i64 0)]) 24 rfl Tryz.underlying110 info162 rfl (by decide) (by omega) u5 x5_1 (⟨(rd_T162 t161 x6_1).f0, (rd_T162 t161 x6_1).f1⟩ : S162) [.string ((rd_T162 t161 x6_1).f0), .int .i64 ((rd_T162 t161 x6_1).f1)] (fun k_ => (P0_ k_ ∨ w.heap.size ≤ k_) ∧ some k_ ≠ (.slice (some ad164) t161.length co12 : Value).ownBlock ∧ k_ ≠ gb160) (fun _ => False) rfl rfl ?aP (fun _ hk => hk.elim) ?aF ?aO ?aB ?aS ?aL ?_; (case aP => exact k162_mkM _ _ _ (⟨(rd_T162 t161 x6_1).f0, (rd_T162 t161 x6_1).f1⟩ : S162)); (case aB => exact (by repeat (first | (with_reducible first | exact HB.out | apply below_alloc | apply pw_below_drewN | apply below_drew1 | refine below_set ?_ GE160.out) | exact HB.out))); (case aF => exact (fun k_ hk => ⟨(.inr (Nat.le_trans (by first | exact HK.out.1 | exact (show Kept w _ (fun k_ => P0_ k_) from by repeat (first | (with_reducible first | exact HK.out | apply Kept.alloc | apply Kept.drewN | apply Kept.drew | refine Kept.setCell ?_ (.inr GW160.out) _) | exact HK.out)).1) hk)), Kd.fresh' (Kd.R_lt (by (with_reducible repeat (first | apply Kd.R_alloc | apply Kd.R_drewN | apply Kd.R_drew)); exact HO_0.out)) k_ hk, Kd.freshB (g := gb160) (o := .cells #[.string a1_0, .int .i64 a1_1] 162 (0, 0)) (by (with_reducible repeat (first | refine blk_drewN ?_ _ | refine blk_drew ?_ | refine blk_alloc ?_ _)); exact BK160.out) k_ hk⟩)); (case aO => exact (by (with_reducible repeat (first | apply Kd.R_alloc | apply Kd.R_drewN | apply Kd.R_drew)); exact HO_5.out)); (case aS => exact (below_size (by repeat (first | (with_reducible first | exact HB.out | apply below_alloc | apply pw_below_drewN | apply below_drew1 | refine below_set ?_ GE160.out) | exact HB.out)))); (case aL => have := LMc11.out; omega); intro v167 w14 ho hb hg hat; rw [← Ny166.out] at ho; have n0_ := qa (Kd.R_after (ok := (fun k_ => (P0_ k_ ∨ w.heap.size ≤ k_) ∧ k_ ≠ gb160)) (by (with_reducible repeat (first | apply Kd.R_alloc | apply Kd.R_drewN | apply Kd.R_drew)); exact Kd.R_mono HO_0.out (fun _ hk => ⟨⟨hk.1, hk.2.2⟩, hk.2.1⟩)) hg hat); have n1_ := qa (blk_grown (g := gb160) (o := .cells #[.string a1_0, .int .i64 a1_1] 162 (0, 0)) (by (with_reducible repeat (first | refine blk_drewN ?_ _ | refine blk_drew ?_ | refine blk_alloc ?_ _)); exact BK160.out) hg (Kd.R_away HO_5.out (fun _ hk => hk.2.2))); have n2_ := qa (hb); have n3_ := qa (Kept.of_grown (S := (fun k_ => P0_ k_)) hg (by repeat (first | (with_reducible first | exact HK.out | apply Kept.alloc | apply Kept.drewN | apply Kept.drew | refine Kept.setCell ?_ (.inr GW160.out) _) | exact HK.out)) (fun k_ e_ => (HO_5.out.1 k_ e_).1)); have n4_ := qa (ho); clear HO_0; clear BK160; clear HB; clear HK; clear HO_5; have HO_0 := n0_; have BK160 := n1_; have HB := n2_; have HK := n3_; have HO168 := n4_; clear n0_ n1_ n2_ n3_ n4_; clear ho hb hg hat)))
       go_roundg k1
       case measure => have := HK1.out; omega
       case rel => exact ⟨(y166), (wrap64 (x6_1 + 1)), (by first | rfl | (simp; done) | (simp [*]; done) | (simp [bne_nil]; done)), H', ⟨by have := HK1.out; omega⟩, ⟨by (with_reducible repeat (first | apply Kd.R_alloc | apply Kd.R_drewN | apply Kd.R_drew)); exact Kd.R_mono HO_0.out (fun _ hk => ⟨hk.1.1, ⟨hk.2, hk.1.2⟩⟩)⟩, ⟨by (with_reducible repeat (first | apply Kd.R_alloc | apply Kd.R_drewN | apply Kd.R_drew)); first | exact HO168.out | exact own_cut HO168.out⟩, ⟨by (with_reducible repeat (first | refine blk_drewN ?_ _ | refine blk_drew ?_ | refine blk_alloc ?_ _)); exact BK160.out⟩, ⟨by repeat (first | (with_reducible first | exact HK.out | apply Kept.alloc | apply Kept.drewN | apply Kept.drew | refine Kept.setCell ?_ (.inr GW160.out) _) | exact HK.out)⟩, ⟨by repeat (first | (with_reducible first | exact HB.out | apply below_alloc | apply pw_below_drewN | apply below_drew1 | refine below_set ?_ GE160.out) | exact HB.out)⟩⟩
      ·
       rw [if_neg c11] at H
       exact absurd H (by simp)
     ·
      rw [if_neg c10] at H
      have c10b0 : (Op.bytesLess (((rd_T162 t161 x6_1).f0).toList) a1_0.toList) = false := by simpa using c10
      (try (have c10L1 : (Op.bytesLess a1_0.toList (((rd_T162 t161 x6_1).f0).toList) || a1_0.toList == (((rd_T162 t161 x6_1).f0).toList)) = true := less_tot _ _ c10b0))
      clear c10
      have H' := qa H
      clear H
      obtain ⟨Ao15, co15, eo15⟩ := Kd.R_slice HO_0.out
      subst eo15
      have p164 : 0 ≤ (x6_1 : Int) := of_decide_eq_true (by first | (with_reducible assumption) | assumption)
      have q164 : x6_1 < (t161.length : Int) := of_decide_eq_true (by first | (with_reducible assumption) | assumption)
      obtain ⟨ad164, e164, hx164_0, hx164_1⟩ := at_T162 (Kd.R_reads' HO_0.out).2.2 x6_1 p164 q164
      cases e164
      replace p164 := eq_true p164
      replace q164 := eq_true q164
      have hcz16_0 : wr.cell? ⟨gb160, 0, none⟩ = some (.string a1_0) := (blk_cell BK160.out 0).trans rfl
      have hcz16_1 : wr.cell? ⟨gb160, 1, none⟩ = some (.int .i64 a1_1) := (blk_cell BK160.out 1).trans rfl
      have hfz16_0 := blk_frozen BK160.out 0
      have hfz16_1 := blk_frozen BK160.out 1
      go_wp2
      repeat (go_quiet (fail); try go_wp2)
      go_roundg k1
      case measure => have := HK1.out; omega
      case rel => exact ⟨(x5_1), (wrap64 (x6_1 + 1)), (by first | rfl | (simp; done) | (simp [*]; done) | (simp [bne_nil]; done)), H', ⟨by have := HK1.out; omega⟩, ⟨by (with_reducible repeat (first | apply Kd.R_alloc | apply Kd.R_drewN | apply Kd.R_drew)); first | exact HO_0.out | exact own_cut HO_0.out⟩, ⟨by (with_reducible repeat (first | apply Kd.R_alloc | apply Kd.R_drewN | apply Kd.R_drew)); first | exact HO_5.out | exact own_cut HO_5.out⟩, ⟨by (with_reducible repeat (first | refine blk_drewN ?_ _ | refine blk_drew ?_ | refine blk_alloc ?_ _)); exact BK160.out⟩, ⟨by repeat (first | (with_reducible first | exact HK.out | apply Kept.alloc | apply Kept.drewN | apply Kept.drew | refine Kept.setCell ?_ (.inr GW160.out) _) | exact HK.out)⟩, ⟨by repeat (first | (with_reducible first | exact HB.out | apply below_alloc | apply pw_below_drewN | apply below_drew1 | refine below_set ?_ GE160.out) | exact HB.out)⟩⟩
    ·
     rw [if_neg c9] at H
     exact absurd H (by simp)
   ·
    rw [if_neg c8] at H
    have c8b0 : decide (x6_1 < (t161.length : Int)) = false := decide_eq_false c8
    clear c8
    by_cases c17 : x5_1.length < 5864062014805
    ·
     rw [if_pos c17] at H
     have LMc17 := qa c17
     clear c17
     obtain ⟨y169, hy169⟩ : ∃ y_ : List (S162), y_ = (x5_1 ++ [(⟨a1_0, a1_1⟩ : S162)]) := ⟨_, rfl⟩
     replace H : (linhayref06_Put.l1 k1 t161 y169 0 a1_0 a1_1) = some r := by first | (rw [hy169]; with_reducible exact H) | (have H2_ := (Option.bind_some _ _).symm.trans H; rw [hy169]; with_reducible exact H2_) | (have H2_ := (Option.bind_some _ _).symm.trans H; with_reducible exact H2_) | with_reducible exact H | (rw [hy169]; exact H) | exact H
     have Ny169 := qa hy169
     clear hy169
     have H' := qa H
     clear H
     obtain ⟨Ao18, co18, eo18⟩ := Kd.R_slice HO_0.out
     subst eo18
     have hcz19_0 : wr.cell? ⟨gb160, 0, none⟩ = some (.string a1_0) := (blk_cell BK160.out 0).trans rfl
     have hcz19_1 : wr.cell? ⟨gb160, 1, none⟩ = some (.int .i64 a1_1) := (blk_cell BK160.out 1).trans rfl
     have hfz19_0 := blk_frozen BK160.out 0
     have hfz19_1 := blk_frozen BK160.out 1
     go_wp2_with (first | ((with_reducible refine gate_builtin (b := .append) (xs := #[.tmp 33, .tmp 35]) rfl ?_); at_builtin; refine Kd.R_append k162 (w0 := w0) w0.heap.size rfl (.tmp 33) (.tmp 35) 110 162 (.agg #[(.string ⟨#[]⟩), (.int .i64 0)]) 24 rfl Tryz.underlying110 info162 rfl (by decide) (by omega) u5 x5_1 (⟨a1_0, a1_1⟩ : S162) [.string a1_0, .int .i64 a1_1] (fun k_ => (P0_ k_ ∨ w.heap.size ≤ k_) ∧ some k_ ≠ (.slice Ao18 t161.length co18 : Value).ownBlock ∧ k_ ≠ gb160) (fun _ => False) rfl rfl ?aP (fun _ hk => hk.elim) ?aF ?aO ?aB ?aS ?aL ?_; (case aP => exact k162_mkM _ _ _ (⟨a1_0, a1_1⟩ : S162)); (case aB => exact (by repeat (first | (with_reducible first | exact HB.out | apply below_alloc | apply pw_below_drewN | apply below_drew1 | refine below_set ?_ GE160.out) | exact HB.out))); (case aF => exact (fun k_ hk => ⟨(.inr (Nat.le_trans (by first | exact HK.out.1 | exact (show Kept w _ (fun k_ => P0_ k_) from by repeat (first | (with_reducible first | exact HK.out | apply Kept.alloc | apply Kept.drewN | apply Kept.drew | refine Kept.setCell ?_ (.inr GW160.out) _) | exact HK.out)).1) hk)), Kd.fresh' (Kd.R_lt (by (with_reducible repeat (first | apply Kd.R_alloc | apply Kd.R_drewN | apply Kd.R_drew)); exact HO_0.out)) k_ hk, Kd.freshB (g := gb160) (o := .cells #[.string a1_0, .int .i64 a1_1] 162 (0, 0)) (by (with_reducible repeat (first | refine blk_drewN ?_ _ | refine blk_drew ?_ | refine blk_alloc ?_ _)); exact BK160.out) k_ hk⟩)); (case aO => exact (by (with_reducible repeat (first | apply Kd.R_alloc | apply Kd.R_drewN | apply Kd.R_drew)); exact HO_5.out)); (case aS => exact (below_size (by repeat (first | (with_reducible first | exact HB.out | apply below_alloc | apply pw_below_drewN | apply below_drew1 | refine below_set ?_ GE160.out) | exact HB.out)))); (case aL => have := LMc17.out; omega); intro v170 w20 ho hb hg hat; rw [← Ny169.out] at ho; have n0_ := qa (Kd.R_after (ok := (fun k_ => (P0_ k_ ∨ w.heap.size ≤ k_) ∧ k_ ≠ gb160)) (by (with_reducible repeat (first | apply Kd.R_alloc | apply Kd.R_drewN | apply Kd.R_drew)); exact Kd.R_mono HO_0.out (fun _ hk => ⟨⟨hk.1, hk.2.2⟩, hk.2.1⟩)) hg hat); have n1_ := qa (blk_grown (g := gb160) (o := .cells #[.string a1_0, .int .i64 a1_1] 162 (0, 0)) (by (with_reducible repeat (first | refine blk_drewN ?_ _ | refine blk_drew ?_ | refine blk_alloc ?_ _)); exact BK160.out) hg (Kd.R_away HO_5.out (fun _ hk => hk.2.2))); have n2_ := qa (hb); have n3_ := qa (Kept.of_grown (S := (fun k_ => P0_ k_)) hg (by repeat (first | (with_reducible first | exact HK.out | apply Kept.alloc | apply Kept.drewN | apply Kept.drew | refine Kept.setCell ?_ (.inr GW160.out) _) | exact HK.out)) (fun k_ e_ => (HO_5.out.1 k_ e_).1)); have n4_ := qa (ho); clear HO_0; clear BK160; clear HB; clear HK; clear HO_5; have HO_0 := n0_; have BK160 := n1_; have HB := n2_; have HK := n3_; have HO171 := n4_; clear n0_ n1_ n2_ n3_ n4_; clear ho hb hg hat))
     repeat (go_quiet (first | ((with_reducible refine gate_builtin (b := .append) (xs := #[.tmp 33, .tmp 35]) rfl ?_); at_builtin; refine Kd.R_append k162 (w0 := w0) w0.heap.size rfl (.tmp 33) (.tmp 35) 110 162 (.agg #[(.string ⟨#[]⟩), (.int .i64 0)]) 24 rfl Tryz.underlying110 info162 rfl (by decide) (by omega) u5 x5_1 (⟨a1_0, a1_1⟩ : S162) [.string a1_0, .int .i64 a1_1] (fun k_ => (P0_ k_ ∨ w.heap.size ≤ k_) ∧ some k_ ≠ (.slice Ao18 t161.length co18 : Value).ownBlock ∧ k_ ≠ gb160) (fun _ => False) rfl rfl ?aP (fun _ hk => hk.elim) ?aF ?aO ?aB ?aS ?aL ?_; (case aP => exact k162_mkM _ _ _ (⟨a1_0, a1_1⟩ : S162)); (case aB => exact (by repeat (first | (with_reducible first | exact HB.out | apply below_alloc | apply pw_below_drewN | apply below_drew1 | refine below_set ?_ GE160.out) | exact HB.out))); (case aF => exact (fun k_ hk => ⟨(.inr (Nat.le_trans (by first | exact HK.out.1 | exact (show Kept w _ (fun k_ => P0_ k_) from by repeat (first | (with_reducible first | exact HK.out | apply Kept.alloc | apply Kept.drewN | apply Kept.drew | refine Kept.setCell ?_ (.inr GW160.out) _) | exact HK.out)).1) hk)), Kd.fresh' (Kd.R_lt (by (with_reducible repeat (first | apply Kd.R_alloc | apply Kd.R_drewN | apply Kd.R_drew)); exact HO_0.out)) k_ hk, Kd.freshB (g := gb160) (o := .cells #[.string a1_0, .int .i64 a1_1] 162 (0, 0)) (by (with_reducible repeat (first | refine blk_drewN ?_ _ | refine blk_drew ?_ | refine blk_alloc ?_ _)); exact BK160.out) k_ hk⟩)); (case aO => exact (by (with_reducible repeat (first | apply Kd.R_alloc | apply Kd.R_drewN | apply Kd.R_drew)); exact HO_5.out)); (case aS => exact (below_size (by repeat (first | (with_reducible first | exact HB.out | apply below_alloc | apply pw_below_drewN | apply below_drew1 | refine below_set ?_ GE160.out) | exact HB.out)))); (case aL => have := LMc17.out; omega); intro v170 w20 ho hb hg hat; rw [← Ny169.out] at ho; have n0_ := qa (Kd.R_after (ok := (fun k_ => (P0_ k_ ∨ w.heap.size ≤ k_) ∧ k_ ≠ gb160)) (by (with_reducible repeat (first | apply Kd.R_alloc | apply Kd.R_drewN | apply Kd.R_drew)); exact Kd.R_mono HO_0.out (fun _ hk => ⟨⟨hk.1, hk.2.2⟩, hk.2.1⟩)) hg hat); have n1_ := qa (blk_grown (g := gb160) (o := .cells #[.string a1_0, .int .i64 a1_1] 162 (0, 0)) (by (with_reducible repeat (first | refine blk_drewN ?_ _ | refine blk_drew ?_ | refine blk_alloc ?_ _)); exact BK160.out) hg (Kd.R_away HO_5.out (fun _ hk => hk.2.2))); have n2_ := qa (hb); have n3_ := qa (Kept.of_grown (S := (fun k_ => P0_ k_)) hg (by repeat (first | (with_reducible first | exact HK.out | apply Kept.alloc | apply Kept.drewN | apply Kept.drew | refine Kept.setCell ?_ (.inr GW160.out) _) | exact HK.out)) (fun k_ e_ => (HO_5.out.1 k_ e_).1)); have n4_ := qa (ho); clear HO_0; clear BK160; clear HB; clear HK; clear HO_5; have HO_0 := n0_; have BK160 := n1_; have HB := n2_; have HK := n3_; have HO171 := n4_; clear n0_ n1_ n2_ n3_ n4_; clear ho hb hg hat)); try go_wp2_with (first | ((with_reducible refine gate_builtin (b := .append) (xs := #[.tmp 33, .tmp 35]) rfl ?_); at_builtin; refine Kd.R_append k162 (w0 := w0) w0.heap.size rfl (.tmp 33) (.tmp 35) 110 162 (.agg #[(.string ⟨#[]⟩), (.int .i64 0)]) 24 rfl Tryz.underlying110 info162 rfl (by decide) (by omega) u5 x5_1 (⟨a1_0, a1_1⟩ : S162) [.string a1_0, .int .i64 a1_1] (fun k_ => (P0_ k_ ∨ w.heap.size ≤ k_) ∧ some k_ ≠ (.slice Ao18 t161.length co18 : Value).ownBlock ∧ k_ ≠ gb160) (fun _ => False) rfl rfl ?aP (fun _ hk => hk.elim) ?aF ?aO ?aB ?aS ?aL ?_; (case aP => exact k162_mkM _ _ _ (⟨a1_0, a1_1⟩ : S162)); (case aB => exact (by repeat (first | (with_reducible first | exact HB.out | apply below_alloc | apply pw_below_drewN | apply below_drew1 | refine below_set ?_ GE160.out) | exact HB.out))); (case aF => exact (fun k_ hk => ⟨(.inr (Nat.le_trans (by first | exact HK.out.1 | exact (show Kept w _ (fun k_ => P0_ k_) from by repeat (first | (with_reducible first | exact HK.out | apply Kept.alloc | apply Kept.drewN | apply Kept.drew | refine Kept.setCell ?_ (.inr GW160.out) _) | exact HK.out)).1) hk)), Kd.fresh' (Kd.R_lt (by (with_reducible repeat (first | apply Kd.R_alloc | apply Kd.R_drewN | apply Kd.R_drew)); exact HO_0.out)) k_ hk, Kd.freshB (g := gb160) (o := .cells #[.string a1_0, .int .i64 a1_1] 162 (0, 0)) (by (with_reducible repeat (first | refine blk_drewN ?_ _ | refine blk_drew ?_ | refine blk_alloc ?_ _)); exact BK160.out) k_ hk⟩)); (case aO => exact (by (with_reducible repeat (first | apply Kd.R_alloc | apply Kd.R_drewN | apply Kd.R_drew)); exact HO_5.out)); (case aS => exact (below_size (by repeat (first | (with_reducible first | exact HB.out | apply below_alloc | apply pw_below_drewN | apply below_drew1 | refine below_set ?_ GE160.out) | exact HB.out)))); (case aL => have := LMc17.out; omega); intro v170 w20 ho hb hg hat; rw [← Ny169.out] at ho; have n0_ := qa (Kd.R_after (ok := (fun k_ => (P0_ k_ ∨ w.heap.size ≤ k_) ∧ k_ ≠ gb160)) (by (with_reducible repeat (first | apply Kd.R_alloc | apply Kd.R_drewN | apply Kd.R_drew)); exact Kd.R_mono HO_0.out (fun _ hk => ⟨⟨hk.1, hk.2.2⟩, hk.2.1⟩)) hg hat); have n1_ := qa (blk_grown (g := gb160) (o := .cells #[.string a1_0, .int .i64 a1_1] 162 (0, 0)) (by (with_reducible repeat (first | refine blk_drewN ?_ _ | refine blk_drew ?_ | refine blk_alloc ?_ _)); exact BK160.out) hg (Kd.R_away HO_5.out (fun _ hk => hk.2.2))); have n2_ := qa (hb); have n3_ := qa (Kept.of_grown (S := (fun k_ => P0_ k_)) hg (by repeat (first | (with_reducible first | exact HK.out | apply Kept.alloc | apply Kept.drewN | apply Kept.drew | refine Kept.setCell ?_ (.inr GW160.out) _) | exact HK.out)) (fun k_ e_ => (HO_5.out.1 k_ e_).1)); have n4_ := qa (ho); clear HO_0; clear BK160; clear HB; clear HK; clear HO_5; have HO_0 := n0_; have BK160 := n1_; have HB := n2_; have HK := n3_; have HO171 := n4_; clear n0_ n1_ n2_ n3_ n4_; clear ho hb hg hat)))
     go_loopg [5, 7] k1 (fun kq v5 v7 w' => ∃ (x5_2 : List (S162)) (x7_2 : Int), v7 = .int .i64 x7_2 ∧ Aside0 (linhayref06_Put.l1 kq t161 x5_2 x7_2 a1_0 a1_1 = some r) ∧ Aside0 (kq ≤ k1) ∧ Aside0 (Kd.R k162 162 w' w0.heap.size (fun k_ => (P0_ k_ ∨ w.heap.size ≤ k_) ∧ some k_ ≠ (v5 : Value).ownBlock ∧ k_ ≠ gb160) (.slice Ao18 t161.length co18) t161) ∧ Aside0 (Kd.R k162 162 w' w0.heap.size (fun k_ => (P0_ k_ ∨ w.heap.size ≤ k_) ∧ some k_ ≠ ((.slice Ao18 t161.length co18) : Value).ownBlock ∧ k_ ≠ gb160) v5 x5_2) ∧ Aside0 (w'.heap[gb160]? = some (.cells #[.string a1_0, .int .i64 a1_1] 162 (0, 0))) ∧ Aside0 (Kept w w' (fun k_ => P0_ k_)) ∧ Aside0 (Below w0.heap.size w0 w'))
     case atStart => exact ⟨(y169), (0), (by first | rfl | (simp; done) | (simp [*]; done) | (simp [bne_nil]; done)), H', ⟨Nat.le_refl _⟩, ⟨by (with_reducible repeat (first | apply Kd.R_alloc | apply Kd.R_drewN | apply Kd.R_drew)); exact Kd.R_mono HO_0.out (fun _ hk => ⟨hk.1.1, ⟨hk.2, hk.1.2⟩⟩)⟩, ⟨by (with_reducible repeat (first | apply Kd.R_alloc | apply Kd.R_drewN | apply Kd.R_drew)); first | exact HO171.out | exact own_cut HO171.out⟩, ⟨by (with_reducible repeat (first | refine blk_drewN ?_ _ | refine blk_drew ?_ | refine blk_alloc ?_ _)); exact BK160.out⟩, ⟨by repeat (first | (with_reducible first | exact HK.out | apply Kept.alloc | apply Kept.drewN | apply Kept.drew | refine Kept.setCell ?_ (.inr GW160.out) _) | exact HK.out)⟩, ⟨by repeat (first | (with_reducible first | exact HB.out | apply below_alloc | apply pw_below_drewN | apply below_drew1 | refine below_set ?_ GE160.out) | exact HB.out)⟩⟩
     case round =>
      clear H'
      try clear c1
      try clear p1
      try clear q1
      try clear hx1
      try clear p2
      try clear p6
      try clear c8
      try clear c8b0
      try clear c9
      try clear c9b0
      try clear c10
      try clear c10b0
      try clear c11
      try clear p16
      try clear q16
      try clear hx16
      try clear c17
      try clear hcz13_0
      try clear hcz13_1
      try clear hcz16_0
      try clear hcz16_1
      try clear hcz19_0
      try clear hcz19_1
      try clear hcz5_0
      try clear hcz5_1
      try clear hfz13_0
      try clear hfz13_1
      try clear hfz16_0
      try clear hfz16_1
      try clear hfz19_0
      try clear hfz19_1
      try clear hfz5_0
      try clear hfz5_1
      try clear hx164_0
      try clear hx164_1
      try clear hx165_0
      try clear hx165_1
      try clear p164
      try clear p165
      try clear p2
      try clear q164
      try clear q165
      obtain ⟨x5_2, x7_2, rfl, HA, HK2, HO_0, HO_5, BK160, HK, HB⟩ := hrel
      cases gk with
      | zero => exact absurd HA.out (by simp [linhayref06_Put.l1])
      | succ k2 =>
       have H := HA.out
       clear HA
       simp only [linhayref06_Put.l1] at H
       by_cases c21 : x7_2 < (t161.length : Int)
       ·
        rw [if_pos c21] at H
        have c21b0 : decide (x7_2 < (t161.length : Int)) = true := decide_eq_true c21
        clear c21
        by_cases c22 : 0 ≤ x7_2
        ·
         rw [if_pos c22] at H
         have c22b0 : decide (0 ≤ x7_2) = true := decide_eq_true c22
         clear c22
         by_cases c23 : (Op.bytesLess a1_0.toList (((rd_T162 t161 x7_2).f0).toList)) = true
         ·
          rw [if_pos c23] at H
          have c23b0 : (Op.bytesLess a1_0.toList (((rd_T162 t161 x7_2).f0).toList)) = true := c23
          (try (have c23L1 : Op.bytesLess (((rd_T162 t161 x7_2).f0).toList) a1_0.toList = false := less_asym _ _ c23b0; have c23L2 : ((((rd_T162 t161 x7_2).f0).toList) == a1_0.toList) = false := less_flip c23b0))
          clear c23
          by_cases c24 : x5_2.length < 5864062014805
          ·
           rw [if_pos c24] at H
           have LMc24 := qa c24
           clear c24
           obtain ⟨y174, hy174⟩ : ∃ y_ : List (S162), y_ = (x5_2 ++ [(⟨(rd_T162 t161 x7_2).f0, (rd_T162 t161 x7_2).f1⟩ : S162)]) := ⟨_, rfl⟩
           replace H : (linhayref06_Put.l1 k2 t161 y174 (wrap64 (x7_2 + 1)) a1_0 a1_1) = some r := by first | (rw [hy174]; with_reducible exact H) | (have H2_ := (Option.bind_some _ _).symm.trans H; rw [hy174]; with_reducible exact H2_) | (have H2_ := (Option.bind_some _ _).symm.trans H; with_reducible exact H2_) | with_reducible exact H | (rw [hy174]; exact H) | exact H
           have Ny174 := qa hy174
           clear hy174
           have H' := qa H
           clear H
           have p172 : 0 ≤ (x7_2 : Int) := of_decide_eq_true (by first | (with_reducible assumption) | assumption)
           have q172 : x7_2 < (t161.length : Int) := of_decide_eq_true (by first | (with_reducible assumption) | assumption)
           obtain ⟨ad172, e172, hx172_0, hx172_1⟩ := at_T162 (Kd.R_reads' HO_0.out).2.2 x7_2 p172 q172
           cases e172
           replace p172 := eq_true p172
           replace q172 := eq_true q172
           have hcz25_0 : wr.cell? ⟨gb160, 0, none⟩ = some (.string a1_0) := (blk_cell BK160.out 0).trans rfl
           have hcz25_1 : wr.cell? ⟨gb160, 1, none⟩ = some (.int .i64 a1_1) := (blk_cell BK160.out 1).trans rfl
           have hfz25_0 := blk_frozen BK160.out 0
           have hfz25_1 := blk_frozen BK160.out 1
           have p173 : 0 ≤ (x7_2 : Int) := of_decide_eq_true (by first | (with_reducible assumption) | assumption)
           have q173 : x7_2 < (t161.length : Int) := of_decide_eq_true (by first | (with_reducible assumption) | assumption)
           obtain ⟨ad173, e173, hx173_0, hx173_1⟩ := at_T162 (Kd.R_reads' HO_0.out).2.2 x7_2 p173 q173
           obtain rfl : ad172 = ad173 := (by injection e173)
           replace p173 := eq_true p173
           replace q173 := eq_true q173
           go_wp2_with (first | ((with_reducible refine gate_builtin (b := .append) (xs := #[.tmp 51, .tmp 56]) rfl ?_); at_builtin; refine Kd.R_append k162 (w0 := w0) w0.heap.size rfl (.tmp 51) (.tmp 56) 110 162 (.agg #[(.string ⟨#[]⟩), (.int .i64 0)]) 24 rfl Tryz.underlying110 info162 rfl (by decide) (by omega) u5 x5_2 (⟨(rd_T162 t161 x7_2).f0, (rd_T162 t161 x7_2).f1⟩ : S162) [.string ((rd_T162 t161 x7_2).f0), .int .i64 ((rd_T162 t161 x7_2).f1)] (fun k_ => (P0_ k_ ∨ w.heap.size ≤ k_) ∧ some k_ ≠ (.slice (some ad172) t161.length co18 : Value).ownBlock ∧ k_ ≠ gb160) (fun _ => False) rfl rfl ?aP (fun _ hk => hk.elim) ?aF ?aO ?aB ?aS ?aL ?_; (case aP => exact k162_mkM _ _ _ (⟨(rd_T162 t161 x7_2).f0, (rd_T162 t161 x7_2).f1⟩ : S162)); (case aB => exact (by repeat (first | (with_reducible first | exact HB.out | apply below_alloc | apply pw_below_drewN | apply below_drew1 | refine below_set ?_ GE160.out) | exact HB.out))); (case aF => exact (fun k_ hk => ⟨(.inr (Nat.le_trans (by first | exact HK.out.1 | exact (show Kept w _ (fun k_ => P0_ k_) from by repeat (first | (with_reducible first | exact HK.out | apply Kept.alloc | apply Kept.drewN | apply Kept.drew | refine Kept.setCell ?_ (.inr GW160.out) _) | exact HK.out)).1) hk)), Kd.fresh' (Kd.R_lt (by (with_reducible repeat (first | apply Kd.R_alloc | apply Kd.R_drewN | apply Kd.R_drew)); exact HO_0.out)) k_ hk, Kd.freshB (g := gb160) (o := .cells #[.string a1_0, .int .i64 a1_1] 162 (0, 0)) (by (with_reducible repeat (first | refine blk_drewN ?_ _ | refine blk_drew ?_ | refine blk_alloc ?_ _)); exact BK160.out) k_ hk⟩)); (case aO => exact (by (with_reducible repeat (first | apply Kd.R_alloc | apply Kd.R_drewN | apply Kd.R_drew)); exact HO_5.out)); (case aS => exact (below_size (by repeat (first | (with_reducible first | exact HB.out | apply below_alloc | apply pw_below_drewN | apply below_drew1 | refine below_set ?_ GE160.out) | exact HB.out)))); (case aL => have := LMc24.out; omega); intro v175 w26 ho hb hg hat; rw [← Ny174.out] at ho; have n0_ := qa (Kd.R_after (ok := (fun k_ => (P0_ k_ ∨ w.heap.size ≤ k_) ∧ k_ ≠ gb160)) (by (with_reducible repeat (first | apply Kd.R_alloc | apply Kd.R_drewN | apply Kd.R_drew)); exact Kd.R_mono HO_0.out (fun _ hk => ⟨⟨hk.1, hk.2.2⟩, hk.2.1⟩)) hg hat); have n1_ := qa (blk_grown (g := gb160) (o := .cells #[.string a1_0, .int .i64 a1_1] 162 (0, 0)) (by (with_reducible repeat (first | refine blk_drewN ?_ _ | refine blk_drew ?_ | refine blk_alloc ?_ _)); exact BK160.out) hg (Kd.R_away HO_5.out (fun _ hk => hk.2.2))); have n2_ := qa (hb); have n3_ := qa (Kept.of_grown (S := (fun k_ => P0_ k_)) hg (by repeat (first | (with_reducible first | exact HK.out | apply Kept.alloc | apply Kept.drewN | apply Kept.drew | refine Kept.setCell ?_ (.inr GW160.out) _) | exact HK.out)) (fun k_ e_ => (HO_5.out.1 k_ e_).1)); have n4_ := qa (ho); clear HO_0; clear BK160; clear HB; clear HK; clear HO_5; have HO_0 := n0_; have BK160 := n1_; have HB := n2_; have HK := n3_; have HO176 := n4_; clear n0_ n1_ n2_ n3_ n4_; clear ho hb hg hat))
           repeat (go_quiet (first | ((with_reducible refine gate_builtin (b := .append) (xs := #[.tmp 51, .tmp 56]) rfl ?_); at_builtin; refine Kd.R_append k162 (w0 := w0) w0.heap.size rfl (.tmp 51) (.tmp 56) 110 162 (.agg #[(.string ⟨#[]⟩), (.int .i64 0)]) 24 rfl Tryz.underlying110 info162 rfl (by decide) (by omega) u5 x5_2 (⟨(rd_T162 t161 x7_2).f0, (rd_T162 t161 x7_2).f1⟩ : S162) [.string ((rd_T162 t161 x7_2).f0), .int .i64 ((rd_T162 t161 x7_2).f1)] (fun k_ => (P0_ k_ ∨ w.heap.size ≤ k_) ∧ some k_ ≠ (.slice (some ad172) t161.length co18 : Value).ownBlock ∧ k_ ≠ gb160) (fun _ => False) rfl rfl ?aP (fun _ hk => hk.elim) ?aF ?aO ?aB ?aS ?aL ?_; (case aP => exact k162_mkM _ _ _ (⟨(rd_T162 t161 x7_2).f0, (rd_T162 t161 x7_2).f1⟩ : S162)); (case aB => exact (by repeat (first | (with_reducible first | exact HB.out | apply below_alloc | apply pw_below_drewN | apply below_drew1 | refine below_set ?_ GE160.out) | exact HB.out))); (case aF => exact (fun k_ hk => ⟨(.inr (Nat.le_trans (by first | exact HK.out.1 | exact (show Kept w _ (fun k_ => P0_ k_) from by repeat (first | (with_reducible first | exact HK.out | apply Kept.alloc | apply Kept.drewN | apply Kept.drew | refine Kept.setCell ?_ (.inr GW160.out) _) | exact HK.out)).1) hk)), Kd.fresh' (Kd.R_lt (by (with_reducible repeat (first | apply Kd.R_alloc | apply Kd.R_drewN | apply Kd.R_drew)); exact HO_0.out)) k_ hk, Kd.freshB (g := gb160) (o := .cells #[.string a1_0, .int .i64 a1_1] 162 (0, 0)) (by (with_reducible repeat (first | refine blk_drewN ?_ _ | refine blk_drew ?_ | refine blk_alloc ?_ _)); exact BK160.out) k_ hk⟩)); (case aO => exact (by (with_reducible repeat (first | apply Kd.R_alloc | apply Kd.R_drewN | apply Kd.R_drew)); exact HO_5.out)); (case aS => exact (below_size (by repeat (first | (with_reducible first | exact HB.out | apply below_alloc | apply pw_below_drewN | apply below_drew1 | refine below_set ?_ GE160.out) | exact HB.out)))); (case aL => have := LMc24.out; omega); intro v175 w26 ho hb hg hat; rw [← Ny174.out] at ho; have n0_ := qa (Kd.R_after (ok := (fun k_ => (P0_ k_ ∨ w.heap.size ≤ k_) ∧ k_ ≠ gb160)) (by (with_reducible repeat (first | apply Kd.R_alloc | apply Kd.R_drewN | apply Kd.R_drew)); exact Kd.R_mono HO_0.out (fun _ hk => ⟨⟨hk.1, hk.2.2⟩, hk.2.1⟩)) hg hat); have n1_ := qa (blk_grown (g := gb160) (o := .cells #[.string a1_0, .int .i64 a1_1] 162 (0, 0)) (by (with_reducible repeat (first | refine blk_drewN ?_ _ | refine blk_drew ?_ | refine blk_alloc ?_ _)); exact BK160.out) hg (Kd.R_away HO_5.out (fun _ hk => hk.2.2))); have n2_ := qa (hb); have n3_ := qa (Kept.of_grown (S := (fun k_ => P0_ k_)) hg (by repeat (first | (with_reducible first | exact HK.out | apply Kept.alloc | apply Kept.drewN | apply Kept.drew | refine Kept.setCell ?_ (.inr GW160.out) _) | exact HK.out)) (fun k_ e_ => (HO_5.out.1 k_ e_).1)); have n4_ := qa (ho); clear HO_0; clear BK160; clear HB; clear HK; clear HO_5; have HO_0 := n0_; have BK160 := n1_; have HB := n2_; have HK := n3_; have HO176 := n4_; clear n0_ n1_ n2_ n3_ n4_; clear ho hb hg hat)); try go_wp2_with (first | ((with_reducible refine gate_builtin (b := .append) (xs := #[.tmp 51, .tmp 56]) rfl ?_); at_builtin; refine Kd.R_append k162 (w0 := w0) w0.heap.size rfl (.tmp 51) (.tmp 56) 110 162 (.agg #[(.string ⟨#[]⟩), (.int .i64 0)]) 24 rfl Tryz.underlying110 info162 rfl (by decide) (by omega) u5 x5_2 (⟨(rd_T162 t161 x7_2).f0, (rd_T162 t161 x7_2).f1⟩ : S162) [.string ((rd_T162 t161 x7_2).f0), .int .i64 ((rd_T162 t161 x7_2).f1)] (fun k_ => (P0_ k_ ∨ w.heap.size ≤ k_) ∧ some k_ ≠ (.slice (some ad172) t161.length co18 : Value).ownBlock ∧ k_ ≠ gb160) (fun _ => False) rfl rfl ?aP (fun _ hk => hk.elim) ?aF ?aO ?aB ?aS ?aL ?_; (case aP => exact k162_mkM _ _ _ (⟨(rd_T162 t161 x7_2).f0, (rd_T162 t161 x7_2).f1⟩ : S162)); (case aB => exact (by repeat (first | (with_reducible first | exact HB.out | apply below_alloc | apply pw_below_drewN | apply below_drew1 | refine below_set ?_ GE160.out) | exact HB.out))); (case aF => exact (fun k_ hk => ⟨(.inr (Nat.le_trans (by first | exact HK.out.1 | exact (show Kept w _ (fun k_ => P0_ k_) from by repeat (first | (with_reducible first | exact HK.out | apply Kept.alloc | apply Kept.drewN | apply Kept.drew | refine Kept.setCell ?_ (.inr GW160.out) _) | exact HK.out)).1) hk)), Kd.fresh' (Kd.R_lt (by (with_reducible repeat (first | apply Kd.R_alloc | apply Kd.R_drewN | apply Kd.R_drew)); exact HO_0.out)) k_ hk, Kd.freshB (g := gb160) (o := .cells #[.string a1_0, .int .i64 a1_1] 162 (0, 0)) (by (with_reducible repeat (first | refine blk_drewN ?_ _ | refine blk_drew ?_ | refine blk_alloc ?_ _)); exact BK160.out) k_ hk⟩)); (case aO => exact (by (with_reducible repeat (first | apply Kd.R_alloc | apply Kd.R_drewN | apply Kd.R_drew)); exact HO_5.out)); (case aS => exact (below_size (by repeat (first | (with_reducible first | exact HB.out | apply below_alloc | apply pw_below_drewN | apply below_drew1 | refine below_set ?_ GE160.out) | exact HB.out)))); (case aL => have := LMc24.out; omega); intro v175 w26 ho hb hg hat; rw [← Ny174.out] at ho; have n0_ := qa (Kd.R_after (ok := (fun k_ => (P0_ k_ ∨ w.heap.size ≤ k_) ∧ k_ ≠ gb160)) (by (with_reducible repeat (first | apply Kd.R_alloc | apply Kd.R_drewN | apply Kd.R_drew)); exact Kd.R_mono HO_0.out (fun _ hk => ⟨⟨hk.1, hk.2.2⟩, hk.2.1⟩)) hg hat); have n1_ := qa (blk_grown (g := gb160) (o := .cells #[.string a1_0, .int .i64 a1_1] 162 (0, 0)) (by (with_reducible repeat (first | refine blk_drewN ?_ _ | refine blk_drew ?_ | refine blk_alloc ?_ _)); exact BK160.out) hg (Kd.R_away HO_5.out (fun _ hk => hk.2.2))); have n2_ := qa (hb); have n3_ := qa (Kept.of_grown (S := (fun k_ => P0_ k_)) hg (by repeat (first | (with_reducible first | exact HK.out | apply Kept.alloc | apply Kept.drewN | apply Kept.drew | refine Kept.setCell ?_ (.inr GW160.out) _) | exact HK.out)) (fun k_ e_ => (HO_5.out.1 k_ e_).1)); have n4_ := qa (ho); clear HO_0; clear BK160; clear HB; clear HK; clear HO_5; have HO_0 := n0_; have BK160 := n1_; have HB := n2_; have HK := n3_; have HO176 := n4_; clear n0_ n1_ n2_ n3_ n4_; clear ho hb hg hat)))
           go_roundg k2
           case measure => have := HK1.out; have := HK2.out; omega
           case rel => exact ⟨(y174), (wrap64 (x7_2 + 1)), (by first | rfl | (simp; done) | (simp [*]; done) | (simp [bne_nil]; done)), H', ⟨by have := HK1.out; have := HK2.out; omega⟩, ⟨by (with_reducible repeat (first | apply Kd.R_alloc | apply Kd.R_drewN | apply Kd.R_drew)); exact Kd.R_mono HO_0.out (fun _ hk => ⟨hk.1.1, ⟨hk.2, hk.1.2⟩⟩)⟩, ⟨by (with_reducible repeat (first | apply Kd.R_alloc | apply Kd.R_drewN | apply Kd.R_drew)); first | exact HO176.out | exact own_cut HO176.out⟩, ⟨by (with_reducible repeat (first | refine blk_drewN ?_ _ | refine blk_drew ?_ | refine blk_alloc ?_ _)); exact BK160.out⟩, ⟨by repeat (first | (with_reducible first | exact HK.out | apply Kept.alloc | apply Kept.drewN | apply Kept.drew | refine Kept.setCell ?_ (.inr GW160.out) _) | exact HK.out)⟩, ⟨by repeat (first | (with_reducible first | exact HB.out | apply below_alloc | apply pw_below_drewN | apply below_drew1 | refine below_set ?_ GE160.out) | exact HB.out)⟩⟩
          ·
           rw [if_neg c24] at H
           exact absurd H (by simp)
         ·
          rw [if_neg c23] at H
          have c23b0 : (Op.bytesLess a1_0.toList (((rd_T162 t161 x7_2).f0).toList)) = false := by simpa using c23
          (try (have c23L1 : (Op.bytesLess (((rd_T162 t161 x7_2).f0).toList) a1_0.toList || (((rd_T162 t161 x7_2).f0).toList) == a1_0.toList) = true := less_tot _ _ c23b0))
          clear c23
          have H' := qa H
          clear H
          have p172 : 0 ≤ (x7_2 : Int) := of_decide_eq_true (by first | (with_reducible assumption) | assumption)
          have q172 : x7_2 < (t161.length : Int) := of_decide_eq_true (by first | (with_reducible assumption) | assumption)
          obtain ⟨ad172, e172, hx172_0, hx172_1⟩ := at_T162 (Kd.R_reads' HO_0.out).2.2 x7_2 p172 q172
          cases e172
          replace p172 := eq_true p172
          replace q172 := eq_true q172
          have hcz27_0 : wr.cell? ⟨gb160, 0, none⟩ = some (.string a1_0) := (blk_cell BK160.out 0).trans rfl
          have hcz27_1 : wr.cell? ⟨gb160, 1, none⟩ = some (.int .i64 a1_1) := (blk_cell BK160.out 1).trans rfl
          have hfz27_0 := blk_frozen BK160.out 0
          have hfz27_1 := blk_frozen BK160.out 1
          go_wp2
          repeat (go_quiet (fail); try go_wp2)
          go_roundg k2
          case measure => have := HK1.out; have := HK2.out; omega
          case rel => exact ⟨(x5_2), (wrap64 (x7_2 + 1)), (by first | rfl | (simp; done) | (simp [*]; done) | (simp [bne_nil]; done)), H', ⟨by have := HK1.out; have := HK2.out; omega⟩, ⟨by (with_reducible repeat (first | apply Kd.R_alloc | apply Kd.R_drewN | apply Kd.R_drew)); first | exact HO_0.out | exact own_cut HO_0.out⟩, ⟨by (with_reducible repeat (first | apply Kd.R_alloc | apply Kd.R_drewN | apply Kd.R_drew)); first | exact HO_5.out | exact own_cut HO_5.out⟩, ⟨by (with_reducible repeat (first | refine blk_drewN ?_ _ | refine blk_drew ?_ | refine blk_alloc ?_ _)); exact BK160.out⟩, ⟨by repeat (first | (with_reducible first | exact HK.out | apply Kept.alloc | apply Kept.drewN | apply Kept.drew | refine Kept.setCell ?_ (.inr GW160.out) _) | exact HK.out)⟩, ⟨by repeat (first | (with_reducible first | exact HB.out | apply below_alloc | apply pw_below_drewN | apply below_drew1 | refine below_set ?_ GE160.out) | exact HB.out)⟩⟩
        ·
         rw [if_neg c22] at H
         exact absurd H (by simp)
       ·
        rw [if_neg c21] at H
        have c21b0 : decide (x7_2 < (t161.length : Int)) = false := decide_eq_false c21
        clear c21
        obtain rfl := Option.some.inj H
        go_wp2
        repeat (go_quiet (fail); try go_wp2)
        go_ret
        exact ⟨_, by first | rfl | (simp [errW_none, errW_some] <;> rfl) | (simp [*, errW_none, errW_some] <;> rfl) | (simp [errW_none, errW_some, bne_nil]; done) | (simp [*, bne_nil]; done) | (simp [bne]; done), by (with_reducible repeat (first | apply Kd.R_alloc | apply Kd.R_drewN | apply Kd.R_drew)); exact Kd.R_mono HO_5.out (fun _ hk => hk.1), by repeat (first | (with_reducible first | exact HB.out | apply below_alloc | apply pw_below_drewN | apply below_drew1 | refine below_set ?_ GE160.out) | exact HB.out), by repeat (first | (with_reducible first | exact HK.out | apply Kept.alloc | apply Kept.drewN | apply Kept.drew | refine Kept.setCell ?_ (.inr GW160.out) _) | exact HK.out)⟩
    ·
     rw [if_neg c17] at H
     exact absurd H (by simp)
def linhayref07_List.l0 : Nat → Int → List (S162) → Int → List (S106) → Int → Option ((List (S162)))
 | 0, _, _, _, _, _ => none
 | k + 1, x1, x5, x6, x178000, x178001 => if x6 < (x178000.length : Int) then (if 0 ≤ x6 then (if ((rd_T106 x178000 x6).f1) = x1 then (if ((rd_T106 x178000 x6).f0) = 1 then (linhayref07_List.l0 k x1 x5 (wrap64 (x6 + 1)) x178000 x178001) else ((linhayref06_Put.f k x5 ((rd_T106 x178000 x6).f2) ((rd_T106 x178000 x6).f0)).bind fun t182 => (linhayref07_List.l0 k x1 t182 (wrap64 (x6 + 1)) x178000 x178001))) else (linhayref07_List.l0 k x1 x5 (wrap64 (x6 + 1)) x178000 x178001)) else (none)) else (some x5)
def linhayref07_List.f (k : Nat) (l0_0 : List (S106)) (a0_1 : Int) (a1 : Int) : Option ((List (S162))) := linhayref07_List.l0 k a1 ([] : List (S162)) 0 l0_0 a0_1
def linhayref07_List.T6 : Bool × List (List Nat × List Nat) := (true, [([], []), ([], []), ([1], [1]), ([], []), ([2, 3], [2, 3]), ([4], [4]), ([5], [5]), ([], []), ([7], [7]), ([], []), ([8, 9], [8, 9]), ([10], [10]), ([11], [11]), ([6, 12], [6, 12]), ([0, 13], [0, 13]), ([14, 14, 0, 1, 2, 3, 4, 5, 6, 7, 8, 9, 10, 11, 12, 13, 14], [0, 14])])
def linhayref07_List.B6 : List Nat := [0, 0, 2, 0, 14, 30, 62, 0, 128, 0, 896, 1920, 3968, 8190, 16383, 32767]
theorem linhayref07_List.tab6 : rtab .any (opsOf Tryz.f72 6) = linhayref07_List.T6 := by kernel_rfl
theorem linhayref07_List.bits6 : waitsOk linhayref07_List.T6.2 linhayref07_List.B6 = true := by kernel_rfl
theorem linhayref07_List.calls (k : Nat) (A0_0 : Option Addr) (c0_0 : Nat) (l0_0 : List (S106)) (a0_1 : Int) (a1 : Int) (r : List (S162)) (w : World) (hr0_0 : Kd.C k106 w A0_0 l0_0.length l0_0) (hc0_0 : l0_0.length ≤ c0_0) (h : linhayref07_List.f k l0_0 a0_1 a1 = some r) :
  Calls Tryz.prog 72 #[.agg #[.slice A0_0 l0_0.length c0_0, .int .i64 a0_1], .int .i64 a1] w fun e w' => ∃ v0_ : Value, e = .returned (v0_) ∧ Kd.R k162 162 w' w.heap.size (fun _ => True) v0_ r ∧ Below w.heap.size w w' := by
 have hu36 := Tryz.underlying36
 have hu49 := Tryz.underlying49
 have hu66 := Tryz.underlying66
 have hu93 := Tryz.underlying93
 have hu106 := Tryz.underlying106
 have hu115 := Tryz.underlying115
 have hu130 := Tryz.underlying130
 have hu30 := Tryz.underlying30
 have hu162 := Tryz.underlying162
 have HR0_0 := qa hr0_0
 have HC0_0 := qa hc0_0
 clear hr0_0 hc0_0
 have HB := qa (Below.refl w.heap.size w)
 have H : (linhayref07_List.l0 k a1 ([] : List (S162)) 0 l0_0 a0_1) = some r := h
 clear h
 have H' := qa H
 clear H
 go_enter Tryz.func72, Tryz.ntmps72
 go_wp2_with (first | ((with_reducible refine gate_dst (N := 2) rfl ?_); refine box_event ?hg (N := 2) ?hd (cs := #[.slice A0_0 l0_0.length c0_0, .int .i64 a0_1]) (t := 30) ?hr ?_; (case hd => rfl); (case hg => rfl); (case hr => first | (go_simp; done) | (go_simp; rfl)); intro gb177 hg w3 hbox hb; have n0_ := qa (below_step (by repeat (first | (with_reducible first | exact HB.out | apply below_alloc | apply pw_below_drewN | apply below_drew1) | exact HB.out)) hb); have n1_ := qa (hbox); have n2_ := qa ((by rw [hg]; exact (below_size (by repeat (first | (with_reducible first | exact HB.out | apply below_alloc | apply pw_below_drewN | apply below_drew1) | exact HB.out))) : w.heap.size ≤ gb177)); have n3_ := qa ((by rw [hg]; exact (below_size (by repeat (first | (with_reducible first | exact HB.out | apply below_alloc | apply pw_below_drewN | apply below_drew1) | exact HB.out))) : w.heap.size ≤ gb177)); clear HB; have HB := n0_; have BK177 := n1_; have GW177 := n2_; have GE177 := n3_; clear n0_ n1_ n2_ n3_; clear hb hbox hg))
 go_loopg [5, 6] k (fun kq v5 v6 w' => ∃ (x5_1 : List (S162)) (x6_1 : Int), v6 = .int .i64 x6_1 ∧ Aside0 (linhayref07_List.l0 kq a1 x5_1 x6_1 l0_0 a0_1 = some r) ∧ Aside0 (kq ≤ k) ∧ Aside0 (Kd.R k162 162 w' w.heap.size (fun _ => True) v5 x5_1) ∧ Aside0 (w'.heap[gb177]? = some (.cells #[(.slice A0_0 l0_0.length c0_0), .int .i64 a0_1] 30 (0, 0))) ∧ Aside0 (Below w.heap.size w w'))
 case atStart => exact ⟨(([] : List (S162))), (0), (by first | rfl | (simp; done) | (simp [*]; done) | (simp [bne_nil]; done)), H', ⟨Nat.le_refl _⟩, ⟨by first | exact Kd.R_nil _ _ _ _ _ | exact Kd.N_nil _ _ _ _ _ | exact Kd.V_nil _ _ _ _ _ | exact Kd.Q_nil _ _ _ _ _ | exact Kd.S_nil _ _ _ _ _⟩, ⟨by (with_reducible repeat (first | refine blk_drewN ?_ _ | refine blk_drew ?_ | refine blk_alloc ?_ _)); exact BK177.out⟩, ⟨by repeat (first | (with_reducible first | exact HB.out | apply below_alloc | apply pw_below_drewN | apply below_drew1 | refine below_set ?_ GE177.out) | exact HB.out)⟩⟩
 case round =>
  clear H'
  try clear p2
  obtain ⟨x5_1, x6_1, rfl, HA, HK1, HO_5, BK177, HB⟩ := hrel
  cases gk with
  | zero => exact absurd HA.out (by simp [linhayref07_List.l0])
  | succ k1 =>
   have H := HA.out
   clear HA
   simp only [linhayref07_List.l0] at H
   by_cases c4 : x6_1 < (l0_0.length : Int)
   ·
    rw [if_pos c4] at H
    have c4b0 : decide (x6_1 < (l0_0.length : Int)) = true := decide_eq_true c4
    clear c4
    by_cases c5 : 0 ≤ x6_1
    ·
     rw [if_pos c5] at H
     have c5b0 : decide (0 ≤ x6_1) = true := decide_eq_true c5
     clear c5
     by_cases c6 : ((rd_T106 l0_0 x6_1).f1) = a1
     ·
      rw [if_pos c6] at H
      have c6b0 : (((rd_T106 l0_0 x6_1).f1) == a1) = true := beq_iff_eq.mpr c6
      have c6b1 : (((rd_T106 l0_0 x6_1).f1) != a1) = false := bne_eq_false_iff_eq.mpr c6
      clear c6
      by_cases c7 : ((rd_T106 l0_0 x6_1).f0) = 1
      ·
       rw [if_pos c7] at H
       have c7b0 : (((rd_T106 l0_0 x6_1).f0) == 1) = true := beq_iff_eq.mpr c7
       have c7b1 : (((rd_T106 l0_0 x6_1).f0) != 1) = false := bne_eq_false_iff_eq.mpr c7
       clear c7
       have H' := qa H
       clear H
       have hcz8_0 : wr.cell? ⟨gb177, 0, none⟩ = some (.slice A0_0 l0_0.length c0_0) := (blk_cell BK177.out 0).trans rfl
       have hcz8_1 : wr.cell? ⟨gb177, 1, none⟩ = some (.int .i64 a0_1) := (blk_cell BK177.out 1).trans rfl
       have hfz8_0 := blk_frozen BK177.out 0
       have hfz8_1 := blk_frozen BK177.out 1
       have p178 : 0 ≤ (x6_1 : Int) := of_decide_eq_true (by first | (with_reducible assumption) | assumption)
       have q178 : x6_1 < (l0_0.length : Int) := of_decide_eq_true (by first | (with_reducible assumption) | assumption)
       obtain ⟨ad178, e178, hx178_0, hx178_1, hx178_2, hx178_3, hx178_4⟩ := at_T106 HR0_0.out x6_1 p178 q178
       cases e178
       replace hx178_0 := (HB.out.cell (World.block_lt_of_cell? w _ hx178_0)).trans hx178_0
       replace hx178_1 := (HB.out.cell (World.block_lt_of_cell? w _ hx178_1)).trans hx178_1
       replace hx178_2 := (HB.out.cell (World.block_lt_of_cell? w _ hx178_2)).trans hx178_2
       replace hx178_3 := (HB.out.cell (World.block_lt_of_cell? w _ hx178_3)).trans hx178_3
       replace hx178_4 := (HB.out.cell (World.block_lt_of_cell? w _ hx178_4)).trans hx178_4
       replace p178 := eq_true p178
       replace q178 := eq_true q178
       have p179 : 0 ≤ (x6_1 : Int) := of_decide_eq_true (by first | (with_reducible assumption) | assumption)
       have q179 : x6_1 < (l0_0.length : Int) := of_decide_eq_true (by first | (with_reducible assumption) | assumption)
       obtain ⟨ad179, e179, hx179_0, hx179_1, hx179_2, hx179_3, hx179_4⟩ := at_T106 HR0_0.out x6_1 p179 q179
       obtain rfl : ad178 = ad179 := (by injection e179)
       replace hx179_0 := (HB.out.cell (World.block_lt_of_cell? w _ hx179_0)).trans hx179_0
       replace hx179_1 := (HB.out.cell (World.block_lt_of_cell? w _ hx179_1)).trans hx179_1
       replace hx179_2 := (HB.out.cell (World.block_lt_of_cell? w _ hx179_2)).trans hx179_2
       replace hx179_3 := (HB.out.cell (World.block_lt_of_cell? w _ hx179_3)).trans hx179_3
       replace hx179_4 := (HB.out.cell (World.block_lt_of_cell? w _ hx179_4)).trans hx179_4
       replace p179 := eq_true p179
       replace q179 := eq_true q179
       go_wp2
       go_roundg k1
       case measure => have := HK1.out; omega
       case rel => exact ⟨(x5_1), (wrap64 (x6_1 + 1)), (by first | rfl | (simp; done) | (simp [*]; done) | (simp [bne_nil]; done)), H', ⟨by have := HK1.out; omega⟩, ⟨by (with_reducible repeat (first | apply Kd.R_alloc | apply Kd.R_drewN | apply Kd.R_drew)); first | exact HO_5.out | exact own_cut HO_5.out⟩, ⟨by (with_reducible repeat (first | refine blk_drewN ?_ _ | refine blk_drew ?_ | refine blk_alloc ?_ _)); exact BK177.out⟩, ⟨by repeat (first | (with_reducible first | exact HB.out | apply below_alloc | apply pw_below_drewN | apply below_drew1 | refine below_set ?_ GE177.out) | exact HB.out)⟩⟩
      ·
       rw [if_neg c7] at H
       have c7b0 : (((rd_T106 l0_0 x6_1).f0) == 1) = false := beq_eq_false_iff_ne.mpr c7
       have c7b1 : (((rd_T106 l0_0 x6_1).f0) != 1) = true := bne_iff_ne.mpr c7
       replace H := Option.bind_eq_some_iff.mp H
       obtain ⟨t182, A90, H⟩ := H
       replace H : (linhayref07_List.l0 k1 a1 t182 (wrap64 (x6_1 + 1)) l0_0 a0_1) = some r := H
       have A9 := qa A90
       clear A90
       have H' := qa H
       clear H
       have hcz10_0 : wr.cell? ⟨gb177, 0, none⟩ = some (.slice A0_0 l0_0.length c0_0) := (blk_cell BK177.out 0).trans rfl
       have hcz10_1 : wr.cell? ⟨gb177, 1, none⟩ = some (.int .i64 a0_1) := (blk_cell BK177.out 1).trans rfl
       have hfz10_0 := blk_frozen BK177.out 0
       have hfz10_1 := blk_frozen BK177.out 1
       have p178 : 0 ≤ (x6_1 : Int) := of_decide_eq_true (by first | (with_reducible assumption) | assumption)
       have q178 : x6_1 < (l0_0.length : Int) := of_decide_eq_true (by first | (with_reducible assumption) | assumption)
       obtain ⟨ad178, e178, hx178_0, hx178_1, hx178_2, hx178_3, hx178_4⟩ := at_T106 HR0_0.out x6_1 p178 q178
       cases e178
       replace hx178_0 := (HB.out.cell (World.block_lt_of_cell? w _ hx178_0)).trans hx178_0
       replace hx178_1 := (HB.out.cell (World.block_lt_of_cell? w _ hx178_1)).trans hx178_1
       replace hx178_2 := (HB.out.cell (World.block_lt_of_cell? w _ hx178_2)).trans hx178_2
       replace hx178_3 := (HB.out.cell (World.block_lt_of_cell? w _ hx178_3)).trans hx178_3
       replace hx178_4 := (HB.out.cell (World.block_lt_of_cell? w _ hx178_4)).trans hx178_4
       replace p178 := eq_true p178
       replace q178 := eq_true q178
       have p179 : 0 ≤ (x6_1 : Int) := of_decide_eq_true (by first | (with_reducible assumption) | assumption)
       have q179 : x6_1 < (l0_0.length : Int) := of_decide_eq_true (by first | (with_reducible assumption) | assumption)
       obtain ⟨ad179, e179, hx179_0, hx179_1, hx179_2, hx179_3, hx179_4⟩ := at_T106 HR0_0.out x6_1 p179 q179
       obtain rfl : ad178 = ad179 := (by injection e179)
       replace hx179_0 := (HB.out.cell (World.block_lt_of_cell? w _ hx179_0)).trans hx179_0
       replace hx179_1 := (HB.out.cell (World.block_lt_of_cell? w _ hx179_1)).trans hx179_1
       replace hx179_2 := (HB.out.cell (World.block_lt_of_cell? w _ hx179_2)).trans hx179_2
       replace hx179_3 := (HB.out.cell (World.block_lt_of_cell? w _ hx179_3)).trans hx179_3
       replace hx179_4 := (HB.out.cell (World.block_lt_of_cell? w _ hx179_4)).trans hx179_4
       replace p179 := eq_true p179
       replace q179 := eq_true q179
       try go_wp2
       have n0_ := qa (Kd.R_drew HO_5.out)
       have n1_ := qa (blk_drew BK177.out)
       have n2_ := qa (below_drew1 HB.out)
       clear HO_5
       clear BK177
       clear HB
       have HO_5 := n0_
       have BK177 := n1_
       have HB := n2_
       clear n0_ n1_ n2_
       have p180 : 0 ≤ (x6_1 : Int) := of_decide_eq_true (by first | (with_reducible assumption) | assumption)
       have q180 : x6_1 < (l0_0.length : Int) := of_decide_eq_true (by first | (with_reducible assumption) | assumption)
       obtain ⟨ad180, e180, hx180_0, hx180_1, hx180_2, hx180_3, hx180_4⟩ := at_T106 HR0_0.out x6_1 p180 q180
       have hw180_4 := hx180_4
       have hw180_3 := hx180_3
       have hw180_2 := hx180_2
       have hw180_1 := hx180_1
       have hw180_0 := hx180_0
       obtain rfl : ad178 = ad180 := (by injection e180)
       replace hx180_0 := (HB.out.cell (World.block_lt_of_cell? w _ hx180_0)).trans hx180_0
       replace hx180_1 := (HB.out.cell (World.block_lt_of_cell? w _ hx180_1)).trans hx180_1
       replace hx180_2 := (HB.out.cell (World.block_lt_of_cell? w _ hx180_2)).trans hx180_2
       replace hx180_3 := (HB.out.cell (World.block_lt_of_cell? w _ hx180_3)).trans hx180_3
       replace hx180_4 := (HB.out.cell (World.block_lt_of_cell? w _ hx180_4)).trans hx180_4
       replace p180 := eq_true p180
       replace q180 := eq_true q180
       have p181 : 0 ≤ (x6_1 : Int) := of_decide_eq_true (by first | (with_reducible assumption) | assumption)
       have q181 : x6_1 < (l0_0.length : Int) := of_decide_eq_true (by first | (with_reducible assumption) | assumption)
       obtain ⟨ad181, e181, hx181_0, hx181_1, hx181_2, hx181_3, hx181_4⟩ := at_T106 HR0_0.out x6_1 p181 q181
       have hw181_4 := hx181_4
       have hw181_3 := hx181_3
       have hw181_2 := hx181_2
       have hw181_1 := hx181_1
       have hw181_0 := hx181_0
       obtain rfl : ad178 = ad181 := (by injection e181)
       replace hx181_0 := (HB.out.cell (World.block_lt_of_cell? w _ hx181_0)).trans hx181_0
       replace hx181_1 := (HB.out.cell (World.block_lt_of_cell? w _ hx181_1)).trans hx181_1
       replace hx181_2 := (HB.out.cell (World.block_lt_of_cell? w _ hx181_2)).trans hx181_2
       replace hx181_3 := (HB.out.cell (World.block_lt_of_cell? w _ hx181_3)).trans hx181_3
       replace hx181_4 := (HB.out.cell (World.block_lt_of_cell? w _ hx181_4)).trans hx181_4
       replace p181 := eq_true p181
       replace q181 := eq_true q181
       obtain ⟨Ao12, co12, eo12⟩ := Kd.R_slice HO_5.out
       (first | subst eo12 | (injection eo12 with f1_ f2_ f3_; have f4_ := f1_.symm; have f5_ := f3_.symm; clear f1_ f2_ f3_; subst f4_; subst f5_))
       refine start_ (n := 16) (S := fun w' => w'.cell? ⟨gb177, 0, none⟩ = some (.slice (some ad178) l0_0.length c0_0) ∧ w'.cell? ⟨gb177, 1, none⟩ = some (.int .i64 a0_1) ∧ w'.cell? (ad178.add ((x6_1).toNat * 5)) = some (.int .i64 ((rd_T106 l0_0 x6_1).f0)) ∧ w'.cell? ⟨(ad178.add ((x6_1).toNat * 5)).block, (ad178.add ((x6_1).toNat * 5)).off + 1, none⟩ = some (.int .i64 ((rd_T106 l0_0 x6_1).f1)) ∧ w'.cell? ⟨(ad178.add ((x6_1).toNat * 5)).block, (ad178.add ((x6_1).toNat * 5)).off + 2, none⟩ = some (.string ((rd_T106 l0_0 x6_1).f2)) ∧ w'.cell? ⟨(ad178.add ((x6_1).toNat * 5)).block, (ad178.add ((x6_1).toNat * 5)).off + 3, none⟩ = some (.int .i64 ((rd_T106 l0_0 x6_1).f3)) ∧ w'.cell? ⟨(ad178.add ((x6_1).toNat * 5)).block, (ad178.add ((x6_1).toNat * 5)).off + 4, none⟩ = some (.string ((rd_T106 l0_0 x6_1).f4)) ∧ w'.cell? (ad178.add ((x6_1).toNat * 5)) = some (.int .i64 ((rd_T106 l0_0 x6_1).f0)) ∧ w'.cell? ⟨(ad178.add ((x6_1).toNat * 5)).block, (ad178.add ((x6_1).toNat * 5)).off + 1, none⟩ = some (.int .i64 ((rd_T106 l0_0 x6_1).f1)) ∧ w'.cell? ⟨(ad178.add ((x6_1).toNat * 5)).block, (ad178.add ((x6_1).toNat * 5)).off + 2, none⟩ = some (.string ((rd_T106 l0_0 x6_1).f2)) ∧ w'.cell? ⟨(ad178.add ((x6_1).toNat * 5)).block, (ad178.add ((x6_1).toNat * 5)).off + 3, none⟩ = some (.int .i64 ((rd_T106 l0_0 x6_1).f3)) ∧ w'.cell? ⟨(ad178.add ((x6_1).toNat * 5)).block, (ad178.add ((x6_1).toNat * 5)).off + 4, none⟩ = some (.string ((rd_T106 l0_0 x6_1).f4))) (ds := []) #[false, false, false, false, false, false, false, false, false, false, false, false, false, false, false, false] (by kernel_rfl) rfl rfl ⟨(blk_cell BK177.out 0).trans rfl, (blk_cell BK177.out 1).trans rfl, ((HB.out.cell (World.block_lt_of_cell? w _ hw180_0)).trans hw180_0), ((HB.out.cell (World.block_lt_of_cell? w _ hw180_1)).trans hw180_1), ((HB.out.cell (World.block_lt_of_cell? w _ hw180_2)).trans hw180_2), ((HB.out.cell (World.block_lt_of_cell? w _ hw180_3)).trans hw180_3), ((HB.out.cell (World.block_lt_of_cell? w _ hw180_4)).trans hw180_4), ((HB.out.cell (World.block_lt_of_cell? w _ hw181_0)).trans hw181_0), ((HB.out.cell (World.block_lt_of_cell? w _ hw181_1)).trans hw181_1), ((HB.out.cell (World.block_lt_of_cell? w _ hw181_2)).trans hw181_2), ((HB.out.cell (World.block_lt_of_cell? w _ hw181_3)).trans hw181_3), ((HB.out.cell (World.block_lt_of_cell? w _ hw181_4)).trans hw181_4)⟩ (fun hHeld => ?_); refine with_tabW linhayref07_List.tab6 linhayref07_List.bits6 (fun HT_ HW_ => ?_)
       generalize wr.drew = w11 at HO_5 BK177 HB hx180_0 hx180_1 hx180_2 hx180_3 hx180_4 hx181_0 hx181_1 hx181_2 hx181_3 hx181_4 hHeld ⊢
       refine pure_ (i := 0) (N := some 31) (v := ?_) (a' := ?_) #[true, false, false, false, false, false, false, false, false, false, false, false, false, false, false, false] rfl rfl (any_of HT_.out (by kernel_rfl)) (fun _ _ _ h => h) (Or.inl ⟨by rfl, ?_⟩) ?_ ?_
       rotate_left
       ·
        intro w'
        go_simp
        with_reducible rfl
       rotate_left
       ·
        simp only [Act.put, List.setIfInBounds_toArray, List.set_cons_zero, List.set_cons_succ, i64_w, i32_w]
        rfl
       refine pure_ (i := 1) (N := some 32) (v := ?_) (a' := ?_) #[true, true, false, false, false, false, false, false, false, false, false, false, false, false, false, false] rfl rfl (any_of HT_.out (by kernel_rfl)) (fun _ _ _ h => h) (Or.inl ⟨by rfl, ?_⟩) ?_ ?_
       rotate_left
       ·
        intro w'
        go_simp
        with_reducible rfl
       rotate_left
       ·
        simp only [Act.put, List.setIfInBounds_toArray, List.set_cons_zero, List.set_cons_succ, i64_w, i32_w]
        rfl
       refine pure_ (i := 3) (N := some 34) (v := ?_) (a' := ?_) #[true, true, false, true, false, false, false, false, false, false, false, false, false, false, false, false] rfl rfl (any_of HT_.out (by kernel_rfl)) (fun _ _ _ h => h) (Or.inl ⟨by rfl, ?_⟩) ?_ ?_
       rotate_left
       ·
        intro w'
        go_simp
        with_reducible rfl
       rotate_left
       ·
        simp only [Act.put, List.setIfInBounds_toArray, List.set_cons_zero, List.set_cons_succ, i64_w, i32_w]
        rfl
       refine pure_ (i := 7) (N := some 38) (v := ?_) (a' := ?_) #[true, true, false, true, false, false, false, true, false, false, false, false, false, false, false, false] rfl rfl (any_of HT_.out (by kernel_rfl)) (fun _ _ _ h => h) (Or.inl ⟨by rfl, ?_⟩) ?_ ?_
       rotate_left
       ·
        intro w'
        go_simp
        with_reducible rfl
       rotate_left
       ·
        simp only [Act.put, List.setIfInBounds_toArray, List.set_cons_zero, List.set_cons_succ, i64_w, i32_w]
        rfl
       refine pure_ (i := 9) (N := some 40) (v := ?_) (a' := ?_) #[true, true, false, true, false, false, false, true, false, true, false, false, false, false, false, false] rfl rfl (any_of HT_.out (by kernel_rfl)) (fun _ _ _ h => h) (Or.inl ⟨by rfl, ?_⟩) ?_ ?_
       rotate_left
       ·
        intro w'
        go_simp
        with_reducible rfl
       rotate_left
       ·
        simp only [Act.put, List.setIfInBounds_toArray, List.set_cons_zero, List.set_cons_succ, i64_w, i32_w]
        rfl
       refine take_ (i := 2) (N := some 33) (v := ?_) (a' := ?_) #[true, true, true, true, false, false, false, true, false, true, false, false, false, false, false, false] rfl rfl (take_ofW HT_.out HW_.out (by kernel_rfl)) (fun _ _ _ h => h) (Or.inl ⟨by rfl, ?_⟩) hHeld ?_ ?_
       rotate_left
       ·
        rintro w' ⟨s0, s1, s2, s3, s4, s5, s6, s7, s8, s9, s10, s11⟩
        go_simp
        with_reducible rfl
       rotate_left
       ·
        simp only [Act.put, List.setIfInBounds_toArray, List.set_cons_zero, List.set_cons_succ, i64_w, i32_w]
        rfl
       refine pure_ (i := 4) (N := some 35) (v := ?_) (a' := ?_) #[true, true, true, true, true, false, false, true, false, true, false, false, false, false, false, false] rfl rfl (any_of HT_.out (by kernel_rfl)) (fun _ _ _ h => h) (Or.inl ⟨by rfl, ?_⟩) ?_ ?_
       rotate_left
       ·
        intro w'
        go_simp
        with_reducible rfl
       rotate_left
       ·
        simp only [Act.put, List.setIfInBounds_toArray, List.set_cons_zero, List.set_cons_succ, i64_w, i32_w]
        rfl
       refine pure_ (i := 5) (N := some 36) (v := ?_) (a' := ?_) #[true, true, true, true, true, true, false, true, false, true, false, false, false, false, false, false] rfl rfl (any_of HT_.out (by kernel_rfl)) (fun _ _ _ h => h) (Or.inl ⟨by rfl, ?_⟩) ?_ ?_
       rotate_left
       ·
        intro w'
        go_simp
        with_reducible rfl
       rotate_left
       ·
        simp only [Act.put, List.setIfInBounds_toArray, List.set_cons_zero, List.set_cons_succ, i64_w, i32_w]
        rfl
       refine take_ (i := 6) (N := some 37) (v := ?_) (a' := ?_) #[true, true, true, true, true, true, true, true, false, true, false, false, false, false, false, false] rfl rfl (take_ofW HT_.out HW_.out (by kernel_rfl)) (fun _ _ _ h => h) (Or.inl ⟨by rfl, ?_⟩) hHeld ?_ ?_
       rotate_left
       ·
        rintro w' ⟨s0, s1, s2, s3, s4, s5, s6, s7, s8, s9, s10, s11⟩
        go_simp
        with_reducible rfl
       rotate_left
       ·
        simp only [Act.put, List.setIfInBounds_toArray, List.set_cons_zero, List.set_cons_succ, i64_w, i32_w]
        rfl
       refine take_ (i := 8) (N := some 39) (v := ?_) (a' := ?_) #[true, true, true, true, true, true, true, true, true, true, false, false, false, false, false, false] rfl rfl (take_ofW HT_.out HW_.out (by kernel_rfl)) (fun _ _ _ h => h) (Or.inl ⟨by rfl, ?_⟩) hHeld ?_ ?_
       rotate_left
       ·
        rintro w' ⟨s0, s1, s2, s3, s4, s5, s6, s7, s8, s9, s10, s11⟩
        go_simp
        with_reducible rfl
       rotate_left
       ·
        simp only [Act.put, List.setIfInBounds_toArray, List.set_cons_zero, List.set_cons_succ, i64_w, i32_w]
        rfl
       refine pure_ (i := 10) (N := some 41) (v := ?_) (a' := ?_) #[true, true, true, true, true, true, true, true, true, true, true, false, false, false, false, false] rfl rfl (any_of HT_.out (by kernel_rfl)) (fun _ _ _ h => h) (Or.inl ⟨by rfl, ?_⟩) ?_ ?_
       rotate_left
       ·
        intro w'
        go_simp
        with_reducible rfl
       rotate_left
       ·
        simp only [Act.put, List.setIfInBounds_toArray, List.set_cons_zero, List.set_cons_succ, i64_w, i32_w]
        rfl
       refine pure_ (i := 11) (N := some 42) (v := ?_) (a' := ?_) #[true, true, true, true, true, true, true, true, true, true, true, true, false, false, false, false] rfl rfl (any_of HT_.out (by kernel_rfl)) (fun _ _ _ h => h) (Or.inl ⟨by rfl, ?_⟩) ?_ ?_
       rotate_left
       ·
        intro w'
        go_simp
        with_reducible rfl
       rotate_left
       ·
        simp only [Act.put, List.setIfInBounds_toArray, List.set_cons_zero, List.set_cons_succ, i64_w, i32_w]
        rfl
       refine take_ (i := 12) (N := some 43) (v := ?_) (a' := ?_) #[true, true, true, true, true, true, true, true, true, true, true, true, true, false, false, false] rfl rfl (take_ofW HT_.out HW_.out (by kernel_rfl)) (fun _ _ _ h => h) (Or.inl ⟨by rfl, ?_⟩) hHeld ?_ ?_
       rotate_left
       ·
        rintro w' ⟨s0, s1, s2, s3, s4, s5, s6, s7, s8, s9, s10, s11⟩
        go_simp
        with_reducible rfl
       rotate_left
       ·
        simp only [Act.put, List.setIfInBounds_toArray, List.set_cons_zero, List.set_cons_succ, i64_w, i32_w]
        rfl
       refine pure_ (i := 13) (N := some 44) (v := ?_) (a' := ?_) #[true, true, true, true, true, true, true, true, true, true, true, true, true, true, false, false] rfl rfl (any_of HT_.out (by kernel_rfl)) (fun _ _ _ h => h) (Or.inl ⟨by rfl, ?_⟩) ?_ ?_
       rotate_left
       ·
        intro w'
        go_simp
        with_reducible rfl
       rotate_left
       ·
        simp only [Act.put, List.setIfInBounds_toArray, List.set_cons_zero, List.set_cons_succ, i64_w, i32_w]
        rfl
       refine one_ (i := 14) (N := some 45) #[true, true, true, true, true, true, true, true, true, true, true, true, true, true, true, false] rfl rfl (one_of HT_.out (by kernel_rfl)) (by decide) (fun K hK => ?_)
       refine goes_ Tryz.func117 (by kernel_rfl) rfl #[.slice Ao12 x5_1.length co12, .agg #[.string ((rd_T106 l0_0 x6_1).f2), .int .i64 ((rd_T106 l0_0 x6_1).f0)]] (by rfl) rfl rfl (by (try simp only [List.map_toArray, List.map_cons, List.map_nil]); first | done | rfl | (simp only [List.length_drop, List.length_take]; rfl)) ?_
       with_reducible refine (linhayref06_Put.calls k1 (fun k_ => some k_ = (.slice Ao12 x5_1.length co12 : Value).ownBlock) (.slice Ao12 x5_1.length co12) x5_1 ((rd_T106 l0_0 x6_1).f2) ((rd_T106 l0_0 x6_1).f0) t182 w _ ?side1 ?side2 A9.out).mono ?_
       (case side1 => repeat (first | (with_reducible first | exact HB.out | apply below_alloc | apply pw_below_drewN | apply below_drew1 | refine below_set ?_ GE177.out) | exact HB.out))
       (case side2 => exact Kd.R_tight rfl HO_5.out)
       rintro e w13 ⟨v183, rfl, ho0, hb, hkp⟩
       refine ⟨_, rfl, ?_⟩
       have n0_ := qa (blk_kept (by (with_reducible repeat (first | refine blk_drewN ?_ _ | refine blk_drew ?_ | refine blk_alloc ?_ _)); exact BK177.out) hkp (fun hs_ => (fun e_ => (Kd.R_ne HO_5.out BK177.out (by decide)) e_) hs_))
       have n1_ := qa (Kd.R_mono (ok' := fun k_ => True) ho0 (fun k_ hk_ => trivial))
       have n2_ := qa (hb)
       clear BK177
       clear HB
       clear HO_5
       have BK177 := n0_
       have HO184 := n1_
       have HB := n2_
       clear n0_ n1_ n2_
       (try clear hb)
       (try clear hkp)
       (try clear ho0)
       refine hK.out _ _ ⟨(blk_cell BK177.out 0).trans rfl, (blk_cell BK177.out 1).trans rfl, ((HB.out.cell (World.block_lt_of_cell? w _ hw180_0)).trans hw180_0), ((HB.out.cell (World.block_lt_of_cell? w _ hw180_1)).trans hw180_1), ((HB.out.cell (World.block_lt_of_cell? w _ hw180_2)).trans hw180_2), ((HB.out.cell (World.block_lt_of_cell? w _ hw180_3)).trans hw180_3), ((HB.out.cell (World.block_lt_of_cell? w _ hw180_4)).trans hw180_4), ((HB.out.cell (World.block_lt_of_cell? w _ hw181_0)).trans hw181_0), ((HB.out.cell (World.block_lt_of_cell? w _ hw181_1)).trans hw181_1), ((HB.out.cell (World.block_lt_of_cell? w _ hw181_2)).trans hw181_2), ((HB.out.cell (World.block_lt_of_cell? w _ hw181_3)).trans hw181_3), ((HB.out.cell (World.block_lt_of_cell? w _ hw181_4)).trans hw181_4)⟩ (fun hHeld => ?_)
       clear hK K
       refine norm_ (a' := ?_) ?_ ?_
       rotate_left
       ·
        show Act.put _ (some 45) _ = _
        simp only [Act.put, List.setIfInBounds_toArray, List.set_cons_zero, List.set_cons_succ, i64_w, i32_w]
        rfl
       refine pure_ (i := 15) (N := some 5) (v := ?_) (a' := ?_) #[true, true, true, true, true, true, true, true, true, true, true, true, true, true, true, true] rfl rfl (any_of HT_.out (by kernel_rfl)) (fun _ _ _ h => h) (Or.inl ⟨by rfl, ?_⟩) ?_ ?_
       rotate_left
       ·
        intro w'
        go_simp
        with_reducible rfl
       rotate_left
       ·
        simp only [Act.put, List.setIfInBounds_toArray, List.set_cons_zero, List.set_cons_succ, i64_w, i32_w]
        rfl
       refine done_ (done_of HT_.out (by kernel_rfl)) ?_
       try go_wp2
       go_roundg k1
       case measure => have := HK1.out; omega
       case rel => exact ⟨(t182), (wrap64 (x6_1 + 1)), (by first | rfl | (simp; done) | (simp [*]; done) | (simp [bne_nil]; done)), H', ⟨by have := HK1.out; omega⟩, ⟨by (with_reducible repeat (first | apply Kd.R_alloc | apply Kd.R_drewN | apply Kd.R_drew)); first | exact HO184.out | exact own_cut HO184.out⟩, ⟨by (with_reducible repeat (first | refine blk_drewN ?_ _ | refine blk_drew ?_ | refine blk_alloc ?_ _)); exact BK177.out⟩, ⟨by repeat (first | (with_reducible first | exact HB.out | apply below_alloc | apply pw_below_drewN | apply below_drew1 | refine below_set ?_ GE177.out) | exact HB.out)⟩⟩
     ·
      rw [if_neg c6] at H
      have c6b0 : (((rd_T106 l0_0 x6_1).f1) == a1) = false := beq_eq_false_iff_ne.mpr c6
      have c6b1 : (((rd_T106 l0_0 x6_1).f1) != a1) = true := bne_iff_ne.mpr c6
      have H' := qa H
      clear H
      have hcz14_0 : wr.cell? ⟨gb177, 0, none⟩ = some (.slice A0_0 l0_0.length c0_0) := (blk_cell BK177.out 0).trans rfl
      have hcz14_1 : wr.cell? ⟨gb177, 1, none⟩ = some (.int .i64 a0_1) := (blk_cell BK177.out 1).trans rfl
      have hfz14_0 := blk_frozen BK177.out 0
      have hfz14_1 := blk_frozen BK177.out 1
      have p178 : 0 ≤ (x6_1 : Int) := of_decide_eq_true (by first | (with_reducible assumption) | assumption)
      have q178 : x6_1 < (l0_0.length : Int) := of_decide_eq_true (by first | (with_reducible assumption) | assumption)
      obtain ⟨ad178, e178, hx178_0, hx178_1, hx178_2, hx178_3, hx178_4⟩ := at_T106 HR0_0.out x6_1 p178 q178
      cases e178
      replace hx178_0 := (HB.out.cell (World.block_lt_of_cell? w _ hx178_0)).trans hx178_0
      replace hx178_1 := (HB.out.cell (World.block_lt_of_cell? w _ hx178_1)).trans hx178_1
      replace hx178_2 := (HB.out.cell (World.block_lt_of_cell? w _ hx178_2)).trans hx178_2
      replace hx178_3 := (HB.out.cell (World.block_lt_of_cell? w _ hx178_3)).trans hx178_3
      replace hx178_4 := (HB.out.cell (World.block_lt_of_cell? w _ hx178_4)).trans hx178_4
      replace p178 := eq_true p178
      replace q178 := eq_true q178
      go_wp2
      go_roundg k1
      case measure => have := HK1.out; omega
      case rel => exact ⟨(x5_1), (wrap64 (x6_1 + 1)), (by first | rfl | (simp; done) | (simp [*]; done) | (simp [bne_nil]; done)), H', ⟨by have := HK1.out; omega⟩, ⟨by (with_reducible repeat (first | apply Kd.R_alloc | apply Kd.R_drewN | apply Kd.R_drew)); first | exact HO_5.out | exact own_cut HO_5.out⟩, ⟨by (with_reducible repeat (first | refine blk_drewN ?_ _ | refine blk_drew ?_ | refine blk_alloc ?_ _)); exact BK177.out⟩, ⟨by repeat (first | (with_reducible first | exact HB.out | apply below_alloc | apply pw_below_drewN | apply below_drew1 | refine below_set ?_ GE177.out) | exact HB.out)⟩⟩
    ·
     rw [if_neg c5] at H
     exact absurd H (by simp)
   ·
    rw [if_neg c4] at H
    have c4b0 : decide (x6_1 < (l0_0.length : Int)) = false := decide_eq_false c4
    clear c4
    obtain rfl := Option.some.inj H
    have hcz15_0 : wr.cell? ⟨gb177, 0, none⟩ = some (.slice A0_0 l0_0.length c0_0) := (blk_cell BK177.out 0).trans rfl
    have hcz15_1 : wr.cell? ⟨gb177, 1, none⟩ = some (.int .i64 a0_1) := (blk_cell BK177.out 1).trans rfl
    have hfz15_0 := blk_frozen BK177.out 0
    have hfz15_1 := blk_frozen BK177.out 1
    go_wp2
    go_ret
    exact ⟨_, by first | rfl | (simp [errW_none, errW_some] <;> rfl) | (simp [*, errW_none, errW_some] <;> rfl) | (simp [errW_none, errW_some, bne_nil]; done) | (simp [*, bne_nil]; done) | (simp [bne]; done), by (with_reducible repeat (first | apply Kd.R_alloc | apply Kd.R_drewN | apply Kd.R_drew)); exact HO_5.out, by repeat (first | (with_reducible first | exact HB.out | apply below_alloc | apply pw_below_drewN | apply below_drew1 | refine below_set ?_ GE177.out) | exact HB.out)⟩
end Go.Proofs.YtnpeeiikdcankaaGreat.X

namespace Go.Proofs.YtnpeeiikdcankaaGreat.Tw
open Go Go.RowKit Go.Proofs Go.Proofs.YtnpeeiikdcankaaGreat Go.Proofs.YtnpeeiikdcankaaGreatW.PrintWords Go.Proofs.YtnpeeiikdcankaaGreat.Ext Go.Proofs.YtnpeeiikdcankaaGreat.X Go.Proofs.YtnpeeiikdcankaaGreat.Pu
theorem rdE_get {l : List En} {i : Nat} (h : i < l.length) : rd_T162 l (i : Int) = l[i] := by simp [rd_T162, h]
theorem right6_ev (l : List En) (hl : l.length < 4294967296) (hr : Rt l) : Ev (fun k => linhayref06_Right.f k l) true := by
 have key : ∀ (d i : Nat), i + d = l.length → Ev (fun k => linhayref06_Right.l0 k l (i : Int)) true := by
  intro d
  induction d with
  | zero =>
   intro i hi
   refine Ev.step (fun k => by rw [linhayref06_Right.l0]) ?_
   rw [w1 (by omega)]
   exact ev_neg (by omega) (Ev.now _)
  | succ d ih =>
   intro i hi
   refine Ev.step (fun k => by rw [linhayref06_Right.l0]) ?_
   rw [w1 (by omega)]
   by_cases h : i + 1 < l.length
   ·
    refine ev_pos (by omega) (ev_pos (by omega) (ev_pos (by omega) (ev_pos (by omega) (ev_pos ?_ (ih (i + 1) (by omega))))))
    rw [rdE_get (by omega), rdE_get h]
    exact List.pairwise_iff_getElem.1 hr i (i + 1) (by omega) h (by omega)
   · exact ev_neg (by omega) (Ev.now _)
 exact key l.length 0 (by omega)
theorem all6_ev (l : List En) (hl : l.length < 4294967296) (hr : Rt l) : Ev (fun k => linhayref06_all.f k l) l := by
 have hf : (fun k => linhayref06_all.f k l) = fun k => (linhayref06_Right.f k l).bind fun t => if t = true then some l else some ([] : List En) := rfl
 rw [hf]
 exact ev_bind (right6_ev l hl hr) (ev_pos rfl (Ev.now _))
theorem snocE (acc : List En) (q : En) (l : List En) : acc ++ [(⟨q.f0, q.f1⟩ : En)] ++ l = acc ++ q :: l := by rw [List.append_assoc]; rfl
theorem cut6_ev (l : List En) (s : ByteArray) (hl : l.length < 4294967296) (hr : Rt l) (hn : ∀ e ∈ l, e.f0 ≠ s) : Ev (fun k => linhayref06_Cut.f k l s) l := by
 have key : ∀ (d i : Nat) (acc : List En), i + d = l.length → acc.length + d ≤ 4294967296 → Ev (fun k => linhayref06_Cut.l0 k l s acc (i : Int)) (acc ++ l.drop i) := by
  intro d
  induction d with
  | zero =>
   intro i acc hi ha
   rw [List.drop_eq_nil_of_le (by omega), List.append_nil]
   refine Ev.step (fun k => by rw [linhayref06_Cut.l0]) ?_
   exact ev_neg (by omega) (Ev.now _)
  | succ d ih =>
   intro i acc hi ha
   have hlt : i < l.length := by omega
   refine Ev.step (fun k => by rw [linhayref06_Cut.l0]) (ev_pos (by omega) (ev_pos (by omega) ?_))
   rw [rdE_get hlt, w1 (by omega), List.drop_eq_getElem_cons hlt]
   refine ev_neg (fun e => hn _ (List.getElem_mem hlt) (toL_inj.1 e)) (ev_pos (by omega) ?_)
   have := ih (i + 1) (acc ++ [(⟨l[i].f0, l[i].f1⟩ : En)]) (by omega) (by simp; omega)
   rw [snocE] at this
   exact this
 have hf : (fun k => linhayref06_Cut.f k l s) = fun k => (linhayref06_all.f k l).bind fun t => linhayref06_Cut.l0 k t s ([] : List En) 0 := rfl
 rw [hf]
 refine ev_bind (all6_ev l hl hr) ?_
 have := key l.length 0 [] (by omega) (by simp; omega)
 simpa using this
theorem filt_ins (x : En) : ∀ l : List En, Rt l → (∀ e ∈ l, e.f0 ≠ x.f0) → l.filter (fun e => bl e.f0 x.f0) ++ x :: l.filter (fun e => bl x.f0 e.f0) = insE l x
 | [], _, _ => rfl
 | a :: l, hr, hn => by
  obtain ⟨h1, h2⟩ := List.pairwise_cons.1 hr
  have ih := filt_ins x l h2 (fun e he => hn e (List.mem_cons_of_mem _ he))
  unfold insE
  rw [List.filter_cons, List.filter_cons]
  by_cases h : bl a.f0 x.f0 = true
  · rw [if_pos h, if_pos h, if_neg (by rw [bl_asym h]; simp), List.cons_append, ih]
  ·
   rw [if_neg h, if_neg h]
   have h3 : bl x.f0 a.f0 = true := by
    have h6 : (bl x.f0 a.f0 || x.f0.toList == a.f0.toList) = true := less_tot _ _ (show bl a.f0 x.f0 = false by simpa using h)
    rcases Bool.or_eq_true_iff.1 h6 with h7 | h7
    · exact h7
    · exact absurd (toL_inj.1 (by simpa using h7)).symm (hn a List.mem_cons_self)
   have e1 : l.filter (fun e => bl e.f0 x.f0) = [] := by
    rw [List.filter_eq_nil_iff]
    intro e he
    rw [bl_asym (bl_trans h3 (h1 e he))]
    simp
   have e2 : l.filter (fun e => bl x.f0 e.f0) = l := by
    rw [List.filter_eq_self]
    intro e he
    exact bl_trans h3 (h1 e he)
   rw [if_pos h3, e1, e2]
   rfl
theorem put6_ev (l : List En) (x : En) (hl : l.length < 1000000) (hr : Rt l) (hn : ∀ e ∈ l, e.f0 ≠ x.f0) : Ev (fun k => linhayref06_Put.f k l x.f0 x.f1) (insE l x) := by
 have k1 : ∀ (d i : Nat) (acc : List En), i + d = l.length → acc.length + d ≤ 4294967296 → Ev (fun k => linhayref06_Put.l1 k l acc (i : Int) x.f0 x.f1) (acc ++ (l.drop i).filter (fun e => bl x.f0 e.f0)) := by
  intro d
  induction d with
  | zero =>
   intro i acc hi ha
   rw [List.drop_eq_nil_of_le (by omega), List.filter_nil, List.append_nil]
   refine Ev.step (fun k => by rw [linhayref06_Put.l1]) ?_
   exact ev_neg (by omega) (Ev.now _)
  | succ d ih =>
   intro i acc hi ha
   have hlt : i < l.length := by omega
   refine Ev.step (fun k => by rw [linhayref06_Put.l1]) (ev_pos (by omega) (ev_pos (by omega) ?_))
   rw [rdE_get hlt, w1 (by omega), List.drop_eq_getElem_cons hlt, List.filter_cons]
   by_cases h : bl x.f0 l[i].f0 = true
   ·
    rw [if_pos h]
    refine ev_pos h (ev_pos (by omega) ?_)
    have := ih (i + 1) (acc ++ [(⟨l[i].f0, l[i].f1⟩ : En)]) (by omega) (by simp; omega)
    rw [snocE] at this
    exact this
   ·
    rw [if_neg h]
    exact ev_neg h (ih (i + 1) acc (by omega) (by omega))
 have k0 : ∀ (d i : Nat) (acc : List En), i + d = l.length → acc.length + d ≤ 2000000 → Ev (fun k => linhayref06_Put.l0 k l acc (i : Int) x.f0 x.f1) (acc ++ (l.drop i).filter (fun e => bl e.f0 x.f0) ++ x :: l.filter (fun e => bl x.f0 e.f0)) := by
  intro d
  induction d with
  | zero =>
   intro i acc hi ha
   rw [List.drop_eq_nil_of_le (by omega), List.filter_nil, List.append_nil]
   refine Ev.step (fun k => by rw [linhayref06_Put.l0]) ?_
   refine ev_neg (by omega) (ev_pos (by omega) ?_)
   have := k1 l.length 0 (acc ++ [(⟨x.f0, x.f1⟩ : En)]) (by omega) (by simp; omega)
   rw [snocE, List.drop_zero] at this
   exact this
  | succ d ih =>
   intro i acc hi ha
   have hlt : i < l.length := by omega
   refine Ev.step (fun k => by rw [linhayref06_Put.l0]) (ev_pos (by omega) (ev_pos (by omega) ?_))
   rw [rdE_get hlt, w1 (by omega), List.drop_eq_getElem_cons hlt, List.filter_cons]
   by_cases h : bl l[i].f0 x.f0 = true
   ·
    rw [if_pos h]
    refine ev_pos h (ev_pos (by omega) ?_)
    have := ih (i + 1) (acc ++ [(⟨l[i].f0, l[i].f1⟩ : En)]) (by omega) (by simp; omega)
    rw [snocE] at this
    exact this
   ·
    rw [if_neg h]
    exact ev_neg h (ih (i + 1) acc (by omega) (by omega))
 have hf : (fun k => linhayref06_Put.f k l x.f0 x.f1) = fun k => (linhayref06_Cut.f k l x.f0).bind fun t => linhayref06_Put.l0 k t ([] : List En) 0 x.f0 x.f1 := rfl
 rw [hf]
 refine ev_bind (cut6_ev l x.f0 (by omega) hr hn) ?_
 have := k0 l.length 0 [] (by omega) (by simp; omega)
 rw [List.nil_append, List.drop_zero, filt_ins x l hr hn] at this
 exact this
theorem list7_ev {L : List RN} {last : Int} (hG : GoodL L last) (n : Int) : Ev (fun k => linhayref07_List.f k L last n) (entsOf L n) := by
 have hl := hG.len
 have key : ∀ (d i : Nat), i + d = L.length → Ev (fun k => linhayref07_List.l0 k n (entsOf (L.take i) n) (i : Int) L last) (entsOf L n) := by
  intro d
  induction d with
  | zero =>
   intro i hi
   rw [List.take_of_length_le (by omega)]
   refine Ev.step (fun k => by rw [linhayref07_List.l0]) ?_
   exact ev_neg (by omega) (Ev.now _)
  | succ d ih =>
   intro i hi
   have hlt : i < L.length := by omega
   refine Ev.step (fun k => by rw [linhayref07_List.l0]) (ev_pos (by omega) (ev_pos (by omega) ?_))
   have hI := ih (i + 1) (by omega)
   rw [List.take_succ_eq_append_getElem hlt, entsOf_snoc] at hI
   rw [rd_get hlt, w1 (by omega)]
   by_cases h1 : L[i].f1 = n
   ·
    by_cases h2 : L[i].f0 = 1
    ·
     rw [if_neg (fun h => (isIn_iff.1 h).2 h2)] at hI
     exact ev_pos h1 (ev_pos h2 hI)
    ·
     rw [if_pos (isIn_iff.2 ⟨h1, h2⟩)] at hI
     refine ev_pos h1 (ev_neg h2 (ev_bind (put6_ev (entsOf (L.take i) n) ⟨L[i].f2, L[i].f0⟩ ?_ ?_ ?_) hI))
     ·
      have := ents_len (L.take i) n
      rw [List.length_take] at this
      omega
     · exact fold_rt n (L.take i) [] List.Pairwise.nil (by simp) (hG.names.sublist (List.take_sublist i L))
     ·
      intro e he
      obtain ⟨r, hr, hi2, rfl⟩ := mem_ents.1 he
      obtain ⟨i1, i2⟩ := isIn_iff.1 hi2
      obtain ⟨j, hj, rfl⟩ := List.mem_iff_getElem.1 hr
      rw [List.length_take] at hj
      rw [List.getElem_take] at i1 i2 ⊢
      exact List.pairwise_iff_getElem.1 hG.names j i (by omega) hlt (by omega) (i1.trans h1.symm) i2 h2
   ·
    rw [if_neg (fun h => h1 (isIn_iff.1 h).1)] at hI
    exact ev_neg h1 hI
 exact key L.length 0 (by omega)
theorem walk_rng {L : List RN} {last : Int} (hG : GoodL L last) (hM : GoodM L) (lst : Bool) : ∀ (k : Nat) (a h : Int) (l : List ByteArray) (R : Int × Int), walkF (trOf L last) lst k a h l = some R → (atR L a).f3 ≠ 0 → R.2 = 0 → (atR L R.1).f3 ≠ 0 := by
 intro k
 induction k with
 | zero => intro a h l R hw; cases hw
 | succ k ih =>
  intro a h l R hw ha hR
  cases l with
  | nil =>
   rw [walk_nil] at hw
   obtain rfl := Option.some.inj hw
   exact ha
  | cons s l =>
   rw [walk_cons, node_of hG a] at hw
   simp only [] at hw
   split at hw
   · obtain rfl := Option.some.inj hw; cases hR
   rename_i hk
   have hk1 : (atR L a).f3 = 1 := by simpa using hk
   split at hw
   ·
    obtain ⟨r, hr, _, hat⟩ := at_kind ha
    refine ih _ _ _ _ hw ?_ hR
    rw [hat, hG.up r hr]
    decide
   split at hw
   ·
    rename_i h3
    obtain rfl := Option.some.inj hw
    exact absurd hR h3
   rename_i h3
   have hd : (atR L (downT (trOf L last) a s).1).f3 ≠ 0 := by
    rw [downT_of hG] at h3 ⊢
    split at h3
    ·
     rename_i hc
     rw [if_pos hc]
     split at h3
     · simp at h3
     ·
      rename_i h0
      rw [if_neg h0]
      obtain ⟨r, hr, _, _, _, _, hat⟩ := inR_mem hG h0
      rw [show (inR L a s, (0 : Int)).1 = inR L a s from rfl, hat]
      have := hM.kind r hr
      omega
    ·
     rename_i hc
     simp at h3
     exact absurd h3 hc
   split at hw
   · exact ih _ _ _ _ hw hd hR
   split at hw
   · obtain rfl := Option.some.inj hw; cases hR
   refine ih _ _ _ _ hw ?_ hR
   split
   ·
    obtain ⟨r, hr, h1, _, h2⟩ := hG.root
    rw [← h1, at_mem hG hr, h2]
    decide
   · exact ha
theorem find_rng {L : List RN} {last : Int} (hG : GoodL L last) (hM : GoodM L) {lst : Bool} {k : Nat} {s : ByteArray} {R : Int × Int} (h : findF (trOf L last) lst k s = some R) : (R.2 = 0 → 1 ≤ R.1 ∧ R.1 ≤ last) ∧ (R.2 ≠ 0 → R.1 = 0) := by
 have hroot : (atR L 1).f3 ≠ 0 := by
  obtain ⟨r, hr, h1, _, h2⟩ := hG.root
  rw [← h1, at_mem hG hr, h2]
  decide
 unfold findF at h
 split at h
 ·
  obtain ⟨q, hq, hr⟩ := Option.bind_eq_some_iff.1 h
  split at hr
  ·
   rename_i h0
   obtain rfl := Option.some.inj hr
   refine ⟨fun _ => ?_, fun h => absurd rfl h⟩
   obtain ⟨r, hr, h1, _⟩ := at_kind (walk_rng hG hM lst k 1 0 (partsB s) q hq hroot h0)
   have := hG.num r hr
   omega
  ·
   rename_i h0
   obtain rfl := Option.some.inj hr
   exact ⟨fun h => absurd h h0, fun _ => rfl⟩
 ·
  rename_i h0
  obtain rfl := Option.some.inj h
  exact ⟨fun h => absurd h h0, fun _ => rfl⟩
theorem find_wf {L : List RN} {last : Int} (hG : GoodL L last) (hM : GoodM L) (hla : last ≤ 1000000) {lst : Bool} {k : Nat} {s : ByteArray} {R : Int × Int} (h : findF (trOf L last) lst k s = some R) : wf R.1 := by
 obtain ⟨h1, h2⟩ := find_rng hG hM h
 by_cases h0 : R.2 = 0
 ·
  have := h1 h0
  exact wf_of (by omega)
 ·
  rw [h2 h0]
  exact wf0
section
variable {L : List RN} {last : Int} {s : ByteArray} {lst : Bool} {R : Int × Int}
end
end Go.Proofs.YtnpeeiikdcankaaGreat.Tw

namespace Go.Proofs.YtnpeeiikdcankaaGreat.Tw
open Go Go.RowKit Go.Shelf Go.Proofs Go.Proofs.YtnpeeiikdcankaaGreat Go.Proofs.YtnpeeiikdcankaaGreatW.PrintWords Go.Proofs.YtnpeeiikdcankaaGreat.Ext Go.Proofs.YtnpeeiikdcankaaGreat.X Go.Proofs.YtnpeeiikdcankaaGreat.Pu
end Go.Proofs.YtnpeeiikdcankaaGreat.Tw
