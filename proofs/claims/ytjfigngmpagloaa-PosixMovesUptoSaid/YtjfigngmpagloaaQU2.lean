/- Texts of this session, merged: X1, PureR04, PureIs, X2, X3, X4, Ref7, Rel, Rput, RputOk, RelPut, Frm, MadeF, Good, RelOps, RelCut, RelMove, TrOf, Tops, Find, Spot, X6, X7. -/
import Derived.Test.YtjfigngmpagloaaQU0
import Derived.Test.YtjfigngmpagloaaQU1
import Derived.Deep.RegionLaw
import Derived.Deep.QuietTactic
import Derived.BigQuiet

namespace Go.Proofs.Ytjfigngmpagloaa.Ext
end Go.Proofs.Ytjfigngmpagloaa.Ext
namespace Go.Proofs.Ytjfigngmpagloaa.X
open Go.RowKit Go.Proofs.YtjfigngmpagloaaW.PrintWords Go.Proofs.YtjfigngmpagloaaW.PrintLast Go.Proofs.YtjfigngmpagloaaW.PrintMore Go.Proofs.Ytjfigngmpagloaa.Ext
attribute [local go_sem] max2_int min2_int max_two min_two max_three min_three max_four min_four   -- for this text's walks alone
set_option linter.unusedVariables false
set_option linter.unusedSimpArgs false

mutual
def linhayref04_Parts.l0 : Nat → ByteArray → List ByteArray → ByteArray → Int → Option (List ByteArray)
  | 0, _, _, _, _ => none
  | k + 1, x0, x3, x4, x5 => if x5 ≤ (x0.size : Int) then (if x5 < (x0.size : Int) then (if 0 ≤ x5 then (linhayref04_Parts.j1 k x0 x3 x4 x5 ((bt x0 x5) != 47)) else (none)) else (linhayref04_Parts.j1 k x0 x3 x4 x5 false)) else (some x3)
def linhayref04_Parts.j1 : Nat → ByteArray → List ByteArray → ByteArray → Int → Bool → Option (List ByteArray)
  | 0, _, _, _, _, _ => none
  | k + 1, x0, x3, x4, x5, x21 => if x21 = true then (if 0 ≤ x5 then (if x5 ≤ (wrap64 (x5 + 1)) then (if (wrap64 (x5 + 1)) ≤ (x0.size : Int) then (if x4.size + (x0.extract (x5 : Int).toNat ((wrap64 (x5 + 1)) : Int).toNat).size ≤ 9223372036854775807 then (linhayref04_Parts.l0 k x0 x3 (x4 ++ (x0.extract (x5 : Int).toNat ((wrap64 (x5 + 1)) : Int).toNat)) (wrap64 (x5 + 1))) else (none)) else (none)) else (none)) else (none)) else (if x4.toList = ([] : List UInt8) then (linhayref04_Parts.l0 k x0 x3 (⟨#[]⟩ : ByteArray) (wrap64 (x5 + 1))) else (if x4.toList = ([46] : List UInt8) then (linhayref04_Parts.l0 k x0 x3 (⟨#[]⟩ : ByteArray) (wrap64 (x5 + 1))) else (if x3.length < 8796093022208 then (linhayref04_Parts.l0 k x0 (x3 ++ [x4]) (⟨#[]⟩ : ByteArray) (wrap64 (x5 + 1))) else (none))))
end
def linhayref04_Parts.f (k : Nat) (a0 : ByteArray) : Option (List ByteArray) := linhayref04_Parts.l0 k a0 ([] : List ByteArray) (⟨#[]⟩ : ByteArray) 0
def linhayref03_Check.l0 : Nat → ByteArray → Int → Option (Int)
  | 0, _, _ => none
  | k + 1, x0, x3 => if x3 < (x0.size : Int) then (if 0 ≤ x3 then (if (bt x0 x3) = 0 then (some 11) else (if (bt x0 x3) = 47 then (some 11) else (linhayref03_Check.l0 k x0 (wrap64 (x3 + 1))))) else (none)) else (if x0.toList = ([46] : List UInt8) then (some 6) else (if x0.toList = ([46, 46] : List UInt8) then (some 6) else (some 0)))
def linhayref03_Check.f (k : Nat) (a0 : ByteArray) : Option (Int) := if (a0.size : Int) = 0 then (some 5) else (if (a0.size : Int) > 64 then (some 11) else (linhayref03_Check.l0 k a0 0))
set_option maxHeartbeats 8000000 in
set_option maxRecDepth 100000 in
theorem linhayref03_Check.calls (k : Nat) (a0 : ByteArray) (r : Int) (w : World) (h : linhayref03_Check.f k a0 = some r) :
  Calls Try.prog 64 #[.string a0] w fun e w' => e = .returned (.int .i64 r) ∧ Drawn0 w w' := by
 have hu75 := Try.underlying75
 have hu76 := Try.underlying76
 have hu89 := Try.underlying89
 have hu97 := Try.underlying97
 have hu108 := Try.underlying108
 have H : (if (a0.size : Int) = 0 then (some 5) else (if (a0.size : Int) > 64 then (some 11) else (linhayref03_Check.l0 k a0 0))) = some r := h
 clear h
 by_cases c2 : (a0.size : Int) = 0
 ·
  rw [if_pos c2] at H
  have c2b0 : ((a0.size : Int) == 0) = true := beq_iff_eq.mpr c2
  have c2b1 : ((a0.size : Int) != 0) = false := bne_eq_false_iff_eq.mpr c2
  clear c2
  obtain rfl := Option.some.inj H
  go_enter Try.func64, Try.ntmps64
  go_wp2
  go_ret
  exact ⟨by first | rfl | (simp; done) | (simp [*]; done), by repeat (first | exact Drawn0.refl _ | apply Drawn0.step)⟩
 ·
  rw [if_neg c2] at H
  have c2b0 : ((a0.size : Int) == 0) = false := beq_eq_false_iff_ne.mpr c2
  have c2b1 : ((a0.size : Int) != 0) = true := bne_iff_ne.mpr c2
  by_cases c3 : (a0.size : Int) > 64
  ·
   rw [if_pos c3] at H
   have c3b0 : decide (64 < (a0.size : Int)) = true := decide_eq_true c3
   have c3b1 : decide (64 < a0.size) = true := decide_eq_true (by omega)
   clear c3
   obtain rfl := Option.some.inj H
   go_enter Try.func64, Try.ntmps64
   go_wp2
   go_ret
   exact ⟨by first | rfl | (simp; done) | (simp [*]; done), by repeat (first | exact Drawn0.refl _ | apply Drawn0.step)⟩
  ·
   rw [if_neg c3] at H
   have c3b0 : decide (64 < (a0.size : Int)) = false := decide_eq_false c3
   have c3b1 : decide (64 < a0.size) = false := decide_eq_false (by omega)
   clear c3
   have H' := Aside0.mk H
   clear H
   go_enter Try.func64, Try.ntmps64
   go_wp2
   go_loopg [3] k (fun kq v3 w' => ∃ (x3_1 : Int), v3 = .int .i64 x3_1 ∧ Aside0 (linhayref03_Check.l0 kq a0 x3_1 = some r) ∧ Aside0 (kq ≤ k) ∧ Drawn0 w w')
   case atStart => exact ⟨(0), (by first | rfl | (simp; done) | (simp [*]; done) | (simp [bne_nil]; done)), H', ⟨Nat.le_refl _⟩, by repeat (first | exact Drawn0.refl _ | apply Drawn0.step)⟩
   case round =>
    clear H'
    try clear c2
    try clear c2b0
    try clear c2b1
    try clear p2
    try clear c3
    try clear c3b0
    try clear c3b1
    obtain ⟨x3_1, rfl, HA, HK1, ⟨m1, rfl⟩⟩ := hrel
    cases gk with
    | zero => exact absurd HA.out (by simp [linhayref03_Check.l0])
    | succ k1 =>
     have H := HA.out
     clear HA
     simp only [linhayref03_Check.l0] at H
     by_cases c4 : x3_1 < (a0.size : Int)
     ·
      rw [if_pos c4] at H
      have c4b0 : decide (x3_1 < (a0.size : Int)) = true := decide_eq_true c4
      clear c4
      by_cases c5 : 0 ≤ x3_1
      ·
       rw [if_pos c5] at H
       have c5b0 : decide (0 ≤ x3_1) = true := decide_eq_true c5
       clear c5
       by_cases c7 : (bt a0 x3_1) = 0
       ·
        rw [if_pos c7] at H
        have c7b0 : ((bt a0 x3_1) == 0) = true := beq_iff_eq.mpr c7
        have c7b1 : ((bt a0 x3_1) != 0) = false := bne_eq_false_iff_eq.mpr c7
        clear c7
        obtain rfl := Option.some.inj H
        have p6 : 0 ≤ (x3_1 : Int) := of_decide_eq_true (by first | (with_reducible assumption) | assumption)
        have q6 : x3_1 < (a0.size : Int) := of_decide_eq_true (by first | (with_reducible assumption) | assumption)
        have hx6 := bt_at a0 x3_1
        replace p6 := eq_true p6
        replace q6 := eq_true q6
        go_wp2
        go_ret
        exact ⟨by first | rfl | (simp; done) | (simp [*]; done), by repeat (first | exact Drawn0.refl _ | apply Drawn0.step)⟩
       ·
        rw [if_neg c7] at H
        have c7b0 : ((bt a0 x3_1) == 0) = false := beq_eq_false_iff_ne.mpr c7
        have c7b1 : ((bt a0 x3_1) != 0) = true := bne_iff_ne.mpr c7
        by_cases c9 : (bt a0 x3_1) = 47
        ·
         rw [if_pos c9] at H
         have c9b0 : ((bt a0 x3_1) == 47) = true := beq_iff_eq.mpr c9
         have c9b1 : ((bt a0 x3_1) != 47) = false := bne_eq_false_iff_eq.mpr c9
         clear c9
         obtain rfl := Option.some.inj H
         have p6 : 0 ≤ (x3_1 : Int) := of_decide_eq_true (by first | (with_reducible assumption) | assumption)
         have q6 : x3_1 < (a0.size : Int) := of_decide_eq_true (by first | (with_reducible assumption) | assumption)
         have hx6 := bt_at a0 x3_1
         replace p6 := eq_true p6
         replace q6 := eq_true q6
         have p8 : 0 ≤ (x3_1 : Int) := of_decide_eq_true (by first | (with_reducible assumption) | assumption)
         have q8 : x3_1 < (a0.size : Int) := of_decide_eq_true (by first | (with_reducible assumption) | assumption)
         have hx8 := bt_at a0 x3_1
         replace p8 := eq_true p8
         replace q8 := eq_true q8
         go_wp2
         go_ret
         exact ⟨by first | rfl | (simp; done) | (simp [*]; done), by repeat (first | exact Drawn0.refl _ | apply Drawn0.step)⟩
        ·
         rw [if_neg c9] at H
         have c9b0 : ((bt a0 x3_1) == 47) = false := beq_eq_false_iff_ne.mpr c9
         have c9b1 : ((bt a0 x3_1) != 47) = true := bne_iff_ne.mpr c9
         have H' := Aside0.mk H
         clear H
         have p6 : 0 ≤ (x3_1 : Int) := of_decide_eq_true (by first | (with_reducible assumption) | assumption)
         have q6 : x3_1 < (a0.size : Int) := of_decide_eq_true (by first | (with_reducible assumption) | assumption)
         have hx6 := bt_at a0 x3_1
         replace p6 := eq_true p6
         replace q6 := eq_true q6
         have p8 : 0 ≤ (x3_1 : Int) := of_decide_eq_true (by first | (with_reducible assumption) | assumption)
         have q8 : x3_1 < (a0.size : Int) := of_decide_eq_true (by first | (with_reducible assumption) | assumption)
         have hx8 := bt_at a0 x3_1
         replace p8 := eq_true p8
         replace q8 := eq_true q8
         go_wp2
         go_roundg k1
         case measure => have := HK1.out; omega
         case rel => exact ⟨(wrap64 (x3_1 + 1)), (by first | rfl | (simp; done) | (simp [*]; done) | (simp [bne_nil]; done)), H', ⟨by have := HK1.out; omega⟩, by repeat (first | exact Drawn0.refl _ | apply Drawn0.step)⟩
      ·
       rw [if_neg c5] at H
       exact absurd H (by simp)
     ·
      rw [if_neg c4] at H
      have c4b0 : decide (x3_1 < (a0.size : Int)) = false := decide_eq_false c4
      clear c4
      by_cases c10 : a0.toList = ([46] : List UInt8)
      ·
       rw [if_pos c10] at H
       have c10b0 : (a0.toList == ([46] : List UInt8)) = true := beq_iff_eq.mpr c10
       have c10b1 : (a0.toList != ([46] : List UInt8)) = false := bne_eq_false_iff_eq.mpr c10
       clear c10
       obtain rfl := Option.some.inj H
       go_wp2
       go_ret
       exact ⟨by first | rfl | (simp; done) | (simp [*]; done), by repeat (first | exact Drawn0.refl _ | apply Drawn0.step)⟩
      ·
       rw [if_neg c10] at H
       have c10b0 : (a0.toList == ([46] : List UInt8)) = false := beq_eq_false_iff_ne.mpr c10
       have c10b1 : (a0.toList != ([46] : List UInt8)) = true := bne_iff_ne.mpr c10
       by_cases c11 : a0.toList = ([46, 46] : List UInt8)
       ·
        rw [if_pos c11] at H
        have c11b0 : (a0.toList == ([46, 46] : List UInt8)) = true := beq_iff_eq.mpr c11
        have c11b1 : (a0.toList != ([46, 46] : List UInt8)) = false := bne_eq_false_iff_eq.mpr c11
        clear c11
        obtain rfl := Option.some.inj H
        go_wp2
        go_ret
        exact ⟨by first | rfl | (simp; done) | (simp [*]; done), by repeat (first | exact Drawn0.refl _ | apply Drawn0.step)⟩
       ·
        rw [if_neg c11] at H
        have c11b0 : (a0.toList == ([46, 46] : List UInt8)) = false := beq_eq_false_iff_ne.mpr c11
        have c11b1 : (a0.toList != ([46, 46] : List UInt8)) = true := bne_iff_ne.mpr c11
        obtain rfl := Option.some.inj H
        go_wp2
        go_ret
        exact ⟨by first | rfl | (simp; done) | (simp [*]; done), by repeat (first | exact Drawn0.refl _ | apply Drawn0.step)⟩

def linhaylaw08_Few.l0 : Nat → List (S89) → Int → Option (Bool)
  | 0, _, _ => none
  | k + 1, x0, x3 => if x3 < (x0.length : Int) then (if 0 ≤ x3 then (if (((rd_T89 x0 x3).f3).size : Int) > 2000 then (some false) else (linhaylaw08_Few.l0 k x0 (wrap64 (x3 + 1)))) else (none)) else (some (decide ((x0.length : Int) ≤ 60)))
def linhaylaw08_Few.f (k : Nat) (l0 : List (S89)) : Option (Bool) := linhaylaw08_Few.l0 k l0 0
set_option maxHeartbeats 8000000 in
set_option maxRecDepth 100000 in
theorem linhaylaw08_Few.calls (k : Nat) (A0 : Option Addr) (c0 : Nat) (l0 : List (S89)) (r : Bool) (w : World) (hr0 : Kd.C k89 w A0 l0.length l0) (hc0 : l0.length ≤ c0) (h : linhaylaw08_Few.f k l0 = some r) :
  Calls Try.prog 10 #[.slice A0 l0.length c0] w fun e w' => e = .returned (.bool r) ∧ Drawn0 w w' := by
 have hu75 := Try.underlying75
 have hu76 := Try.underlying76
 have hu89 := Try.underlying89
 have hu97 := Try.underlying97
 have hu108 := Try.underlying108
 have HR0 := Aside0.mk hr0
 have HC0 := Aside0.mk hc0
 clear hr0 hc0
 have H : (linhaylaw08_Few.l0 k l0 0) = some r := h
 clear h
 have H' := Aside0.mk H
 clear H
 go_enter Try.func10, Try.ntmps10
 go_wp2
 go_loopg [3] k (fun kq v3 w' => ∃ (x3_1 : Int), v3 = .int .i64 x3_1 ∧ Aside0 (linhaylaw08_Few.l0 kq l0 x3_1 = some r) ∧ Aside0 (kq ≤ k) ∧ Drawn0 w w')
 case atStart => exact ⟨(0), (by first | rfl | (simp; done) | (simp [*]; done) | (simp [bne_nil]; done)), H', ⟨Nat.le_refl _⟩, by repeat (first | exact Drawn0.refl _ | apply Drawn0.step)⟩
 case round =>
  clear H'
  try clear c1
  obtain ⟨x3_1, rfl, HA, HK1, ⟨m1, rfl⟩⟩ := hrel
  cases gk with
  | zero => exact absurd HA.out (by simp [linhaylaw08_Few.l0])
  | succ k1 =>
   have H := HA.out
   clear HA
   simp only [linhaylaw08_Few.l0] at H
   by_cases c2 : x3_1 < (l0.length : Int)
   ·
    rw [if_pos c2] at H
    have c2b0 : decide (x3_1 < (l0.length : Int)) = true := decide_eq_true c2
    clear c2
    by_cases c3 : 0 ≤ x3_1
    ·
     rw [if_pos c3] at H
     have c3b0 : decide (0 ≤ x3_1) = true := decide_eq_true c3
     clear c3
     by_cases c4 : (((rd_T89 l0 x3_1).f3).size : Int) > 2000
     ·
      rw [if_pos c4] at H
      have c4b0 : decide (2000 < (((rd_T89 l0 x3_1).f3).size : Int)) = true := decide_eq_true c4
      have c4b1 : decide (2000 < ((rd_T89 l0 x3_1).f3).size) = true := decide_eq_true (by omega)
      clear c4
      obtain rfl := Option.some.inj H
      have p123 : 0 ≤ (x3_1 : Int) := of_decide_eq_true (by first | (with_reducible assumption) | assumption)
      have q123 : x3_1 < (l0.length : Int) := of_decide_eq_true (by first | (with_reducible assumption) | assumption)
      obtain ⟨ad123, e123, hx123_0, hx123_1, hx123_2, hx123_3⟩ := at_T89 HR0.out x3_1 p123 q123
      cases e123
      replace p123 := eq_true p123
      replace q123 := eq_true q123
      go_wp2
      go_ret
      exact ⟨by first | rfl | (simp; done) | (simp [*]; done), by repeat (first | exact Drawn0.refl _ | apply Drawn0.step)⟩
     ·
      rw [if_neg c4] at H
      have c4b0 : decide (2000 < (((rd_T89 l0 x3_1).f3).size : Int)) = false := decide_eq_false c4
      have c4b1 : decide (2000 < ((rd_T89 l0 x3_1).f3).size) = false := decide_eq_false (by omega)
      clear c4
      have H' := Aside0.mk H
      clear H
      have p123 : 0 ≤ (x3_1 : Int) := of_decide_eq_true (by first | (with_reducible assumption) | assumption)
      have q123 : x3_1 < (l0.length : Int) := of_decide_eq_true (by first | (with_reducible assumption) | assumption)
      obtain ⟨ad123, e123, hx123_0, hx123_1, hx123_2, hx123_3⟩ := at_T89 HR0.out x3_1 p123 q123
      cases e123
      replace p123 := eq_true p123
      replace q123 := eq_true q123
      go_wp2
      go_roundg k1
      case measure => have := HK1.out; omega
      case rel => exact ⟨(wrap64 (x3_1 + 1)), (by first | rfl | (simp; done) | (simp [*]; done) | (simp [bne_nil]; done)), H', ⟨by have := HK1.out; omega⟩, by repeat (first | exact Drawn0.refl _ | apply Drawn0.step)⟩
    ·
     rw [if_neg c3] at H
     exact absurd H (by simp)
   ·
    rw [if_neg c2] at H
    have c2b0 : decide (x3_1 < (l0.length : Int)) = false := decide_eq_false c2
    clear c2
    obtain rfl := Option.some.inj H
    go_wp2
    go_ret
    exact ⟨by first | rfl | (simp; done) | (simp [*]; done), by repeat (first | exact Drawn0.refl _ | apply Drawn0.step)⟩

def linhayref07_New.f  : Option ((List (S97)) × Int) := some ((([(⟨1, 1, (⟨#[]⟩ : ByteArray), 1, (⟨#[]⟩ : ByteArray)⟩ : S97)] : List (S97))), 1)
set_option maxHeartbeats 8000000 in
set_option maxRecDepth 100000 in
theorem linhayref07_New.calls  (r1 : List (S97)) (r2 : Int) (w : World) (h : linhayref07_New.f  = some (r1, r2)) :
  Calls Try.prog 43 #[] w fun e w' => ∃ v0_ : Value, e = .returned (.agg #[v0_, .int .i64 r2]) ∧ Kd.R k97 97 w' w.heap.size (fun _ => True) v0_ r1 ∧ Below w.heap.size w w' := by
 have hu75 := Try.underlying75
 have hu76 := Try.underlying76
 have hu89 := Try.underlying89
 have hu108 := Try.underlying108
 have hu28 := Try.underlying28
 have hu97 := Try.underlying97
 have HB := Aside0.mk (Below.refl w.heap.size w)
 have H : (some ((([(⟨1, 1, (⟨#[]⟩ : ByteArray), 1, (⟨#[]⟩ : ByteArray)⟩ : S97)] : List (S97))), 1)) = some (r1, r2) := h
 clear h
 obtain ⟨y125, hy125⟩ : ∃ y_ : List (S97), y_ = (([(⟨1, 1, (⟨#[]⟩ : ByteArray), 1, (⟨#[]⟩ : ByteArray)⟩ : S97)] : List (S97))) := ⟨_, rfl⟩
 replace H : (some (y125, 1)) = some (r1, r2) := by first | (rw [hy125]; with_reducible exact H) | (have H2_ := (Option.bind_some _ _).symm.trans H; rw [hy125]; with_reducible exact H2_) | (have H2_ := (Option.bind_some _ _).symm.trans H; with_reducible exact H2_) | with_reducible exact H | (rw [hy125]; exact H) | exact H
 have Ny125 := Aside0.mk hy125
 clear hy125
 simp only [Option.some.injEq, Prod.mk.injEq] at H
 obtain ⟨rfl, rfl⟩ := H
 go_enter Try.func43, Try.ntmps43
 go_wp2_with (first | ((with_reducible refine gate_dst (N := 0) rfl ?_); refine box_event ?hg (N := 0) ?hd (cs := #[.slice none 0 0, .int .i64 0]) (t := 28) ?hr ?_; (case hd => rfl); (case hg => rfl); (case hr => first | (go_simp; done) | (go_simp; rfl)); intro gb124 hg w1 hbox hb; have n0_ := Aside0.mk (below_step (by repeat (first | (with_reducible first | exact HB.out | apply below_alloc | apply pw_below_drewN | apply below_drew1) | exact HB.out)) hb); have n1_ := Aside0.mk (hbox); have n2_ := Aside0.mk ((by rw [hg]; exact (below_size (by repeat (first | (with_reducible first | exact HB.out | apply below_alloc | apply pw_below_drewN | apply below_drew1) | exact HB.out))) : w.heap.size ≤ gb124)); have n3_ := Aside0.mk ((by rw [hg]; exact (below_size (by repeat (first | (with_reducible first | exact HB.out | apply below_alloc | apply pw_below_drewN | apply below_drew1) | exact HB.out))) : w.heap.size ≤ gb124)); clear HB; have HB := n0_; have BK124 := n1_; have GW124 := n2_; have GE124 := n3_; clear n0_ n1_ n2_ n3_; clear hb hbox hg) | ((with_reducible refine gate_dst (N := 2) rfl ?_); refine Kd.R_lit k97 _ 97 ?hg (N := 2) ?hd (xs := ([(⟨1, 1, (⟨#[]⟩ : ByteArray), 1, (⟨#[]⟩ : ByteArray)⟩ : S97)] : List (S97))) (inner := [.int .i64 1, .int .i64 1, .string (⟨#[]⟩ : ByteArray), .int .i64 1, .string (⟨#[]⟩ : ByteArray)]) (ok := fun _ => True) (okp := fun _ => True) ?hr ?hp (fun _ hk => hk) trivial (Below.refl _ _) (Nat.le_refl _) (by simp) ?_; (case hd => rfl); (case hg => rfl); (case hr => first | (go_simp; done) | (go_simp; rfl)); (case hp => exact (Reps.c5 (show Kd.M k97 _ _ _ (⟨1, 1, (⟨#[]⟩ : ByteArray), 1, (⟨#[]⟩ : ByteArray)⟩ : S97) [.int .i64 1, .int .i64 1, .string (⟨#[]⟩ : ByteArray), .int .i64 1, .string (⟨#[]⟩ : ByteArray)] from (k97_mkM _ _ _ (⟨1, 1, (⟨#[]⟩ : ByteArray), 1, (⟨#[]⟩ : ByteArray)⟩ : S97) )) (Reps.none _ _))); intro v126 w2 ho3 hb hg_ hnew_; clear hg_ hnew_; (first | rw [← Ny125.out] at ho3 | (simp only [Int.reduceToNat] at ho3; rw [← Ny125.out] at ho3)); have n0_ := Aside0.mk (Kd.R_lower ho3 (below_size (by repeat (first | (with_reducible first | exact HB.out | apply below_alloc | apply pw_below_drewN | apply below_drew1 | refine below_set ?_ GE124.out) | exact HB.out)))); have n1_ := Aside0.mk (blk_below (g := gb124) (o := .cells #[.slice none 0 0, .int .i64 0] 28 (0, 0)) (by (with_reducible repeat (first | refine blk_drewN ?_ _ | refine blk_drew ?_ | refine blk_alloc ?_ _)); exact BK124.out) hb); have n2_ := Aside0.mk (below_step (by repeat (first | (with_reducible first | exact HB.out | apply below_alloc | apply pw_below_drewN | apply below_drew1 | refine below_set ?_ GE124.out) | exact HB.out)) hb); clear BK124; clear HB; have HO127 := n0_; have BK124 := n1_; have HB := n2_; clear n0_ n1_ n2_; clear hb ho3; obtain ⟨Ao4, co4, eo4⟩ := Kd.R_slice HO127.out; subst eo4; have hcz5_0 : w2.cell? ⟨gb124, 0, none⟩ = some (.slice none 0 0) := (blk_cell BK124.out 0).trans rfl; have hcz5_1 : w2.cell? ⟨gb124, 1, none⟩ = some (.int .i64 0) := (blk_cell BK124.out 1).trans rfl; have hfz5_0 := blk_frozen BK124.out 0; have hfz5_1 := blk_frozen BK124.out 1))
 refine bodyPost_ret (results_cell_row rfl _ _ gb124 28 #[.slice Ao4 y125.length co4, .int .i64 1] (0, 0) _ rfl (by (with_reducible repeat (first | refine blk_drewN ?_ _ | refine blk_drew ?_ | refine blk_alloc ?_ _)); refine blk_put (cs := #[.slice Ao4 y125.length co4, .int .i64 0]) ?_ 1 _ rfl; (with_reducible repeat (first | refine blk_drewN ?_ _ | refine blk_drew ?_ | refine blk_alloc ?_ _)); refine blk_put (cs := #[.slice none 0 0, .int .i64 0]) ?_ 0 _ rfl; (with_reducible repeat (first | refine blk_drewN ?_ _ | refine blk_drew ?_ | refine blk_alloc ?_ _)); exact BK124.out) Try.underlying28 rfl (by kernel_rfl)) rfl ?_
 exact ⟨_, by first | rfl | (simp [errW_none, errW_some] <;> rfl) | (simp [*, errW_none, errW_some] <;> rfl) | (simp [errW_none, errW_some, bne_nil]; done) | (simp [*, bne_nil]; done) | (simp [bne]; done), by (with_reducible repeat (first | apply Kd.R_alloc | apply Kd.R_drewN | apply Kd.R_drew)); exact Kd.R_mono (Kd.R_far (p := ⟨gb124, 1, none⟩) (Kd.R_far (p := ⟨gb124, 0, none⟩) (Kd.R_types HO127.out BK124.out (by decide)) (fun _ hk => hk.2) (.slice Ao4 y125.length co4)) (fun _ hk => hk.2) (.int .i64 1)) (fun _ hk => trivial), by repeat (first | (with_reducible first | exact HB.out | apply below_alloc | apply pw_below_drewN | apply below_drew1 | refine below_set ?_ GE124.out) | exact HB.out)⟩

def linhayref07_In.l0 : Nat → Int → ByteArray → Int → List (S97) → Int → Option (Int)
  | 0, _, _, _, _, _ => none
  | k + 1, x1, x2, x7, x129000, x129001 => if x7 < (x129000.length : Int) then (if 0 ≤ x7 then (if ((rd_T97 x129000 x7).f1) = x1 then (if ((rd_T97 x129000 x7).f2).toList = x2.toList then (if ((rd_T97 x129000 x7).f0) = 1 then (linhayref07_In.l0 k x1 x2 (wrap64 (x7 + 1)) x129000 x129001) else (some ((rd_T97 x129000 x7).f0))) else (linhayref07_In.l0 k x1 x2 (wrap64 (x7 + 1)) x129000 x129001)) else (linhayref07_In.l0 k x1 x2 (wrap64 (x7 + 1)) x129000 x129001)) else (none)) else (some 0)
def linhayref07_In.f (k : Nat) (l0_0 : List (S97)) (a0_1 : Int) (a1 : Int) (a2 : ByteArray) : Option (Int) := linhayref07_In.l0 k a1 a2 0 l0_0 a0_1
set_option maxHeartbeats 8000000 in
set_option maxRecDepth 100000 in
theorem linhayref07_In.calls (k : Nat) (A0_0 : Option Addr) (c0_0 : Nat) (l0_0 : List (S97)) (a0_1 : Int) (a1 : Int) (a2 : ByteArray) (r : Int) (w : World) (hr0_0 : Kd.C k97 w A0_0 l0_0.length l0_0) (hc0_0 : l0_0.length ≤ c0_0) (h : linhayref07_In.f k l0_0 a0_1 a1 a2 = some r) :
  Calls Try.prog 70 #[.agg #[.slice A0_0 l0_0.length c0_0, .int .i64 a0_1], .int .i64 a1, .string a2] w fun e w' => e = .returned (.int .i64 r) ∧ Below w.heap.size w w' := by
 have hu75 := Try.underlying75
 have hu76 := Try.underlying76
 have hu89 := Try.underlying89
 have hu97 := Try.underlying97
 have hu108 := Try.underlying108
 have hu28 := Try.underlying28
 have HR0_0 := Aside0.mk hr0_0
 have HC0_0 := Aside0.mk hc0_0
 clear hr0_0 hc0_0
 have HB := Aside0.mk (Below.refl w.heap.size w)
 have H : (linhayref07_In.l0 k a1 a2 0 l0_0 a0_1) = some r := h
 clear h
 have H' := Aside0.mk H
 clear H
 go_enter Try.func70, Try.ntmps70
 go_wp2_with (first | ((with_reducible refine gate_dst (N := 3) rfl ?_); refine box_event ?hg (N := 3) ?hd (cs := #[.slice A0_0 l0_0.length c0_0, .int .i64 a0_1]) (t := 28) ?hr ?_; (case hd => rfl); (case hg => rfl); (case hr => first | (go_simp; done) | (go_simp; rfl)); intro gb128 hg w4 hbox hb; have n0_ := Aside0.mk (below_step (by repeat (first | (with_reducible first | exact HB.out | apply below_alloc | apply pw_below_drewN | apply below_drew1) | exact HB.out)) hb); have n1_ := Aside0.mk (hbox); have n2_ := Aside0.mk ((by rw [hg]; exact (below_size (by repeat (first | (with_reducible first | exact HB.out | apply below_alloc | apply pw_below_drewN | apply below_drew1) | exact HB.out))) : w.heap.size ≤ gb128)); have n3_ := Aside0.mk ((by rw [hg]; exact (below_size (by repeat (first | (with_reducible first | exact HB.out | apply below_alloc | apply pw_below_drewN | apply below_drew1) | exact HB.out))) : w.heap.size ≤ gb128)); clear HB; have HB := n0_; have BK128 := n1_; have GW128 := n2_; have GE128 := n3_; clear n0_ n1_ n2_ n3_; clear hb hbox hg))
 go_loopg [7] k (fun kq v7 w' => ∃ (x7_1 : Int), v7 = .int .i64 x7_1 ∧ Aside0 (linhayref07_In.l0 kq a1 a2 x7_1 l0_0 a0_1 = some r) ∧ Aside0 (kq ≤ k) ∧ Aside0 (w'.heap[gb128]? = some (.cells #[(.slice A0_0 l0_0.length c0_0), .int .i64 a0_1] 28 (0, 0))) ∧ Aside0 (Below w.heap.size w w'))
 case atStart => exact ⟨(0), (by first | rfl | (simp; done) | (simp [*]; done) | (simp [bne_nil]; done)), H', ⟨Nat.le_refl _⟩, ⟨by (with_reducible repeat (first | refine blk_drewN ?_ _ | refine blk_drew ?_ | refine blk_alloc ?_ _)); exact BK128.out⟩, ⟨by repeat (first | (with_reducible first | exact HB.out | apply below_alloc | apply pw_below_drewN | apply below_drew1 | refine below_set ?_ GE128.out) | exact HB.out)⟩⟩
 case round =>
  clear H'
  try clear p2
  obtain ⟨x7_1, rfl, HA, HK1, BK128, HB⟩ := hrel
  cases gk with
  | zero => exact absurd HA.out (by simp [linhayref07_In.l0])
  | succ k1 =>
   have H := HA.out
   clear HA
   simp only [linhayref07_In.l0] at H
   by_cases c5 : x7_1 < (l0_0.length : Int)
   ·
    rw [if_pos c5] at H
    have c5b0 : decide (x7_1 < (l0_0.length : Int)) = true := decide_eq_true c5
    clear c5
    by_cases c6 : 0 ≤ x7_1
    ·
     rw [if_pos c6] at H
     have c6b0 : decide (0 ≤ x7_1) = true := decide_eq_true c6
     clear c6
     by_cases c7 : ((rd_T97 l0_0 x7_1).f1) = a1
     ·
      rw [if_pos c7] at H
      have c7b0 : (((rd_T97 l0_0 x7_1).f1) == a1) = true := beq_iff_eq.mpr c7
      have c7b1 : (((rd_T97 l0_0 x7_1).f1) != a1) = false := bne_eq_false_iff_eq.mpr c7
      clear c7
      by_cases c8 : ((rd_T97 l0_0 x7_1).f2).toList = a2.toList
      ·
       rw [if_pos c8] at H
       have c8b0 : (((rd_T97 l0_0 x7_1).f2).toList == a2.toList) = true := beq_iff_eq.mpr c8
       have c8b1 : (((rd_T97 l0_0 x7_1).f2).toList != a2.toList) = false := bne_eq_false_iff_eq.mpr c8
       clear c8
       by_cases c9 : ((rd_T97 l0_0 x7_1).f0) = 1
       ·
        rw [if_pos c9] at H
        have c9b0 : (((rd_T97 l0_0 x7_1).f0) == 1) = true := beq_iff_eq.mpr c9
        have c9b1 : (((rd_T97 l0_0 x7_1).f0) != 1) = false := bne_eq_false_iff_eq.mpr c9
        clear c9
        have H' := Aside0.mk H
        clear H
        have hcz10_0 : wr.cell? ⟨gb128, 0, none⟩ = some (.slice A0_0 l0_0.length c0_0) := (blk_cell BK128.out 0).trans rfl
        have hcz10_1 : wr.cell? ⟨gb128, 1, none⟩ = some (.int .i64 a0_1) := (blk_cell BK128.out 1).trans rfl
        have hfz10_0 := blk_frozen BK128.out 0
        have hfz10_1 := blk_frozen BK128.out 1
        have p129 : 0 ≤ (x7_1 : Int) := of_decide_eq_true (by first | (with_reducible assumption) | assumption)
        have q129 : x7_1 < (l0_0.length : Int) := of_decide_eq_true (by first | (with_reducible assumption) | assumption)
        obtain ⟨ad129, e129, hx129_0, hx129_1, hx129_2, hx129_3, hx129_4⟩ := at_T97 HR0_0.out x7_1 p129 q129
        cases e129
        replace hx129_0 := (HB.out.cell (World.block_lt_of_cell? w _ hx129_0)).trans hx129_0
        replace hx129_1 := (HB.out.cell (World.block_lt_of_cell? w _ hx129_1)).trans hx129_1
        replace hx129_2 := (HB.out.cell (World.block_lt_of_cell? w _ hx129_2)).trans hx129_2
        replace hx129_3 := (HB.out.cell (World.block_lt_of_cell? w _ hx129_3)).trans hx129_3
        replace hx129_4 := (HB.out.cell (World.block_lt_of_cell? w _ hx129_4)).trans hx129_4
        replace p129 := eq_true p129
        replace q129 := eq_true q129
        have p130 : 0 ≤ (x7_1 : Int) := of_decide_eq_true (by first | (with_reducible assumption) | assumption)
        have q130 : x7_1 < (l0_0.length : Int) := of_decide_eq_true (by first | (with_reducible assumption) | assumption)
        obtain ⟨ad130, e130, hx130_0, hx130_1, hx130_2, hx130_3, hx130_4⟩ := at_T97 HR0_0.out x7_1 p130 q130
        obtain rfl : ad129 = ad130 := (by injection e130)
        replace hx130_0 := (HB.out.cell (World.block_lt_of_cell? w _ hx130_0)).trans hx130_0
        replace hx130_1 := (HB.out.cell (World.block_lt_of_cell? w _ hx130_1)).trans hx130_1
        replace hx130_2 := (HB.out.cell (World.block_lt_of_cell? w _ hx130_2)).trans hx130_2
        replace hx130_3 := (HB.out.cell (World.block_lt_of_cell? w _ hx130_3)).trans hx130_3
        replace hx130_4 := (HB.out.cell (World.block_lt_of_cell? w _ hx130_4)).trans hx130_4
        replace p130 := eq_true p130
        replace q130 := eq_true q130
        have p131 : 0 ≤ (x7_1 : Int) := of_decide_eq_true (by first | (with_reducible assumption) | assumption)
        have q131 : x7_1 < (l0_0.length : Int) := of_decide_eq_true (by first | (with_reducible assumption) | assumption)
        obtain ⟨ad131, e131, hx131_0, hx131_1, hx131_2, hx131_3, hx131_4⟩ := at_T97 HR0_0.out x7_1 p131 q131
        obtain rfl : ad129 = ad131 := (by injection e131)
        replace hx131_0 := (HB.out.cell (World.block_lt_of_cell? w _ hx131_0)).trans hx131_0
        replace hx131_1 := (HB.out.cell (World.block_lt_of_cell? w _ hx131_1)).trans hx131_1
        replace hx131_2 := (HB.out.cell (World.block_lt_of_cell? w _ hx131_2)).trans hx131_2
        replace hx131_3 := (HB.out.cell (World.block_lt_of_cell? w _ hx131_3)).trans hx131_3
        replace hx131_4 := (HB.out.cell (World.block_lt_of_cell? w _ hx131_4)).trans hx131_4
        replace p131 := eq_true p131
        replace q131 := eq_true q131
        go_wp2
        go_roundg k1
        case measure => have := HK1.out; omega
        case rel => exact ⟨(wrap64 (x7_1 + 1)), (by first | rfl | (simp; done) | (simp [*]; done) | (simp [bne_nil]; done)), H', ⟨by have := HK1.out; omega⟩, ⟨by (with_reducible repeat (first | refine blk_drewN ?_ _ | refine blk_drew ?_ | refine blk_alloc ?_ _)); exact BK128.out⟩, ⟨by repeat (first | (with_reducible first | exact HB.out | apply below_alloc | apply pw_below_drewN | apply below_drew1 | refine below_set ?_ GE128.out) | exact HB.out)⟩⟩
       ·
        rw [if_neg c9] at H
        have c9b0 : (((rd_T97 l0_0 x7_1).f0) == 1) = false := beq_eq_false_iff_ne.mpr c9
        have c9b1 : (((rd_T97 l0_0 x7_1).f0) != 1) = true := bne_iff_ne.mpr c9
        obtain rfl := Option.some.inj H
        have hcz11_0 : wr.cell? ⟨gb128, 0, none⟩ = some (.slice A0_0 l0_0.length c0_0) := (blk_cell BK128.out 0).trans rfl
        have hcz11_1 : wr.cell? ⟨gb128, 1, none⟩ = some (.int .i64 a0_1) := (blk_cell BK128.out 1).trans rfl
        have hfz11_0 := blk_frozen BK128.out 0
        have hfz11_1 := blk_frozen BK128.out 1
        have p129 : 0 ≤ (x7_1 : Int) := of_decide_eq_true (by first | (with_reducible assumption) | assumption)
        have q129 : x7_1 < (l0_0.length : Int) := of_decide_eq_true (by first | (with_reducible assumption) | assumption)
        obtain ⟨ad129, e129, hx129_0, hx129_1, hx129_2, hx129_3, hx129_4⟩ := at_T97 HR0_0.out x7_1 p129 q129
        cases e129
        replace hx129_0 := (HB.out.cell (World.block_lt_of_cell? w _ hx129_0)).trans hx129_0
        replace hx129_1 := (HB.out.cell (World.block_lt_of_cell? w _ hx129_1)).trans hx129_1
        replace hx129_2 := (HB.out.cell (World.block_lt_of_cell? w _ hx129_2)).trans hx129_2
        replace hx129_3 := (HB.out.cell (World.block_lt_of_cell? w _ hx129_3)).trans hx129_3
        replace hx129_4 := (HB.out.cell (World.block_lt_of_cell? w _ hx129_4)).trans hx129_4
        replace p129 := eq_true p129
        replace q129 := eq_true q129
        have p130 : 0 ≤ (x7_1 : Int) := of_decide_eq_true (by first | (with_reducible assumption) | assumption)
        have q130 : x7_1 < (l0_0.length : Int) := of_decide_eq_true (by first | (with_reducible assumption) | assumption)
        obtain ⟨ad130, e130, hx130_0, hx130_1, hx130_2, hx130_3, hx130_4⟩ := at_T97 HR0_0.out x7_1 p130 q130
        obtain rfl : ad129 = ad130 := (by injection e130)
        replace hx130_0 := (HB.out.cell (World.block_lt_of_cell? w _ hx130_0)).trans hx130_0
        replace hx130_1 := (HB.out.cell (World.block_lt_of_cell? w _ hx130_1)).trans hx130_1
        replace hx130_2 := (HB.out.cell (World.block_lt_of_cell? w _ hx130_2)).trans hx130_2
        replace hx130_3 := (HB.out.cell (World.block_lt_of_cell? w _ hx130_3)).trans hx130_3
        replace hx130_4 := (HB.out.cell (World.block_lt_of_cell? w _ hx130_4)).trans hx130_4
        replace p130 := eq_true p130
        replace q130 := eq_true q130
        have p131 : 0 ≤ (x7_1 : Int) := of_decide_eq_true (by first | (with_reducible assumption) | assumption)
        have q131 : x7_1 < (l0_0.length : Int) := of_decide_eq_true (by first | (with_reducible assumption) | assumption)
        obtain ⟨ad131, e131, hx131_0, hx131_1, hx131_2, hx131_3, hx131_4⟩ := at_T97 HR0_0.out x7_1 p131 q131
        obtain rfl : ad129 = ad131 := (by injection e131)
        replace hx131_0 := (HB.out.cell (World.block_lt_of_cell? w _ hx131_0)).trans hx131_0
        replace hx131_1 := (HB.out.cell (World.block_lt_of_cell? w _ hx131_1)).trans hx131_1
        replace hx131_2 := (HB.out.cell (World.block_lt_of_cell? w _ hx131_2)).trans hx131_2
        replace hx131_3 := (HB.out.cell (World.block_lt_of_cell? w _ hx131_3)).trans hx131_3
        replace hx131_4 := (HB.out.cell (World.block_lt_of_cell? w _ hx131_4)).trans hx131_4
        replace p131 := eq_true p131
        replace q131 := eq_true q131
        have p132 : 0 ≤ (x7_1 : Int) := of_decide_eq_true (by first | (with_reducible assumption) | assumption)
        have q132 : x7_1 < (l0_0.length : Int) := of_decide_eq_true (by first | (with_reducible assumption) | assumption)
        obtain ⟨ad132, e132, hx132_0, hx132_1, hx132_2, hx132_3, hx132_4⟩ := at_T97 HR0_0.out x7_1 p132 q132
        obtain rfl : ad129 = ad132 := (by injection e132)
        replace hx132_0 := (HB.out.cell (World.block_lt_of_cell? w _ hx132_0)).trans hx132_0
        replace hx132_1 := (HB.out.cell (World.block_lt_of_cell? w _ hx132_1)).trans hx132_1
        replace hx132_2 := (HB.out.cell (World.block_lt_of_cell? w _ hx132_2)).trans hx132_2
        replace hx132_3 := (HB.out.cell (World.block_lt_of_cell? w _ hx132_3)).trans hx132_3
        replace hx132_4 := (HB.out.cell (World.block_lt_of_cell? w _ hx132_4)).trans hx132_4
        replace p132 := eq_true p132
        replace q132 := eq_true q132
        go_wp2
        go_ret
        exact ⟨by first | rfl | (simp [errW_none, errW_some] <;> rfl) | (simp [*, errW_none, errW_some] <;> rfl) | (simp [errW_none, errW_some, bne_nil]; done) | (simp [*, bne_nil]; done) | (simp [bne]; done), by repeat (first | (with_reducible first | exact HB.out | apply below_alloc | apply pw_below_drewN | apply below_drew1 | refine below_set ?_ GE128.out) | exact HB.out)⟩
      ·
       rw [if_neg c8] at H
       have c8b0 : (((rd_T97 l0_0 x7_1).f2).toList == a2.toList) = false := beq_eq_false_iff_ne.mpr c8
       have c8b1 : (((rd_T97 l0_0 x7_1).f2).toList != a2.toList) = true := bne_iff_ne.mpr c8
       have H' := Aside0.mk H
       clear H
       have hcz12_0 : wr.cell? ⟨gb128, 0, none⟩ = some (.slice A0_0 l0_0.length c0_0) := (blk_cell BK128.out 0).trans rfl
       have hcz12_1 : wr.cell? ⟨gb128, 1, none⟩ = some (.int .i64 a0_1) := (blk_cell BK128.out 1).trans rfl
       have hfz12_0 := blk_frozen BK128.out 0
       have hfz12_1 := blk_frozen BK128.out 1
       have p129 : 0 ≤ (x7_1 : Int) := of_decide_eq_true (by first | (with_reducible assumption) | assumption)
       have q129 : x7_1 < (l0_0.length : Int) := of_decide_eq_true (by first | (with_reducible assumption) | assumption)
       obtain ⟨ad129, e129, hx129_0, hx129_1, hx129_2, hx129_3, hx129_4⟩ := at_T97 HR0_0.out x7_1 p129 q129
       cases e129
       replace hx129_0 := (HB.out.cell (World.block_lt_of_cell? w _ hx129_0)).trans hx129_0
       replace hx129_1 := (HB.out.cell (World.block_lt_of_cell? w _ hx129_1)).trans hx129_1
       replace hx129_2 := (HB.out.cell (World.block_lt_of_cell? w _ hx129_2)).trans hx129_2
       replace hx129_3 := (HB.out.cell (World.block_lt_of_cell? w _ hx129_3)).trans hx129_3
       replace hx129_4 := (HB.out.cell (World.block_lt_of_cell? w _ hx129_4)).trans hx129_4
       replace p129 := eq_true p129
       replace q129 := eq_true q129
       have p130 : 0 ≤ (x7_1 : Int) := of_decide_eq_true (by first | (with_reducible assumption) | assumption)
       have q130 : x7_1 < (l0_0.length : Int) := of_decide_eq_true (by first | (with_reducible assumption) | assumption)
       obtain ⟨ad130, e130, hx130_0, hx130_1, hx130_2, hx130_3, hx130_4⟩ := at_T97 HR0_0.out x7_1 p130 q130
       obtain rfl : ad129 = ad130 := (by injection e130)
       replace hx130_0 := (HB.out.cell (World.block_lt_of_cell? w _ hx130_0)).trans hx130_0
       replace hx130_1 := (HB.out.cell (World.block_lt_of_cell? w _ hx130_1)).trans hx130_1
       replace hx130_2 := (HB.out.cell (World.block_lt_of_cell? w _ hx130_2)).trans hx130_2
       replace hx130_3 := (HB.out.cell (World.block_lt_of_cell? w _ hx130_3)).trans hx130_3
       replace hx130_4 := (HB.out.cell (World.block_lt_of_cell? w _ hx130_4)).trans hx130_4
       replace p130 := eq_true p130
       replace q130 := eq_true q130
       go_wp2
       go_roundg k1
       case measure => have := HK1.out; omega
       case rel => exact ⟨(wrap64 (x7_1 + 1)), (by first | rfl | (simp; done) | (simp [*]; done) | (simp [bne_nil]; done)), H', ⟨by have := HK1.out; omega⟩, ⟨by (with_reducible repeat (first | refine blk_drewN ?_ _ | refine blk_drew ?_ | refine blk_alloc ?_ _)); exact BK128.out⟩, ⟨by repeat (first | (with_reducible first | exact HB.out | apply below_alloc | apply pw_below_drewN | apply below_drew1 | refine below_set ?_ GE128.out) | exact HB.out)⟩⟩
     ·
      rw [if_neg c7] at H
      have c7b0 : (((rd_T97 l0_0 x7_1).f1) == a1) = false := beq_eq_false_iff_ne.mpr c7
      have c7b1 : (((rd_T97 l0_0 x7_1).f1) != a1) = true := bne_iff_ne.mpr c7
      have H' := Aside0.mk H
      clear H
      have hcz13_0 : wr.cell? ⟨gb128, 0, none⟩ = some (.slice A0_0 l0_0.length c0_0) := (blk_cell BK128.out 0).trans rfl
      have hcz13_1 : wr.cell? ⟨gb128, 1, none⟩ = some (.int .i64 a0_1) := (blk_cell BK128.out 1).trans rfl
      have hfz13_0 := blk_frozen BK128.out 0
      have hfz13_1 := blk_frozen BK128.out 1
      have p129 : 0 ≤ (x7_1 : Int) := of_decide_eq_true (by first | (with_reducible assumption) | assumption)
      have q129 : x7_1 < (l0_0.length : Int) := of_decide_eq_true (by first | (with_reducible assumption) | assumption)
      obtain ⟨ad129, e129, hx129_0, hx129_1, hx129_2, hx129_3, hx129_4⟩ := at_T97 HR0_0.out x7_1 p129 q129
      cases e129
      replace hx129_0 := (HB.out.cell (World.block_lt_of_cell? w _ hx129_0)).trans hx129_0
      replace hx129_1 := (HB.out.cell (World.block_lt_of_cell? w _ hx129_1)).trans hx129_1
      replace hx129_2 := (HB.out.cell (World.block_lt_of_cell? w _ hx129_2)).trans hx129_2
      replace hx129_3 := (HB.out.cell (World.block_lt_of_cell? w _ hx129_3)).trans hx129_3
      replace hx129_4 := (HB.out.cell (World.block_lt_of_cell? w _ hx129_4)).trans hx129_4
      replace p129 := eq_true p129
      replace q129 := eq_true q129
      go_wp2
      go_roundg k1
      case measure => have := HK1.out; omega
      case rel => exact ⟨(wrap64 (x7_1 + 1)), (by first | rfl | (simp; done) | (simp [*]; done) | (simp [bne_nil]; done)), H', ⟨by have := HK1.out; omega⟩, ⟨by (with_reducible repeat (first | refine blk_drewN ?_ _ | refine blk_drew ?_ | refine blk_alloc ?_ _)); exact BK128.out⟩, ⟨by repeat (first | (with_reducible first | exact HB.out | apply below_alloc | apply pw_below_drewN | apply below_drew1 | refine below_set ?_ GE128.out) | exact HB.out)⟩⟩
    ·
     rw [if_neg c6] at H
     exact absurd H (by simp)
   ·
    rw [if_neg c5] at H
    have c5b0 : decide (x7_1 < (l0_0.length : Int)) = false := decide_eq_false c5
    clear c5
    obtain rfl := Option.some.inj H
    have hcz14_0 : wr.cell? ⟨gb128, 0, none⟩ = some (.slice A0_0 l0_0.length c0_0) := (blk_cell BK128.out 0).trans rfl
    have hcz14_1 : wr.cell? ⟨gb128, 1, none⟩ = some (.int .i64 a0_1) := (blk_cell BK128.out 1).trans rfl
    have hfz14_0 := blk_frozen BK128.out 0
    have hfz14_1 := blk_frozen BK128.out 1
    go_wp2
    go_ret
    exact ⟨by first | rfl | (simp [errW_none, errW_some] <;> rfl) | (simp [*, errW_none, errW_some] <;> rfl) | (simp [errW_none, errW_some, bne_nil]; done) | (simp [*, bne_nil]; done) | (simp [bne]; done), by repeat (first | (with_reducible first | exact HB.out | apply below_alloc | apply pw_below_drewN | apply below_drew1 | refine below_set ?_ GE128.out) | exact HB.out)⟩

end Go.Proofs.Ytjfigngmpagloaa.X

namespace Go.Proofs.Ytjfigngmpagloaa.Pu
open Go Go.RowKit Go.Proofs Go.Proofs.Ytjfigngmpagloaa Go.Proofs.YtjfigngmpagloaaW.PrintWords Go.Proofs.Ytjfigngmpagloaa.Ext Go.Proofs.Ytjfigngmpagloaa.X
set_option linter.unusedVariables false
set_option linter.unusedSimpArgs false

theorem r04_parts_l0 (s : ByteArray) (hs : s.size < 4294967296) : ∀ (d i : Nat) (out : List (List UInt8)) (now : List UInt8), i + d = s.size → out.length ≤ i → now.length ≤ i →
    Ev (fun k => linhayref04_Parts.l0 k s (bs out) (Sp.mk now) (i : Int)) (bs (out ++ Sp.go now (s.data.toList.drop i))) := by
  have fin : ∀ out now, Ev (fun k => linhayref04_Parts.l0 k s out now ((s.size + 1 : Nat) : Int)) out := fun out now => by
    refine Ev.step (fun k => by rw [linhayref04_Parts.l0]) ?_
    exact ev_neg (by omega) (Ev.now _)
  have last : ∀ (i : Nat) (out : List (List UInt8)) (now : List UInt8) (R : List ByteArray), i ≤ s.size → out.length ≤ i →
      Ev (fun k => linhayref04_Parts.l0 k s (bs (out ++ Sp.keep now [])) (Sp.mk []) ((i + 1 : Nat) : Int)) R →
      Ev (fun k => linhayref04_Parts.j1 k s (bs out) (Sp.mk now) (i : Int) false) R := fun i out now R hi ho hn => by
    refine Ev.step (fun k => by rw [linhayref04_Parts.j1]) ?_
    refine ev_neg (by simp) ?_
    rw [toList_mk]
    by_cases h1 : now = []
    · refine ev_pos h1 ?_
      rw [w1 (by omega)]
      simpa [Sp.keep, h1, Sp.mk] using hn
    · refine ev_neg h1 ?_
      by_cases h2 : now = [46]
      · refine ev_pos h2 ?_
        rw [w1 (by omega)]
        simpa [Sp.keep, h2, Sp.mk] using hn
      · refine ev_neg h2 (ev_pos (by rw [bs_len]; omega) ?_)
        rw [w1 (by omega)]
        simpa [Sp.keep, h1, h2, bs, Sp.mk] using hn
  intro d
  induction d with
  | zero =>
    intro i out now hi ho hn
    obtain rfl : i = s.size := by omega
    refine Ev.step (fun k => by rw [linhayref04_Parts.l0]) ?_
    refine ev_pos (by omega) (ev_neg (by omega) ?_)
    have e : s.data.toList.drop s.size = [] := by rw [Sp.size_eq]; simp
    rw [e, Sp.go]
    exact last s.size out now _ (by omega) ho (fin _ _)
  | succ d ih =>
    intro i out now hi ho hn
    have hlt : i < s.size := by omega
    obtain ⟨c, hc, hd⟩ := get_at s hlt
    refine Ev.step (fun k => by rw [linhayref04_Parts.l0]) ?_
    refine ev_pos (by omega) (ev_pos (by omega) (ev_pos (by omega) ?_))
    rw [bt_nat hc, hd, Sp.go]
    by_cases h47 : c = 47
    · rw [if_pos h47]
      have e : ((c.toNat : Int) != 47) = false := by subst h47; rfl
      rw [e, Sp.keep_app, ← List.append_assoc]
      refine last i out now _ (by omega) ho ?_
      refine ih (i + 1) (out ++ Sp.keep now []) [] (by omega) ?_ (by simp)
      have := Sp.keep_one now
      rw [List.length_append]
      omega
    · rw [if_neg h47]
      have e : ((c.toNat : Int) != 47) = true := u8_ne.2 h47
      rw [e]
      refine Ev.step (fun k => by rw [linhayref04_Parts.j1]) ?_
      refine ev_pos rfl (ev_pos (by omega) ?_)
      rw [w1 (by omega)]
      refine ev_pos (by omega) (ev_pos (by omega) ?_)
      rw [Int.toNat_natCast, Int.toNat_natCast, ex1 hc]
      refine ev_pos (by rw [Sp.mk_size, Sp.mk_size]; simp; omega) ?_
      rw [app_mk]
      exact ih (i + 1) out (now ++ [c]) (by omega) (by omega) (by simp; omega)
theorem r04_parts (s : ByteArray) (hs : s.size < 4294967296) : Ev (fun k => linhayref04_Parts.f k s) (bs (Sp.parts s.data.toList)) := by
  have h := r04_parts_l0 s hs s.size 0 [] [] (by omega) (by simp) (by simp)
  simpa [bs, Sp.mk, Sp.parts, linhayref04_Parts.f] using h

end Go.Proofs.Ytjfigngmpagloaa.Pu

namespace Go.Proofs.Ytjfigngmpagloaa.Pu
open Go Go.RowKit Go.Proofs Go.Proofs.Ytjfigngmpagloaa Go.Proofs.YtjfigngmpagloaaW.PrintWords Go.Proofs.Ytjfigngmpagloaa.Ext Go.Proofs.Ytjfigngmpagloaa.X
set_option linter.unusedVariables false
set_option linter.unusedSimpArgs false

theorem r03_check_l0 (s : ByteArray) (hs : s.size ≤ 64) : ∀ (d i : Nat), i + d = s.size → (47 ∉ s.data.toList.take i ∧ 0 ∉ s.data.toList.take i) →
    Ev (fun k => linhayref03_Check.l0 k s (i : Int)) (if 47 ∈ s.data.toList ∨ 0 ∈ s.data.toList then 11 else if s.data.toList = [46] ∨ s.data.toList = [46, 46] then 6 else 0) := by
  intro d
  induction d with
  | zero =>
    intro i hi hn
    have e : s.data.toList.take i = s.data.toList := List.take_of_length_le (by rw [← Sp.size_eq]; omega)
    rw [e] at hn
    refine Ev.step (fun k => by rw [linhayref03_Check.l0]) (ev_neg (by omega) ?_)
    rw [toL]
    have hx : ¬ (47 ∈ s.data.toList ∨ 0 ∈ s.data.toList) := fun h => h.elim hn.1 hn.2
    by_cases h1 : s.data.toList = [46]
    · refine ev_pos h1 ?_
      rw [if_neg hx, if_pos (.inl h1)]
      exact Ev.now _
    · refine ev_neg h1 ?_
      by_cases h2 : s.data.toList = [46, 46]
      · refine ev_pos h2 ?_
        rw [if_neg hx, if_pos (.inr h2)]
        exact Ev.now _
      · refine ev_neg h2 ?_
        rw [if_neg hx, if_neg (fun h => h.elim h1 h2)]
        exact Ev.now _
  | succ d ih =>
    intro i hi hn
    have hlt : i < s.size := by omega
    obtain ⟨c, hc, hd⟩ := get_at s hlt
    have hm : c ∈ s.data.toList := List.mem_of_getElem? hc
    refine Ev.step (fun k => by rw [linhayref03_Check.l0]) (ev_pos (by omega) (ev_pos (by omega) ?_))
    rw [bt_nat hc, w1 (by omega)]
    by_cases h0 : c = 0
    · subst h0
      rw [if_pos (.inr hm)]
      exact ev_pos rfl (Ev.now _)
    · refine ev_neg (fun h => h0 (UInt8.toNat_inj.1 (by simpa using h))) ?_
      by_cases h47 : c = 47
      · subst h47
        rw [if_pos (.inl hm)]
        exact ev_pos rfl (Ev.now _)
      · refine ev_neg (fun h => h47 (UInt8.toNat_inj.1 (by have : ((47 : UInt8).toNat : Int) = 47 := rfl; omega))) (ih (i + 1) (by omega) ?_)
        have hl : i < s.data.toList.length := by rw [← Sp.size_eq]; exact hlt
        have e : s.data.toList[i] = c := by rw [List.getElem?_eq_getElem hl] at hc; exact Option.some.inj hc
        rw [List.take_succ_eq_append_getElem hl, e]
        simp only [List.mem_append, List.mem_singleton, not_or]
        exact ⟨⟨hn.1, fun h => h47 h.symm⟩, hn.2, fun h => h0 h.symm⟩
theorem r03_check (s : ByteArray) : Ev (fun k => linhayref03_Check.f k s) (Sp.check s.data.toList) := by
  unfold linhayref03_Check.f Sp.check
  by_cases h0 : s.size = 0
  · have : s.data.toList = [] := List.eq_nil_of_length_eq_zero (by rw [← Sp.size_eq]; exact h0)
    rw [if_pos this]
    exact ev_pos (by omega) (Ev.now _)
  · have : s.data.toList ≠ [] := fun h => h0 (by rw [Sp.size_eq, h]; rfl)
    rw [if_neg this, ← Sp.size_eq]
    refine ev_neg (by omega) ?_
    by_cases h1 : 64 < s.size
    · rw [if_pos (.inl h1)]
      exact ev_pos (by omega) (Ev.now _)
    · refine ev_neg (by omega) ?_
      have h := r03_check_l0 s (by omega) _ 0 (Nat.zero_add _) (by simp)
      have e : (64 < s.size ∨ (47 ∈ s.data.toList ∨ 0 ∈ s.data.toList)) = (47 ∈ s.data.toList ∨ 0 ∈ s.data.toList) := propext ⟨fun x => x.elim (fun y => absurd y h1) id, .inr⟩
      simp only [e]
      exact h
end Go.Proofs.Ytjfigngmpagloaa.Pu

namespace Go.Proofs.Ytjfigngmpagloaa.Ext
end Go.Proofs.Ytjfigngmpagloaa.Ext
namespace Go.Proofs.Ytjfigngmpagloaa.X
open Go.RowKit Go.Proofs.YtjfigngmpagloaaW.PrintWords Go.Proofs.YtjfigngmpagloaaW.PrintLast Go.Proofs.YtjfigngmpagloaaW.PrintMore Go.Proofs.Ytjfigngmpagloaa.Ext
attribute [local go_sem] max2_int min2_int max_two min_two max_three min_three max_four min_four   -- for this text's walks alone
set_option linter.unusedVariables false
set_option linter.unusedSimpArgs false

def linhayref07_At.l0 : Nat → Int → Int → List (S97) → Int → Option (Int × Int × ByteArray × Int × ByteArray)
  | 0, _, _, _, _ => none
  | k + 1, x1, x5, x134000, x134001 => if x5 < (x134000.length : Int) then (if 0 ≤ x5 then (if ((rd_T97 x134000 x5).f0) = x1 then (some ((rd_T97 x134000 x5).f0, (rd_T97 x134000 x5).f1, (rd_T97 x134000 x5).f2, (rd_T97 x134000 x5).f3, (rd_T97 x134000 x5).f4)) else (linhayref07_At.l0 k x1 (wrap64 (x5 + 1)) x134000 x134001)) else (none)) else (some (0, 0, (⟨#[]⟩ : ByteArray), 0, (⟨#[]⟩ : ByteArray)))
def linhayref07_At.f (k : Nat) (l0_0 : List (S97)) (a0_1 : Int) (a1 : Int) : Option (Int × Int × ByteArray × Int × ByteArray) := linhayref07_At.l0 k a1 0 l0_0 a0_1
set_option maxHeartbeats 8000000 in
set_option maxRecDepth 100000 in
theorem linhayref07_At.calls (k : Nat) (A0_0 : Option Addr) (c0_0 : Nat) (l0_0 : List (S97)) (a0_1 : Int) (a1 : Int) (r1 : Int) (r2 : Int) (r3 : ByteArray) (r4 : Int) (r5 : ByteArray) (w : World) (hr0_0 : Kd.C k97 w A0_0 l0_0.length l0_0) (hc0_0 : l0_0.length ≤ c0_0) (h : linhayref07_At.f k l0_0 a0_1 a1 = some (r1, r2, r3, r4, r5)) :
  Calls Try.prog 49 #[.agg #[.slice A0_0 l0_0.length c0_0, .int .i64 a0_1], .int .i64 a1] w fun e w' => e = .returned (.agg #[.int .i64 r1, .int .i64 r2, .string r3, .int .i64 r4, .string r5]) ∧ Below w.heap.size w w' := by
 have hu75 := Try.underlying75
 have hu76 := Try.underlying76
 have hu89 := Try.underlying89
 have hu108 := Try.underlying108
 have hu28 := Try.underlying28
 have hu97 := Try.underlying97
 have HR0_0 := Aside0.mk hr0_0
 have HC0_0 := Aside0.mk hc0_0
 clear hr0_0 hc0_0
 have HB := Aside0.mk (Below.refl w.heap.size w)
 have H : (linhayref07_At.l0 k a1 0 l0_0 a0_1) = some (r1, r2, r3, r4, r5) := h
 clear h
 have H' := Aside0.mk H
 clear H
 go_enter Try.func49, Try.ntmps49
 go_wp2_with (first | ((with_reducible refine gate_dst (N := 2) rfl ?_); refine box_event ?hg (N := 2) ?hd (cs := #[.slice A0_0 l0_0.length c0_0, .int .i64 a0_1]) (t := 28) ?hr ?_; (case hd => rfl); (case hg => rfl); (case hr => first | (go_simp; done) | (go_simp; rfl)); intro gb133 hg w3 hbox hb; have n0_ := Aside0.mk (below_step (by repeat (first | (with_reducible first | exact HB.out | apply below_alloc | apply pw_below_drewN | apply below_drew1) | exact HB.out)) hb); have n1_ := Aside0.mk (hbox); have n2_ := Aside0.mk ((by rw [hg]; exact (below_size (by repeat (first | (with_reducible first | exact HB.out | apply below_alloc | apply pw_below_drewN | apply below_drew1) | exact HB.out))) : w.heap.size ≤ gb133)); have n3_ := Aside0.mk ((by rw [hg]; exact (below_size (by repeat (first | (with_reducible first | exact HB.out | apply below_alloc | apply pw_below_drewN | apply below_drew1) | exact HB.out))) : w.heap.size ≤ gb133)); clear HB; have HB := n0_; have BK133 := n1_; have GW133 := n2_; have GE133 := n3_; clear n0_ n1_ n2_ n3_; clear hb hbox hg) | ((with_reducible refine gate_dst (N := 4) rfl ?_); refine box_event ?hg (N := 4) ?hd (cs := #[.int .i64 0, .int .i64 0, .string (⟨#[]⟩ : ByteArray), .int .i64 0, .string (⟨#[]⟩ : ByteArray)]) (t := 97) ?hr ?_; (case hd => rfl); (case hg => rfl); (case hr => first | (go_simp; done) | (go_simp; rfl)); intro gb134 hg w4 hbox hb; have n0_ := Aside0.mk (blk_below (g := gb133) (o := .cells #[.slice A0_0 l0_0.length c0_0, .int .i64 a0_1] 28 (0, 0)) (by (with_reducible repeat (first | refine blk_drewN ?_ _ | refine blk_drew ?_ | refine blk_alloc ?_ _)); exact BK133.out) hb); have n1_ := Aside0.mk (below_step (by repeat (first | (with_reducible first | exact HB.out | apply below_alloc | apply pw_below_drewN | apply below_drew1 | refine below_set ?_ GE133.out) | exact HB.out)) hb); have n2_ := Aside0.mk (hbox); have n3_ := Aside0.mk ((by rw [hg]; exact (below_size (by repeat (first | (with_reducible first | exact HB.out | apply below_alloc | apply pw_below_drewN | apply below_drew1 | refine below_set ?_ GE133.out) | exact HB.out))) : w.heap.size ≤ gb134)); have n4_ := Aside0.mk ((by rw [hg]; exact (below_size (by repeat (first | (with_reducible first | exact HB.out | apply below_alloc | apply pw_below_drewN | apply below_drew1 | refine below_set ?_ GE133.out) | exact HB.out))) : w.heap.size ≤ gb134)); have n5_ := Aside0.mk ((by rw [hg]; exact Nat.ne_of_lt (blk_lt (g := gb133) (o := .cells #[.slice A0_0 l0_0.length c0_0, .int .i64 a0_1] 28 (0, 0)) (by (with_reducible repeat (first | refine blk_drewN ?_ _ | refine blk_drew ?_ | refine blk_alloc ?_ _)); exact BK133.out)) : gb133 ≠ gb134)); have n6_ := Aside0.mk ((by rw [hg]; exact Nat.ne_of_gt (blk_lt (g := gb133) (o := .cells #[.slice A0_0 l0_0.length c0_0, .int .i64 a0_1] 28 (0, 0)) (by (with_reducible repeat (first | refine blk_drewN ?_ _ | refine blk_drew ?_ | refine blk_alloc ?_ _)); exact BK133.out)) : gb134 ≠ gb133)); clear BK133; clear HB; have BK133 := n0_; have HB := n1_; have BK134 := n2_; have GW134 := n3_; have GE134 := n4_; have NB133_134 := n5_; have NB134_133 := n6_; clear n0_ n1_ n2_ n3_ n4_ n5_ n6_; clear hb hbox hg))
 go_loopg [5] k (fun kq v5 w' => ∃ (x5_1 : Int) (x135000_1 : Int) (x135001_1 : Int) (x135002_1 : ByteArray) (x135003_1 : Int) (x135004_1 : ByteArray), v5 = .int .i64 x5_1 ∧ Aside0 (linhayref07_At.l0 kq a1 x5_1 l0_0 a0_1 = some (r1, r2, r3, r4, r5)) ∧ Aside0 (kq ≤ k) ∧ Aside0 (w'.heap[gb133]? = some (.cells #[(.slice A0_0 l0_0.length c0_0), .int .i64 a0_1] 28 (0, 0))) ∧ Aside0 (w'.heap[gb134]? = some (.cells #[.int .i64 x135000_1, .int .i64 x135001_1, .string x135002_1, .int .i64 x135003_1, .string x135004_1] 97 (0, 0))) ∧ Aside0 (Below w.heap.size w w'))
 case atStart => exact ⟨(0), (0), (0), ((⟨#[]⟩ : ByteArray)), (0), ((⟨#[]⟩ : ByteArray)), (by first | rfl | (simp; done) | (simp [*]; done) | (simp [bne_nil]; done)), H', ⟨Nat.le_refl _⟩, ⟨by (with_reducible repeat (first | refine blk_drewN ?_ _ | refine blk_drew ?_ | refine blk_alloc ?_ _)); exact BK133.out⟩, ⟨by (with_reducible repeat (first | refine blk_drewN ?_ _ | refine blk_drew ?_ | refine blk_alloc ?_ _)); exact BK134.out⟩, ⟨by repeat (first | (with_reducible first | exact HB.out | apply below_alloc | apply pw_below_drewN | apply below_drew1 | refine below_set ?_ GE133.out | refine below_set ?_ GE134.out) | exact HB.out)⟩⟩
 case round =>
  clear H'
  try clear p2
  try clear c4
  obtain ⟨x5_1, x135000_1, x135001_1, x135002_1, x135003_1, x135004_1, rfl, HA, HK1, BK133, BK134, HB⟩ := hrel
  cases gk with
  | zero => exact absurd HA.out (by simp [linhayref07_At.l0])
  | succ k1 =>
   have H := HA.out
   clear HA
   simp only [linhayref07_At.l0] at H
   by_cases c5 : x5_1 < (l0_0.length : Int)
   ·
    rw [if_pos c5] at H
    have c5b0 : decide (x5_1 < (l0_0.length : Int)) = true := decide_eq_true c5
    clear c5
    by_cases c6 : 0 ≤ x5_1
    ·
     rw [if_pos c6] at H
     have c6b0 : decide (0 ≤ x5_1) = true := decide_eq_true c6
     clear c6
     by_cases c7 : ((rd_T97 l0_0 x5_1).f0) = a1
     ·
      rw [if_pos c7] at H
      have c7b0 : (((rd_T97 l0_0 x5_1).f0) == a1) = true := beq_iff_eq.mpr c7
      have c7b1 : (((rd_T97 l0_0 x5_1).f0) != a1) = false := bne_eq_false_iff_eq.mpr c7
      clear c7
      simp only [Option.some.injEq, Prod.mk.injEq] at H
      obtain ⟨rfl, rfl, rfl, rfl, rfl⟩ := H
      have hnb8 := NB133_134.out
      have hnc8 := NB134_133.out
      have hcz9_0 : wr.cell? ⟨gb133, 0, none⟩ = some (.slice A0_0 l0_0.length c0_0) := (blk_cell BK133.out 0).trans rfl
      have hcz9_1 : wr.cell? ⟨gb133, 1, none⟩ = some (.int .i64 a0_1) := (blk_cell BK133.out 1).trans rfl
      have hfz9_0 := blk_frozen BK133.out 0
      have hfz9_1 := blk_frozen BK133.out 1
      have p135 : 0 ≤ (x5_1 : Int) := of_decide_eq_true (by first | (with_reducible assumption) | assumption)
      have q135 : x5_1 < (l0_0.length : Int) := of_decide_eq_true (by first | (with_reducible assumption) | assumption)
      obtain ⟨ad135, e135, hx135_0, hx135_1, hx135_2, hx135_3, hx135_4⟩ := at_T97 HR0_0.out x5_1 p135 q135
      cases e135
      replace hx135_0 := (HB.out.cell (World.block_lt_of_cell? w _ hx135_0)).trans hx135_0
      replace hx135_1 := (HB.out.cell (World.block_lt_of_cell? w _ hx135_1)).trans hx135_1
      replace hx135_2 := (HB.out.cell (World.block_lt_of_cell? w _ hx135_2)).trans hx135_2
      replace hx135_3 := (HB.out.cell (World.block_lt_of_cell? w _ hx135_3)).trans hx135_3
      replace hx135_4 := (HB.out.cell (World.block_lt_of_cell? w _ hx135_4)).trans hx135_4
      replace p135 := eq_true p135
      replace q135 := eq_true q135
      have p136 : 0 ≤ (x5_1 : Int) := of_decide_eq_true (by first | (with_reducible assumption) | assumption)
      have q136 : x5_1 < (l0_0.length : Int) := of_decide_eq_true (by first | (with_reducible assumption) | assumption)
      obtain ⟨ad136, e136, hx136_0, hx136_1, hx136_2, hx136_3, hx136_4⟩ := at_T97 HR0_0.out x5_1 p136 q136
      obtain rfl : ad135 = ad136 := (by injection e136)
      replace hx136_0 := (HB.out.cell (World.block_lt_of_cell? w _ hx136_0)).trans hx136_0
      replace hx136_1 := (HB.out.cell (World.block_lt_of_cell? w _ hx136_1)).trans hx136_1
      replace hx136_2 := (HB.out.cell (World.block_lt_of_cell? w _ hx136_2)).trans hx136_2
      replace hx136_3 := (HB.out.cell (World.block_lt_of_cell? w _ hx136_3)).trans hx136_3
      replace hx136_4 := (HB.out.cell (World.block_lt_of_cell? w _ hx136_4)).trans hx136_4
      replace p136 := eq_true p136
      replace q136 := eq_true q136
      have hcz10_0 : wr.cell? ⟨gb134, 0, none⟩ = some (.int .i64 x135000_1) := (blk_cell BK134.out 0).trans rfl
      have hcz10_1 : wr.cell? ⟨gb134, 1, none⟩ = some (.int .i64 x135001_1) := (blk_cell BK134.out 1).trans rfl
      have hcz10_2 : wr.cell? ⟨gb134, 2, none⟩ = some (.string x135002_1) := (blk_cell BK134.out 2).trans rfl
      have hcz10_3 : wr.cell? ⟨gb134, 3, none⟩ = some (.int .i64 x135003_1) := (blk_cell BK134.out 3).trans rfl
      have hcz10_4 : wr.cell? ⟨gb134, 4, none⟩ = some (.string x135004_1) := (blk_cell BK134.out 4).trans rfl
      have hfz10_0 := blk_frozen BK134.out 0
      have hfz10_1 := blk_frozen BK134.out 1
      have hfz10_2 := blk_frozen BK134.out 2
      have hfz10_3 := blk_frozen BK134.out 3
      have hfz10_4 := blk_frozen BK134.out 4
      go_wp2
      refine bodyPost_ret (results_cell_row rfl _ _ gb134 97 #[.int .i64 ((rd_T97 l0_0 x5_1).f0), .int .i64 ((rd_T97 l0_0 x5_1).f1), .string ((rd_T97 l0_0 x5_1).f2), .int .i64 ((rd_T97 l0_0 x5_1).f3), .string ((rd_T97 l0_0 x5_1).f4)] (0, 0) _ rfl (by (with_reducible repeat (first | refine blk_drewN ?_ _ | refine blk_drew ?_ | refine blk_alloc ?_ _)); refine blk_put (cs := #[.int .i64 ((rd_T97 l0_0 x5_1).f0), .int .i64 ((rd_T97 l0_0 x5_1).f1), .string ((rd_T97 l0_0 x5_1).f2), .int .i64 ((rd_T97 l0_0 x5_1).f3), .string x135004_1]) ?_ 4 _ rfl; (with_reducible repeat (first | refine blk_drewN ?_ _ | refine blk_drew ?_ | refine blk_alloc ?_ _)); refine blk_put (cs := #[.int .i64 ((rd_T97 l0_0 x5_1).f0), .int .i64 ((rd_T97 l0_0 x5_1).f1), .string ((rd_T97 l0_0 x5_1).f2), .int .i64 x135003_1, .string x135004_1]) ?_ 3 _ rfl; (with_reducible repeat (first | refine blk_drewN ?_ _ | refine blk_drew ?_ | refine blk_alloc ?_ _)); refine blk_put (cs := #[.int .i64 ((rd_T97 l0_0 x5_1).f0), .int .i64 ((rd_T97 l0_0 x5_1).f1), .string x135002_1, .int .i64 x135003_1, .string x135004_1]) ?_ 2 _ rfl; (with_reducible repeat (first | refine blk_drewN ?_ _ | refine blk_drew ?_ | refine blk_alloc ?_ _)); refine blk_put (cs := #[.int .i64 ((rd_T97 l0_0 x5_1).f0), .int .i64 x135001_1, .string x135002_1, .int .i64 x135003_1, .string x135004_1]) ?_ 1 _ rfl; (with_reducible repeat (first | refine blk_drewN ?_ _ | refine blk_drew ?_ | refine blk_alloc ?_ _)); refine blk_put (cs := #[.int .i64 x135000_1, .int .i64 x135001_1, .string x135002_1, .int .i64 x135003_1, .string x135004_1]) ?_ 0 _ rfl; (with_reducible repeat (first | refine blk_drewN ?_ _ | refine blk_drew ?_ | refine blk_alloc ?_ _)); exact BK134.out) Try.underlying97 rfl (by kernel_rfl)) rfl ?_
      exact ⟨by first | rfl | (simp [errW_none, errW_some] <;> rfl) | (simp [*, errW_none, errW_some] <;> rfl) | (simp [errW_none, errW_some, bne_nil]; done) | (simp [*, bne_nil]; done) | (simp [bne]; done), by repeat (first | (with_reducible first | exact HB.out | apply below_alloc | apply pw_below_drewN | apply below_drew1 | refine below_set ?_ GE133.out | refine below_set ?_ GE134.out) | exact HB.out)⟩
     ·
      rw [if_neg c7] at H
      have c7b0 : (((rd_T97 l0_0 x5_1).f0) == a1) = false := beq_eq_false_iff_ne.mpr c7
      have c7b1 : (((rd_T97 l0_0 x5_1).f0) != a1) = true := bne_iff_ne.mpr c7
      have H' := Aside0.mk H
      clear H
      have hnb11 := NB133_134.out
      have hnc11 := NB134_133.out
      have hcz12_0 : wr.cell? ⟨gb133, 0, none⟩ = some (.slice A0_0 l0_0.length c0_0) := (blk_cell BK133.out 0).trans rfl
      have hcz12_1 : wr.cell? ⟨gb133, 1, none⟩ = some (.int .i64 a0_1) := (blk_cell BK133.out 1).trans rfl
      have hfz12_0 := blk_frozen BK133.out 0
      have hfz12_1 := blk_frozen BK133.out 1
      have p135 : 0 ≤ (x5_1 : Int) := of_decide_eq_true (by first | (with_reducible assumption) | assumption)
      have q135 : x5_1 < (l0_0.length : Int) := of_decide_eq_true (by first | (with_reducible assumption) | assumption)
      obtain ⟨ad135, e135, hx135_0, hx135_1, hx135_2, hx135_3, hx135_4⟩ := at_T97 HR0_0.out x5_1 p135 q135
      cases e135
      replace hx135_0 := (HB.out.cell (World.block_lt_of_cell? w _ hx135_0)).trans hx135_0
      replace hx135_1 := (HB.out.cell (World.block_lt_of_cell? w _ hx135_1)).trans hx135_1
      replace hx135_2 := (HB.out.cell (World.block_lt_of_cell? w _ hx135_2)).trans hx135_2
      replace hx135_3 := (HB.out.cell (World.block_lt_of_cell? w _ hx135_3)).trans hx135_3
      replace hx135_4 := (HB.out.cell (World.block_lt_of_cell? w _ hx135_4)).trans hx135_4
      replace p135 := eq_true p135
      replace q135 := eq_true q135
      go_wp2
      go_roundg k1
      case measure => have := HK1.out; omega
      case rel => exact ⟨(wrap64 (x5_1 + 1)), (x135000_1), (x135001_1), (x135002_1), (x135003_1), (x135004_1), (by first | rfl | (simp; done) | (simp [*]; done) | (simp [bne_nil]; done)), H', ⟨by have := HK1.out; omega⟩, ⟨by (with_reducible repeat (first | refine blk_drewN ?_ _ | refine blk_drew ?_ | refine blk_alloc ?_ _)); exact BK133.out⟩, ⟨by (with_reducible repeat (first | refine blk_drewN ?_ _ | refine blk_drew ?_ | refine blk_alloc ?_ _)); exact BK134.out⟩, ⟨by repeat (first | (with_reducible first | exact HB.out | apply below_alloc | apply pw_below_drewN | apply below_drew1 | refine below_set ?_ GE133.out | refine below_set ?_ GE134.out) | exact HB.out)⟩⟩
    ·
     rw [if_neg c6] at H
     exact absurd H (by simp)
   ·
    rw [if_neg c5] at H
    have c5b0 : decide (x5_1 < (l0_0.length : Int)) = false := decide_eq_false c5
    clear c5
    simp only [Option.some.injEq, Prod.mk.injEq] at H
    obtain ⟨rfl, rfl, rfl, rfl, rfl⟩ := H
    have hnb13 := NB133_134.out
    have hnc13 := NB134_133.out
    have hcz14_0 : wr.cell? ⟨gb133, 0, none⟩ = some (.slice A0_0 l0_0.length c0_0) := (blk_cell BK133.out 0).trans rfl
    have hcz14_1 : wr.cell? ⟨gb133, 1, none⟩ = some (.int .i64 a0_1) := (blk_cell BK133.out 1).trans rfl
    have hfz14_0 := blk_frozen BK133.out 0
    have hfz14_1 := blk_frozen BK133.out 1
    have hcz15_0 : wr.cell? ⟨gb134, 0, none⟩ = some (.int .i64 x135000_1) := (blk_cell BK134.out 0).trans rfl
    have hcz15_1 : wr.cell? ⟨gb134, 1, none⟩ = some (.int .i64 x135001_1) := (blk_cell BK134.out 1).trans rfl
    have hcz15_2 : wr.cell? ⟨gb134, 2, none⟩ = some (.string x135002_1) := (blk_cell BK134.out 2).trans rfl
    have hcz15_3 : wr.cell? ⟨gb134, 3, none⟩ = some (.int .i64 x135003_1) := (blk_cell BK134.out 3).trans rfl
    have hcz15_4 : wr.cell? ⟨gb134, 4, none⟩ = some (.string x135004_1) := (blk_cell BK134.out 4).trans rfl
    have hfz15_0 := blk_frozen BK134.out 0
    have hfz15_1 := blk_frozen BK134.out 1
    have hfz15_2 := blk_frozen BK134.out 2
    have hfz15_3 := blk_frozen BK134.out 3
    have hfz15_4 := blk_frozen BK134.out 4
    go_wp2
    refine bodyPost_ret (results_cell_row rfl _ _ gb134 97 #[.int .i64 0, .int .i64 0, .string (⟨#[]⟩ : ByteArray), .int .i64 0, .string (⟨#[]⟩ : ByteArray)] (0, 0) _ rfl (by (with_reducible repeat (first | refine blk_drewN ?_ _ | refine blk_drew ?_ | refine blk_alloc ?_ _)); refine blk_put (cs := #[.int .i64 0, .int .i64 0, .string (⟨#[]⟩ : ByteArray), .int .i64 0, .string x135004_1]) ?_ 4 _ rfl; (with_reducible repeat (first | refine blk_drewN ?_ _ | refine blk_drew ?_ | refine blk_alloc ?_ _)); refine blk_put (cs := #[.int .i64 0, .int .i64 0, .string (⟨#[]⟩ : ByteArray), .int .i64 x135003_1, .string x135004_1]) ?_ 3 _ rfl; (with_reducible repeat (first | refine blk_drewN ?_ _ | refine blk_drew ?_ | refine blk_alloc ?_ _)); refine blk_put (cs := #[.int .i64 0, .int .i64 0, .string x135002_1, .int .i64 x135003_1, .string x135004_1]) ?_ 2 _ rfl; (with_reducible repeat (first | refine blk_drewN ?_ _ | refine blk_drew ?_ | refine blk_alloc ?_ _)); refine blk_put (cs := #[.int .i64 0, .int .i64 x135001_1, .string x135002_1, .int .i64 x135003_1, .string x135004_1]) ?_ 1 _ rfl; (with_reducible repeat (first | refine blk_drewN ?_ _ | refine blk_drew ?_ | refine blk_alloc ?_ _)); refine blk_put (cs := #[.int .i64 x135000_1, .int .i64 x135001_1, .string x135002_1, .int .i64 x135003_1, .string x135004_1]) ?_ 0 _ rfl; (with_reducible repeat (first | refine blk_drewN ?_ _ | refine blk_drew ?_ | refine blk_alloc ?_ _)); exact BK134.out) Try.underlying97 rfl (by kernel_rfl)) rfl ?_
    exact ⟨by first | rfl | (simp [errW_none, errW_some] <;> rfl) | (simp [*, errW_none, errW_some] <;> rfl) | (simp [errW_none, errW_some, bne_nil]; done) | (simp [*, bne_nil]; done) | (simp [bne]; done), by repeat (first | (with_reducible first | exact HB.out | apply below_alloc | apply pw_below_drewN | apply below_drew1 | refine below_set ?_ GE133.out | refine below_set ?_ GE134.out) | exact HB.out)⟩

end Go.Proofs.Ytjfigngmpagloaa.X

namespace Go.Proofs.Ytjfigngmpagloaa.Ext
end Go.Proofs.Ytjfigngmpagloaa.Ext
namespace Go.Proofs.Ytjfigngmpagloaa.X
open Go.RowKit Go.Proofs.YtjfigngmpagloaaW.PrintWords Go.Proofs.YtjfigngmpagloaaW.PrintLast Go.Proofs.YtjfigngmpagloaaW.PrintMore Go.Proofs.Ytjfigngmpagloaa.Ext
attribute [local go_sem] max2_int min2_int max_two min_two max_three min_three max_four min_four   -- for this text's walks alone
set_option linter.unusedVariables false
set_option linter.unusedSimpArgs false

def linhayref07_dir.f (k : Nat) (l0_0 : List (S97)) (a0_1 : Int) (a1 : Int) : Option (Int) := (linhayref07_At.f k l0_0 a0_1 a1).bind fun bt138 => (if bt138.2.2.2.1 = 0 then (some 5) else (if bt138.2.2.2.1 = 1 then (some 0) else (some 7)))
set_option maxHeartbeats 8000000 in
set_option maxRecDepth 100000 in
theorem linhayref07_dir.calls (k : Nat) (A0_0 : Option Addr) (c0_0 : Nat) (l0_0 : List (S97)) (a0_1 : Int) (a1 : Int) (r : Int) (w : World) (hr0_0 : Kd.C k97 w A0_0 l0_0.length l0_0) (hc0_0 : l0_0.length ≤ c0_0) (h : linhayref07_dir.f k l0_0 a0_1 a1 = some r) :
  Calls Try.prog 93 #[.agg #[.slice A0_0 l0_0.length c0_0, .int .i64 a0_1], .int .i64 a1] w fun e w' => e = .returned (.int .i64 r) ∧ Below w.heap.size w w' := by
 have hu75 := Try.underlying75
 have hu76 := Try.underlying76
 have hu89 := Try.underlying89
 have hu97 := Try.underlying97
 have hu108 := Try.underlying108
 have hu28 := Try.underlying28
 have HR0_0 := Aside0.mk hr0_0
 have HC0_0 := Aside0.mk hc0_0
 clear hr0_0 hc0_0
 have HB := Aside0.mk (Below.refl w.heap.size w)
 have H : ((linhayref07_At.f k l0_0 a0_1 a1).bind fun bt138 => (if bt138.2.2.2.1 = 0 then (some 5) else (if bt138.2.2.2.1 = 1 then (some 0) else (some 7)))) = some r := h
 clear h
 replace H := Option.bind_eq_some_iff.mp H
 obtain ⟨⟨t138, t139, t140, t141, t142⟩, A30, H⟩ := H
 replace H : (if t141 = 0 then (some 5) else (if t141 = 1 then (some 0) else (some 7))) = some r := H
 have A3 := Aside0.mk A30
 clear A30
 by_cases c4 : t141 = 0
 ·
  rw [if_pos c4] at H
  have c4b0 : (t141 == 0) = true := beq_iff_eq.mpr c4
  have c4b1 : (t141 != 0) = false := bne_eq_false_iff_eq.mpr c4
  clear c4
  obtain rfl := Option.some.inj H
  go_enter Try.func93, Try.ntmps93
  go_wp2_with (first | ((with_reducible refine gate_dst (N := 2) rfl ?_); refine box_event ?hg (N := 2) ?hd (cs := #[.slice A0_0 l0_0.length c0_0, .int .i64 a0_1]) (t := 28) ?hr ?_; (case hd => rfl); (case hg => rfl); (case hr => first | (go_simp; done) | (go_simp; rfl)); intro gb137 hg w5 hbox hb; have n0_ := Aside0.mk (below_step (by repeat (first | (with_reducible first | exact HB.out | apply below_alloc | apply pw_below_drewN | apply below_drew1) | exact HB.out)) hb); have n1_ := Aside0.mk (hbox); have n2_ := Aside0.mk ((by rw [hg]; exact (below_size (by repeat (first | (with_reducible first | exact HB.out | apply below_alloc | apply pw_below_drewN | apply below_drew1) | exact HB.out))) : w.heap.size ≤ gb137)); have n3_ := Aside0.mk ((by rw [hg]; exact (below_size (by repeat (first | (with_reducible first | exact HB.out | apply below_alloc | apply pw_below_drewN | apply below_drew1) | exact HB.out))) : w.heap.size ≤ gb137)); clear HB; have HB := n0_; have BK137 := n1_; have GW137 := n2_; have GE137 := n3_; clear n0_ n1_ n2_ n3_; clear hb hbox hg; have hcz6_0 : w5.cell? ⟨gb137, 0, none⟩ = some (.slice A0_0 l0_0.length c0_0) := (blk_cell BK137.out 0).trans rfl; have hcz6_1 : w5.cell? ⟨gb137, 1, none⟩ = some (.int .i64 a0_1) := (blk_cell BK137.out 1).trans rfl; have hfz6_0 := blk_frozen BK137.out 0; have hfz6_1 := blk_frozen BK137.out 1) | ((with_reducible refine gate_callee (f := 49) rfl ?_); refine goesL_ (some 8) rfl rfl Try.func49 (by kernel_rfl) rfl #[.agg #[.slice A0_0 l0_0.length c0_0, .int .i64 a0_1], .int .i64 a1] rfl (by (try simp only [List.map_toArray, List.map_cons, List.map_nil]); first | done | rfl | (simp only [List.length_drop, List.length_take]; rfl)) ?_; (with_reducible refine (linhayref07_At.calls k _ _ l0_0 a0_1 a1 t138 t139 t140 t141 t142 _ ?side1 ?side2 A3.out).mono ?_); (case side1 => repeat (first | exact (Kd.C_below HR0_0.out HB.out) | (with_reducible refine Kd.C_alloc ?_ _) | (with_reducible refine Kd.C_drewN ?_ _) | (with_reducible refine Kd.C_drew ?_))); (case side2 => exact HC0_0.out); rintro e w7 ⟨rfl, hb⟩; refine ⟨_, rfl, ?_⟩; have n0_ := Aside0.mk (blk_below (g := gb137) (o := .cells #[.slice A0_0 l0_0.length c0_0, .int .i64 a0_1] 28 (0, 0)) (by (with_reducible repeat (first | refine blk_drewN ?_ _ | refine blk_drew ?_ | refine blk_alloc ?_ _)); exact BK137.out) hb); have n1_ := Aside0.mk (below_step (by repeat (first | (with_reducible first | exact HB.out | apply below_alloc | apply pw_below_drewN | apply below_drew1 | refine below_set ?_ GE137.out) | exact HB.out)) hb); clear BK137; clear HB; have BK137 := n0_; have HB := n1_; clear n0_ n1_; (try clear hb); (try clear hb2); (try clear hk); (try clear hi)))
  go_ret
  exact ⟨by first | rfl | (simp [errW_none, errW_some] <;> rfl) | (simp [*, errW_none, errW_some] <;> rfl) | (simp [errW_none, errW_some, bne_nil]; done) | (simp [*, bne_nil]; done) | (simp [bne]; done), by repeat (first | (with_reducible first | exact HB.out | apply below_alloc | apply pw_below_drewN | apply below_drew1 | refine below_set ?_ GE137.out) | exact HB.out)⟩
 ·
  rw [if_neg c4] at H
  have c4b0 : (t141 == 0) = false := beq_eq_false_iff_ne.mpr c4
  have c4b1 : (t141 != 0) = true := bne_iff_ne.mpr c4
  by_cases c8 : t141 = 1
  ·
   rw [if_pos c8] at H
   have c8b0 : (t141 == 1) = true := beq_iff_eq.mpr c8
   have c8b1 : (t141 != 1) = false := bne_eq_false_iff_eq.mpr c8
   clear c8
   obtain rfl := Option.some.inj H
   go_enter Try.func93, Try.ntmps93
   go_wp2_with (first | ((with_reducible refine gate_dst (N := 2) rfl ?_); refine box_event ?hg (N := 2) ?hd (cs := #[.slice A0_0 l0_0.length c0_0, .int .i64 a0_1]) (t := 28) ?hr ?_; (case hd => rfl); (case hg => rfl); (case hr => first | (go_simp; done) | (go_simp; rfl)); intro gb137 hg w9 hbox hb; have n0_ := Aside0.mk (below_step (by repeat (first | (with_reducible first | exact HB.out | apply below_alloc | apply pw_below_drewN | apply below_drew1) | exact HB.out)) hb); have n1_ := Aside0.mk (hbox); have n2_ := Aside0.mk ((by rw [hg]; exact (below_size (by repeat (first | (with_reducible first | exact HB.out | apply below_alloc | apply pw_below_drewN | apply below_drew1) | exact HB.out))) : w.heap.size ≤ gb137)); have n3_ := Aside0.mk ((by rw [hg]; exact (below_size (by repeat (first | (with_reducible first | exact HB.out | apply below_alloc | apply pw_below_drewN | apply below_drew1) | exact HB.out))) : w.heap.size ≤ gb137)); clear HB; have HB := n0_; have BK137 := n1_; have GW137 := n2_; have GE137 := n3_; clear n0_ n1_ n2_ n3_; clear hb hbox hg; have hcz10_0 : w9.cell? ⟨gb137, 0, none⟩ = some (.slice A0_0 l0_0.length c0_0) := (blk_cell BK137.out 0).trans rfl; have hcz10_1 : w9.cell? ⟨gb137, 1, none⟩ = some (.int .i64 a0_1) := (blk_cell BK137.out 1).trans rfl; have hfz10_0 := blk_frozen BK137.out 0; have hfz10_1 := blk_frozen BK137.out 1) | ((with_reducible refine gate_callee (f := 49) rfl ?_); refine goesL_ (some 8) rfl rfl Try.func49 (by kernel_rfl) rfl #[.agg #[.slice A0_0 l0_0.length c0_0, .int .i64 a0_1], .int .i64 a1] rfl (by (try simp only [List.map_toArray, List.map_cons, List.map_nil]); first | done | rfl | (simp only [List.length_drop, List.length_take]; rfl)) ?_; (with_reducible refine (linhayref07_At.calls k _ _ l0_0 a0_1 a1 t138 t139 t140 t141 t142 _ ?side1 ?side2 A3.out).mono ?_); (case side1 => repeat (first | exact (Kd.C_below HR0_0.out HB.out) | (with_reducible refine Kd.C_alloc ?_ _) | (with_reducible refine Kd.C_drewN ?_ _) | (with_reducible refine Kd.C_drew ?_))); (case side2 => exact HC0_0.out); rintro e w11 ⟨rfl, hb⟩; refine ⟨_, rfl, ?_⟩; have n0_ := Aside0.mk (blk_below (g := gb137) (o := .cells #[.slice A0_0 l0_0.length c0_0, .int .i64 a0_1] 28 (0, 0)) (by (with_reducible repeat (first | refine blk_drewN ?_ _ | refine blk_drew ?_ | refine blk_alloc ?_ _)); exact BK137.out) hb); have n1_ := Aside0.mk (below_step (by repeat (first | (with_reducible first | exact HB.out | apply below_alloc | apply pw_below_drewN | apply below_drew1 | refine below_set ?_ GE137.out) | exact HB.out)) hb); clear BK137; clear HB; have BK137 := n0_; have HB := n1_; clear n0_ n1_; (try clear hb); (try clear hb2); (try clear hk); (try clear hi)))
   go_ret
   exact ⟨by first | rfl | (simp [errW_none, errW_some] <;> rfl) | (simp [*, errW_none, errW_some] <;> rfl) | (simp [errW_none, errW_some, bne_nil]; done) | (simp [*, bne_nil]; done) | (simp [bne]; done), by repeat (first | (with_reducible first | exact HB.out | apply below_alloc | apply pw_below_drewN | apply below_drew1 | refine below_set ?_ GE137.out) | exact HB.out)⟩
  ·
   rw [if_neg c8] at H
   have c8b0 : (t141 == 1) = false := beq_eq_false_iff_ne.mpr c8
   have c8b1 : (t141 != 1) = true := bne_iff_ne.mpr c8
   obtain rfl := Option.some.inj H
   go_enter Try.func93, Try.ntmps93
   go_wp2_with (first | ((with_reducible refine gate_dst (N := 2) rfl ?_); refine box_event ?hg (N := 2) ?hd (cs := #[.slice A0_0 l0_0.length c0_0, .int .i64 a0_1]) (t := 28) ?hr ?_; (case hd => rfl); (case hg => rfl); (case hr => first | (go_simp; done) | (go_simp; rfl)); intro gb137 hg w12 hbox hb; have n0_ := Aside0.mk (below_step (by repeat (first | (with_reducible first | exact HB.out | apply below_alloc | apply pw_below_drewN | apply below_drew1) | exact HB.out)) hb); have n1_ := Aside0.mk (hbox); have n2_ := Aside0.mk ((by rw [hg]; exact (below_size (by repeat (first | (with_reducible first | exact HB.out | apply below_alloc | apply pw_below_drewN | apply below_drew1) | exact HB.out))) : w.heap.size ≤ gb137)); have n3_ := Aside0.mk ((by rw [hg]; exact (below_size (by repeat (first | (with_reducible first | exact HB.out | apply below_alloc | apply pw_below_drewN | apply below_drew1) | exact HB.out))) : w.heap.size ≤ gb137)); clear HB; have HB := n0_; have BK137 := n1_; have GW137 := n2_; have GE137 := n3_; clear n0_ n1_ n2_ n3_; clear hb hbox hg; have hcz13_0 : w12.cell? ⟨gb137, 0, none⟩ = some (.slice A0_0 l0_0.length c0_0) := (blk_cell BK137.out 0).trans rfl; have hcz13_1 : w12.cell? ⟨gb137, 1, none⟩ = some (.int .i64 a0_1) := (blk_cell BK137.out 1).trans rfl; have hfz13_0 := blk_frozen BK137.out 0; have hfz13_1 := blk_frozen BK137.out 1) | ((with_reducible refine gate_callee (f := 49) rfl ?_); refine goesL_ (some 8) rfl rfl Try.func49 (by kernel_rfl) rfl #[.agg #[.slice A0_0 l0_0.length c0_0, .int .i64 a0_1], .int .i64 a1] rfl (by (try simp only [List.map_toArray, List.map_cons, List.map_nil]); first | done | rfl | (simp only [List.length_drop, List.length_take]; rfl)) ?_; (with_reducible refine (linhayref07_At.calls k _ _ l0_0 a0_1 a1 t138 t139 t140 t141 t142 _ ?side1 ?side2 A3.out).mono ?_); (case side1 => repeat (first | exact (Kd.C_below HR0_0.out HB.out) | (with_reducible refine Kd.C_alloc ?_ _) | (with_reducible refine Kd.C_drewN ?_ _) | (with_reducible refine Kd.C_drew ?_))); (case side2 => exact HC0_0.out); rintro e w14 ⟨rfl, hb⟩; refine ⟨_, rfl, ?_⟩; have n0_ := Aside0.mk (blk_below (g := gb137) (o := .cells #[.slice A0_0 l0_0.length c0_0, .int .i64 a0_1] 28 (0, 0)) (by (with_reducible repeat (first | refine blk_drewN ?_ _ | refine blk_drew ?_ | refine blk_alloc ?_ _)); exact BK137.out) hb); have n1_ := Aside0.mk (below_step (by repeat (first | (with_reducible first | exact HB.out | apply below_alloc | apply pw_below_drewN | apply below_drew1 | refine below_set ?_ GE137.out) | exact HB.out)) hb); clear BK137; clear HB; have BK137 := n0_; have HB := n1_; clear n0_ n1_; (try clear hb); (try clear hb2); (try clear hk); (try clear hi)))
   go_ret
   exact ⟨by first | rfl | (simp [errW_none, errW_some] <;> rfl) | (simp [*, errW_none, errW_some] <;> rfl) | (simp [errW_none, errW_some, bne_nil]; done) | (simp [*, bne_nil]; done) | (simp [bne]; done), by repeat (first | (with_reducible first | exact HB.out | apply below_alloc | apply pw_below_drewN | apply below_drew1 | refine below_set ?_ GE137.out) | exact HB.out)⟩

end Go.Proofs.Ytjfigngmpagloaa.X

namespace Go.Proofs.Ytjfigngmpagloaa.Ext
end Go.Proofs.Ytjfigngmpagloaa.Ext
namespace Go.Proofs.Ytjfigngmpagloaa.X
open Go.RowKit Go.Proofs.YtjfigngmpagloaaW.PrintWords Go.Proofs.YtjfigngmpagloaaW.PrintLast Go.Proofs.YtjfigngmpagloaaW.PrintMore Go.Proofs.Ytjfigngmpagloaa.Ext
attribute [local go_sem] max2_int min2_int max_two min_two max_three min_three max_four min_four   -- for this text's walks alone
set_option linter.unusedVariables false
set_option linter.unusedSimpArgs false

mutual
def linhayref07_may.j0 : Nat → Int → ByteArray → Bool → Option (Int)
  | 0, _, _, _ => none
  | k + 1, x0, x1, x10 => if x10 = true then (some 2) else (if x0 = 1 then (if x1.toList = ([] : List UInt8) then (if x0 = 3 then (linhayref07_may.j1 k x1 (x1.toList == ([] : List UInt8))) else (linhayref07_may.j1 k x1 false)) else (linhayref07_may.j1 k x1 true)) else (if x0 = 3 then (linhayref07_may.j1 k x1 (x1.toList == ([] : List UInt8))) else (linhayref07_may.j1 k x1 false)))
def linhayref07_may.j1 : Nat → ByteArray → Bool → Option (Int)
  | 0, _, _ => none
  | k + 1, x1, x24 => if x24 = true then (some 3) else (if (x1.size : Int) > 65536 then (some 4) else (some 0))
end
def linhayref07_may.f (k : Nat) (a0 : Int) (a1 : ByteArray) : Option (Int) := if a0 < 1 then (linhayref07_may.j0 k a0 a1 true) else (linhayref07_may.j0 k a0 a1 (decide (a0 > 3)))
set_option maxHeartbeats 8000000 in
set_option maxRecDepth 100000 in
theorem linhayref07_may.calls (k : Nat) (a0 : Int) (a1 : ByteArray) (r : Int) (w : World) (h : linhayref07_may.f k a0 a1 = some r) :
  Calls Try.prog 94 #[.int .i64 a0, .string a1] w fun e w' => e = .returned (.int .i64 r) ∧ Drawn0 w w' := by
 have hu75 := Try.underlying75
 have hu76 := Try.underlying76
 have hu89 := Try.underlying89
 have hu97 := Try.underlying97
 have hu108 := Try.underlying108
 have H : (if a0 < 1 then (linhayref07_may.j0 k a0 a1 true) else (linhayref07_may.j0 k a0 a1 (decide (a0 > 3)))) = some r := h
 clear h
 have HC3 := Aside0.mk H
 clear H
 go_enter Try.func94, Try.ntmps94
 go_upto_region 1 with (fail)
 go_cut [10] (fun v10 wc => ∃ (kq : Nat) (x10_2 : Bool), v10 = .bool x10_2 ∧ Aside0 (linhayref07_may.j0 kq a0 a1 x10_2 = some r) ∧ Aside0 (kq ≤ k) ∧ Drawn0 w wc)
 case first =>
  have H := HC3.out
  clear HC3
  by_cases c4 : a0 < 1
  ·
   rw [if_pos c4] at H
   have c4b0 : decide (a0 < 1) = true := decide_eq_true c4
   clear c4
   (first | rw [c4b0] | (simp only [i64_w, i32_w]; rw [c4b0]) | skip)
   have H' := Aside0.mk H
   clear H
   go_wp2
   go_meet
   case rel => exact ⟨_, (true), (by first | rfl | (simp; done) | (simp [*]; done) | (simp [bne_nil]; done)), H', ⟨by first | omega | exact Nat.le_refl _⟩, by repeat (first | exact Drawn0.refl _ | apply Drawn0.step)⟩
  ·
   rw [if_neg c4] at H
   have c4b0 : decide (a0 < 1) = false := decide_eq_false c4
   clear c4
   (first | rw [c4b0] | (simp only [i64_w, i32_w]; rw [c4b0]) | skip)
   have H' := Aside0.mk H
   clear H
   go_wp2
   go_meet
   case rel => exact ⟨_, (decide (a0 > 3)), (by first | rfl | (simp; done) | (simp [*]; done) | (simp [bne_nil]; done)), H', ⟨by first | omega | exact Nat.le_refl _⟩, by repeat (first | exact Drawn0.refl _ | apply Drawn0.step)⟩
 case rest =>
  clear HC3
  try clear p2
  try clear c4
  try clear c4b0
  obtain ⟨kq, x10_2, rfl, HA, HJ2, ⟨mc2, rfl⟩⟩ := hcut
  cases kq with
  | zero => exact absurd HA.out (by simp [linhayref07_may.j0])
  | succ kj2 =>
   have H := HA.out
   clear HA
   simp only [linhayref07_may.j0] at H
   by_cases c5 : x10_2 = true
   ·
    subst c5
    have H1 : (some 2) = some r := by rw [if_pos rfl] at H; exact H
    clear H
    have H := H1
    clear H1
    obtain rfl := Option.some.inj H
    go_wp2
    go_ret
    exact ⟨by first | rfl | (simp; done) | (simp [*]; done), by repeat (first | exact Drawn0.refl _ | apply Drawn0.step)⟩
   ·
    replace c5 := Bool.eq_false_iff.mpr c5
    subst c5
    have H1 : (if a0 = 1 then (if a1.toList = ([] : List UInt8) then (if a0 = 3 then (linhayref07_may.j1 kj2 a1 (a1.toList == ([] : List UInt8))) else (linhayref07_may.j1 kj2 a1 false)) else (linhayref07_may.j1 kj2 a1 true)) else (if a0 = 3 then (linhayref07_may.j1 kj2 a1 (a1.toList == ([] : List UInt8))) else (linhayref07_may.j1 kj2 a1 false))) = some r := by rw [if_neg (show ¬ (false = true) by decide)] at H; exact H
    clear H
    have H := H1
    clear H1
    have HC6 := Aside0.mk H
    clear H
    go_upto_region 3 with (fail)
    go_cut [24] (fun v24 wc => ∃ (kq : Nat) (x24_5 : Bool), v24 = .bool x24_5 ∧ Aside0 (linhayref07_may.j1 kq a1 x24_5 = some r) ∧ Aside0 (kq ≤ kj2) ∧ Drawn0 w wc)
    case first =>
     have H := HC6.out
     clear HC6
     by_cases c7 : a0 = 1
     ·
      rw [if_pos c7] at H
      have c7b0 : (a0 == 1) = true := beq_iff_eq.mpr c7
      have c7b1 : (a0 != 1) = false := bne_eq_false_iff_eq.mpr c7
      clear c7
      (first | rw [c7b0] | (simp only [i64_w, i32_w]; rw [c7b0]) | skip)
      by_cases c8 : a1.toList = ([] : List UInt8)
      ·
       rw [if_pos c8] at H
       have c8b0 : (a1.toList == ([] : List UInt8)) = true := beq_iff_eq.mpr c8
       have c8b1 : (a1.toList != ([] : List UInt8)) = false := bne_eq_false_iff_eq.mpr c8
       clear c8
       by_cases c9 : a0 = 3
       ·
        rw [if_pos c9] at H
        have c9b0 : (a0 == 3) = true := beq_iff_eq.mpr c9
        have c9b1 : (a0 != 3) = false := bne_eq_false_iff_eq.mpr c9
        clear c9
        have H' := Aside0.mk H
        clear H
        go_wp2
        go_meet
        case rel => exact ⟨_, ((a1.toList == ([] : List UInt8))), (by first | rfl | (simp; done) | (simp [*]; done) | (simp [bne_nil]; done)), H', ⟨by have := HJ2.out; first | omega | exact Nat.le_refl _⟩, by repeat (first | exact Drawn0.refl _ | apply Drawn0.step)⟩
       ·
        rw [if_neg c9] at H
        have c9b0 : (a0 == 3) = false := beq_eq_false_iff_ne.mpr c9
        have c9b1 : (a0 != 3) = true := bne_iff_ne.mpr c9
        have H' := Aside0.mk H
        clear H
        go_wp2
        go_meet
        case rel => exact ⟨_, (false), (by first | rfl | (simp; done) | (simp [*]; done) | (simp [bne_nil]; done)), H', ⟨by have := HJ2.out; first | omega | exact Nat.le_refl _⟩, by repeat (first | exact Drawn0.refl _ | apply Drawn0.step)⟩
      ·
       rw [if_neg c8] at H
       have c8b0 : (a1.toList == ([] : List UInt8)) = false := beq_eq_false_iff_ne.mpr c8
       have c8b1 : (a1.toList != ([] : List UInt8)) = true := bne_iff_ne.mpr c8
       have H' := Aside0.mk H
       clear H
       go_wp2
       go_meet
       case rel => exact ⟨_, (true), (by first | rfl | (simp; done) | (simp [*]; done) | (simp [bne_nil]; done)), H', ⟨by have := HJ2.out; first | omega | exact Nat.le_refl _⟩, by repeat (first | exact Drawn0.refl _ | apply Drawn0.step)⟩
     ·
      rw [if_neg c7] at H
      have c7b0 : (a0 == 1) = false := beq_eq_false_iff_ne.mpr c7
      have c7b1 : (a0 != 1) = true := bne_iff_ne.mpr c7
      (first | rw [c7b0] | (simp only [i64_w, i32_w]; rw [c7b0]) | skip)
      by_cases c10 : a0 = 3
      ·
       rw [if_pos c10] at H
       have c10b0 : (a0 == 3) = true := beq_iff_eq.mpr c10
       have c10b1 : (a0 != 3) = false := bne_eq_false_iff_eq.mpr c10
       clear c10
       have H' := Aside0.mk H
       clear H
       go_wp2
       go_meet
       case rel => exact ⟨_, ((a1.toList == ([] : List UInt8))), (by first | rfl | (simp; done) | (simp [*]; done) | (simp [bne_nil]; done)), H', ⟨by have := HJ2.out; first | omega | exact Nat.le_refl _⟩, by repeat (first | exact Drawn0.refl _ | apply Drawn0.step)⟩
      ·
       rw [if_neg c10] at H
       have c10b0 : (a0 == 3) = false := beq_eq_false_iff_ne.mpr c10
       have c10b1 : (a0 != 3) = true := bne_iff_ne.mpr c10
       have H' := Aside0.mk H
       clear H
       go_wp2
       go_meet
       case rel => exact ⟨_, (false), (by first | rfl | (simp; done) | (simp [*]; done) | (simp [bne_nil]; done)), H', ⟨by have := HJ2.out; first | omega | exact Nat.le_refl _⟩, by repeat (first | exact Drawn0.refl _ | apply Drawn0.step)⟩
    case rest =>
     clear HC6
     try clear c1
     try clear c2
     try clear p2
     try clear c4
     try clear c4b0
     try clear c5
     try clear c7
     try clear c7b0
     try clear c7b1
     try clear c8
     try clear c8b0
     try clear c8b1
     try clear c9
     try clear c9b0
     try clear c9b1
     try clear c10
     try clear c10b0
     try clear c10b1
     try clear p2
     obtain ⟨kq, x24_5, rfl, HA, HJ5, ⟨mc5, rfl⟩⟩ := hcut
     cases kq with
     | zero => exact absurd HA.out (by simp [linhayref07_may.j1])
     | succ kj5 =>
      have H := HA.out
      clear HA
      simp only [linhayref07_may.j1] at H
      by_cases c11 : x24_5 = true
      ·
       subst c11
       have H1 : (some 3) = some r := by rw [if_pos rfl] at H; exact H
       clear H
       have H := H1
       clear H1
       obtain rfl := Option.some.inj H
       go_wp2
       go_ret
       exact ⟨by first | rfl | (simp; done) | (simp [*]; done), by repeat (first | exact Drawn0.refl _ | apply Drawn0.step)⟩
      ·
       replace c11 := Bool.eq_false_iff.mpr c11
       subst c11
       have H1 : (if (a1.size : Int) > 65536 then (some 4) else (some 0)) = some r := by rw [if_neg (show ¬ (false = true) by decide)] at H; exact H
       clear H
       have H := H1
       clear H1
       by_cases c12 : (a1.size : Int) > 65536
       ·
        rw [if_pos c12] at H
        have c12b0 : decide (65536 < (a1.size : Int)) = true := decide_eq_true c12
        have c12b1 : decide (65536 < a1.size) = true := decide_eq_true (by omega)
        clear c12
        obtain rfl := Option.some.inj H
        go_wp2
        go_ret
        exact ⟨by first | rfl | (simp; done) | (simp [*]; done), by repeat (first | exact Drawn0.refl _ | apply Drawn0.step)⟩
       ·
        rw [if_neg c12] at H
        have c12b0 : decide (65536 < (a1.size : Int)) = false := decide_eq_false c12
        have c12b1 : decide (65536 < a1.size) = false := decide_eq_false (by omega)
        clear c12
        obtain rfl := Option.some.inj H
        go_wp2
        go_ret
        exact ⟨by first | rfl | (simp; done) | (simp [*]; done), by repeat (first | exact Drawn0.refl _ | apply Drawn0.step)⟩

-- NOT PRINTED: function 47 (linhayref07_Put)

end Go.Proofs.Ytjfigngmpagloaa.X

namespace Go.Proofs.Ytjfigngmpagloaa.Tw
open Go Go.RowKit Go.Shelf Go.Proofs Go.Proofs.Ytjfigngmpagloaa Go.Proofs.YtjfigngmpagloaaW.PrintWords Go.Proofs.Ytjfigngmpagloaa.Ext Go.Proofs.Ytjfigngmpagloaa.X Go.Proofs.Ytjfigngmpagloaa.Pu
set_option linter.unusedVariables false
set_option linter.unusedSimpArgs false
abbrev RN := S97
def zR : RN := ⟨0, 0, ⟨#[]⟩, 0, ⟨#[]⟩⟩
def atR (L : List RN) (n : Int) : RN := (L.find? (fun r => r.f0 == n)).getD zR
def inQ (d : Int) (s : ByteArray) (r : RN) : Bool := r.f1 == d && (r.f2.toList == s.toList && !(r.f0 == 1))
def inR (L : List RN) (d : Int) (s : ByteArray) : Int := match L.find? (inQ d s) with | some r => r.f0 | none => 0
theorem rd_get {l : List RN} {i : Nat} (h : i < l.length) : rd_T97 l (i : Int) = l[i] := by simp [rd_T97, h]
theorem atR_pos {a : RN} {l : List RN} {n : Int} (h : a.f0 = n) : atR (a :: l) n = a := by
  unfold atR; rw [List.find?_cons, show (a.f0 == n) = true by simp [h]]; rfl
theorem atR_neg {a : RN} {l : List RN} {n : Int} (h : ¬ a.f0 = n) : atR (a :: l) n = atR l n := by
  unfold atR; rw [List.find?_cons, show (a.f0 == n) = false by simp [h]]
theorem r07_at (L : List RN) (n last : Int) (hl : L.length < 4294967296) : Ev (fun k => linhayref07_At.f k L last n) ((atR L n).f0, (atR L n).f1, (atR L n).f2, (atR L n).f3, (atR L n).f4) := by
  have key : ∀ (d i : Nat), i + d = L.length → Ev (fun k => linhayref07_At.l0 k n (i : Int) L last) ((atR (L.drop i) n).f0, (atR (L.drop i) n).f1, (atR (L.drop i) n).f2, (atR (L.drop i) n).f3, (atR (L.drop i) n).f4) := by
    intro d
    induction d with
    | zero =>
      intro i hi
      rw [List.drop_eq_nil_of_le (by omega)]
      refine Ev.step (fun k => by rw [linhayref07_At.l0]) ?_
      exact ev_neg (by omega) (Ev.now _)
    | succ d ih =>
      intro i hi
      have hlt : i < L.length := by omega
      refine Ev.step (fun k => by rw [linhayref07_At.l0]) (ev_pos (by omega) (ev_pos (by omega) ?_))
      rw [rd_get hlt, w1 (by omega), List.drop_eq_getElem_cons hlt]
      by_cases e : L[i].f0 = n
      · have e2 : atR (L[i] :: L.drop (i + 1)) n = L[i] := atR_pos e
        rw [e2]
        exact ev_pos e (Ev.now _)
      · have e2 : atR (L[i] :: L.drop (i + 1)) n = atR (L.drop (i + 1)) n := atR_neg e
        rw [e2]
        exact ev_neg e (ih (i + 1) (by omega))
  have := key L.length 0 (by omega)
  rw [List.drop_zero] at this
  exact this
theorem r07_in (L : List RN) (d last : Int) (s : ByteArray) (hl : L.length < 4294967296) : Ev (fun k => linhayref07_In.f k L last d s) (inR L d s) := by
  have key : ∀ (m i : Nat), i + m = L.length → Ev (fun k => linhayref07_In.l0 k d s (i : Int) L last) (inR (L.drop i) d s) := by
    intro m
    induction m with
    | zero =>
      intro i hi
      rw [List.drop_eq_nil_of_le (by omega)]
      refine Ev.step (fun k => by rw [linhayref07_In.l0]) ?_
      exact ev_neg (by omega) (Ev.now _)
    | succ m ih =>
      intro i hi
      have hlt : i < L.length := by omega
      refine Ev.step (fun k => by rw [linhayref07_In.l0]) (ev_pos (by omega) (ev_pos (by omega) ?_))
      rw [rd_get hlt, w1 (by omega), List.drop_eq_getElem_cons hlt]
      have hF : inQ d s L[i] = false → inR (L[i] :: L.drop (i + 1)) d s = inR (L.drop (i + 1)) d s := by
        intro h; unfold inR; rw [List.find?_cons, h]
      by_cases e : L[i].f1 = d
      · by_cases e2 : L[i].f2.toList = s.toList
        · by_cases e3 : L[i].f0 = 1
          · rw [hF (by simp [inQ, e3])]
            exact ev_pos e (ev_pos e2 (ev_pos e3 (ih (i + 1) (by omega))))
          · have : inR (L[i] :: L.drop (i + 1)) d s = L[i].f0 := by
              unfold inR; rw [List.find?_cons, show inQ d s L[i] = true by simp [inQ, e, e2, e3]]
            rw [this]
            exact ev_pos e (ev_pos e2 (ev_neg e3 (Ev.now _)))
        · rw [hF (by simp [inQ, e2])]
          exact ev_pos e (ev_neg e2 (ih (i + 1) (by omega)))
      · rw [hF (by simp [inQ, e])]
        exact ev_neg e (ih (i + 1) (by omega))
  have := key L.length 0 (by omega)
  rw [List.drop_zero] at this
  exact this
theorem r07_dir (L : List RN) (n last : Int) (hl : L.length < 4294967296) : Ev (fun k => linhayref07_dir.f k L last n) (dirE (atR L n).f3) := by
  unfold linhayref07_dir.f dirE
  refine Ev.bind (r07_at L n last hl) ?_
  show Ev (fun _ => if (atR L n).f3 = 0 then some 5 else if (atR L n).f3 = 1 then some 0 else some 7) _
  generalize (atR L n).f3 = k
  by_cases h0 : k = 0
  · simp only [if_pos h0]; exact Ev.now _
  · by_cases h1 : k = 1
    · simp only [if_neg h0, if_pos h1]; exact Ev.now _
    · simp only [if_neg h0, if_neg h1]; exact Ev.now _
end Go.Proofs.Ytjfigngmpagloaa.Tw

namespace Go.Proofs.Ytjfigngmpagloaa.Tw
open Go Go.RowKit Go.Shelf Go.Proofs Go.Proofs.Ytjfigngmpagloaa Go.Proofs.YtjfigngmpagloaaW.PrintWords Go.Proofs.Ytjfigngmpagloaa.Ext Go.Proofs.Ytjfigngmpagloaa.X Go.Proofs.Ytjfigngmpagloaa.Pu
set_option linter.unusedVariables false
set_option linter.unusedSimpArgs false
def isIn (n : Int) (r : RN) : Bool := r.f1 == n && !(r.f0 == 1)
def stepE (n : Int) (l : List En) (r : RN) : List En := if isIn n r = true then insE l ⟨r.f2, r.f0⟩ else l
def entsOf (L : List RN) (n : Int) : List En := L.foldl (stepE n) []
def ndOf (L : List RN) (r : RN) : Nd := ⟨r.f3, r.f1, r.f4, entsOf L r.f0⟩
def trOf (L : List RN) (last : Int) : Tr := ⟨fun n => (L.find? (fun r => r.f0 == n)).map (ndOf L), L.length, last⟩
theorem isIn_iff {n : Int} {r : RN} : isIn n r = true ↔ r.f1 = n ∧ r.f0 ≠ 1 := by simp [isIn]
theorem entsOf_snoc (L : List RN) (x : RN) (n : Int) : entsOf (L ++ [x]) n = if isIn n x = true then insE (entsOf L n) ⟨x.f2, x.f0⟩ else entsOf L n := by
  unfold entsOf; rw [List.foldl_append]; rfl
theorem fold_mem (n : Int) (e : En) : ∀ (L : List RN) (acc : List En), e ∈ L.foldl (stepE n) acc ↔ e ∈ acc ∨ ∃ r ∈ L, isIn n r = true ∧ e = ⟨r.f2, r.f0⟩
  | [], acc => by simp
  | a :: L, acc => by
    rw [List.foldl_cons, fold_mem n e L]
    unfold stepE
    split
    · rename_i h
      rw [insE_mem]
      constructor
      · rintro ((h1 | h1) | ⟨r, h1, h2⟩)
        · exact .inr ⟨a, List.mem_cons_self, h, h1⟩
        · exact .inl h1
        · exact .inr ⟨r, List.mem_cons_of_mem _ h1, h2⟩
      · rintro (h1 | ⟨r, h1, h2, h3⟩)
        · exact .inl (.inr h1)
        · rcases List.mem_cons.1 h1 with rfl | h1
          · exact .inl (.inl h3)
          · exact .inr ⟨r, h1, h2, h3⟩
    · rename_i h
      constructor
      · rintro (h1 | ⟨r, h1, h2⟩)
        · exact .inl h1
        · exact .inr ⟨r, List.mem_cons_of_mem _ h1, h2⟩
      · rintro (h1 | ⟨r, h1, h2, h3⟩)
        · exact .inl h1
        · rcases List.mem_cons.1 h1 with rfl | h1
          · exact absurd h2 h
          · exact .inr ⟨r, h1, h2, h3⟩
theorem mem_ents {L : List RN} {n : Int} {e : En} : e ∈ entsOf L n ↔ ∃ r ∈ L, isIn n r = true ∧ e = ⟨r.f2, r.f0⟩ := by
  unfold entsOf; rw [fold_mem]; simp
theorem fold_len (n : Int) : ∀ (L : List RN) (acc : List En), (L.foldl (stepE n) acc).length ≤ acc.length + L.length
  | [], acc => by simp
  | a :: L, acc => by
    rw [List.foldl_cons]
    have h := fold_len n L (stepE n acc a)
    have h2 : (stepE n acc a).length ≤ acc.length + 1 := by
      unfold stepE
      split
      · rw [insE_len]; exact Nat.le_refl _
      · omega
    simp only [List.length_cons]
    omega
theorem ents_len (L : List RN) (n : Int) : (entsOf L n).length ≤ L.length := by
  have := fold_len n L []
  simpa [entsOf] using this
theorem fold_rt (n : Int) : ∀ (L : List RN) (acc : List En), Rt acc → (∀ e ∈ acc, ∀ r ∈ L, isIn n r = true → e.f0 ≠ r.f2) → L.Pairwise (fun a b => a.f1 = b.f1 → a.f0 ≠ 1 → b.f0 ≠ 1 → a.f2 ≠ b.f2) → Rt (L.foldl (stepE n) acc)
  | [], acc, h, _, _ => h
  | a :: L, acc, h, hn, hp => by
    rw [List.foldl_cons]
    obtain ⟨h1, h2⟩ := List.pairwise_cons.1 hp
    refine fold_rt n L _ ?_ ?_ h2
    · unfold stepE
      split
      · rename_i hi
        exact insE_rt _ _ h (fun e he => hn e he a List.mem_cons_self hi)
      · exact h
    · intro e he r hr hi
      unfold stepE at he
      split at he
      · rename_i hj
        rcases (insE_mem _ _ _).1 he with rfl | he
        · obtain ⟨i1, i2⟩ := isIn_iff.1 hi
          obtain ⟨j1, j2⟩ := isIn_iff.1 hj
          exact h1 r hr (j1.trans i1.symm) j2 i2
        · exact hn e he r (List.mem_cons_of_mem _ hr) hi
      · exact hn e he r (List.mem_cons_of_mem _ hr) hi
structure GoodL (L : List RN) (last : Int) : Prop where
  len : L.length ≤ 4096
  num : ∀ r ∈ L, 1 ≤ r.f0 ∧ r.f0 ≤ last
  uniq : L.Pairwise (fun a b => a.f0 ≠ b.f0)
  names : L.Pairwise (fun a b => a.f1 = b.f1 → a.f0 ≠ 1 → b.f0 ≠ 1 → a.f2 ≠ b.f2)
  data : ∀ r ∈ L, r.f4.size ≤ 65536
  up : ∀ r ∈ L, (atR L r.f1).f3 = 1
  root : ∃ r ∈ L, r.f0 = 1 ∧ r.f1 = 1 ∧ r.f3 = 1
theorem GoodL.rt {L : List RN} {last : Int} (h : GoodL L last) (n : Int) : Rt (entsOf L n) := fold_rt n L [] List.Pairwise.nil (by simp) h.names
theorem find_num {L : List RN} {r : RN} (hu : L.Pairwise (fun a b => a.f0 ≠ b.f0)) (hr : r ∈ L) : L.find? (fun q => q.f0 == r.f0) = some r := by
  induction L with
  | nil => cases hr
  | cons a L ih =>
    obtain ⟨h1, h2⟩ := List.pairwise_cons.1 hu
    rw [List.find?_cons]
    rcases List.mem_cons.1 hr with rfl | hr
    · simp
    · have := h1 r hr
      rw [show (a.f0 == r.f0) = false by simpa using this]
      exact ih h2 hr
theorem at_mem {L : List RN} {last : Int} (h : GoodL L last) {r : RN} (hr : r ∈ L) : atR L r.f0 = r := by
  unfold atR; rw [find_num h.uniq hr]; rfl
theorem at_kind {L : List RN} {n : Int} (h : (atR L n).f3 ≠ 0) : ∃ r ∈ L, r.f0 = n ∧ atR L n = r := by
  unfold atR at h ⊢
  cases hf : L.find? (fun r => r.f0 == n) with
  | none => rw [hf] at h; exact absurd rfl h
  | some r =>
    refine ⟨r, List.mem_of_find?_eq_some hf, ?_, rfl⟩
    have := List.find?_some hf
    simpa using this
theorem GoodL.noEnts {L : List RN} {last : Int} (h : GoodL L last) {n : Int} (hn : L.find? (fun r => r.f0 == n) = none) : entsOf L n = [] := by
  cases he : entsOf L n with
  | nil => rfl
  | cons e l =>
    obtain ⟨r, hr, hi, _⟩ := mem_ents.1 (show e ∈ entsOf L n by rw [he]; exact List.mem_cons_self)
    obtain ⟨i1, i2⟩ := isIn_iff.1 hi
    have hk := h.up r hr
    rw [i1] at hk
    unfold atR at hk
    rw [hn] at hk
    cases hk
theorem node_of {L : List RN} {last : Int} (h : GoodL L last) (n : Int) : (trOf L last).node n = ⟨(atR L n).f3, (atR L n).f1, (atR L n).f4, entsOf L n⟩ := by
  unfold Tr.node trOf atR
  cases hf : L.find? (fun r => r.f0 == n) with
  | none => simp only [hf, Option.map_none, Option.getD_none, h.noEnts hf]; rfl
  | some r =>
    have := List.find?_some hf
    have : r.f0 = n := by simpa using this
    simp only [hf, Option.map_some, Option.getD_some, ndOf, this]
theorem find_ents {L : List RN} {last : Int} (h : GoodL L last) (n : Int) (s : ByteArray) : findE (entsOf L n) s = (inR L n s, decide (0 < inR L n s)) := by
  have hq : ∀ r : RN, inQ n s r = true ↔ isIn n r = true ∧ r.f2 = s := by
    intro r
    rw [isIn_iff]
    simp only [inQ, Bool.and_eq_true, beq_iff_eq, Bool.not_eq_true', beq_eq_false_iff_ne, toL_inj]
    constructor
    · rintro ⟨a, b, c⟩; exact ⟨⟨a, c⟩, b⟩
    · rintro ⟨⟨a, c⟩, b⟩; exact ⟨a, b, c⟩
  unfold findE inR
  cases hf : L.find? (inQ n s) with
  | none =>
    have : (entsOf L n).find? (fun e => e.f0.toList == s.toList) = none := by
      rw [List.find?_eq_none]
      intro e he
      obtain ⟨r, hr, hi, rfl⟩ := mem_ents.1 he
      have := List.find?_eq_none.1 hf r hr
      rw [hq] at this
      simp only [beq_iff_eq, toL_inj]
      exact fun e => this ⟨hi, e⟩
    rw [this]; rfl
  | some r =>
    have hr := List.mem_of_find?_eq_some hf
    have hrq := (hq r).1 (List.find?_some hf)
    have hm : (⟨r.f2, r.f0⟩ : En) ∈ entsOf L n := mem_ents.2 ⟨r, hr, hrq.1, rfl⟩
    cases hg : (entsOf L n).find? (fun e => e.f0.toList == s.toList) with
    | none =>
      have := List.find?_eq_none.1 hg _ hm
      simp [hrq.2] at this
    | some e =>
      have he := List.mem_of_find?_eq_some hg
      have hes := List.find?_some hg
      have hes : e.f0 = s := by simpa [toL_inj] using hes
      have hpos := (h.num r hr).1
      have : e = ⟨r.f2, r.f0⟩ := by
        apply Classical.byContradiction
        intro hne
        have hrt := h.rt n
        have key : bl e.f0 r.f2 = true ∨ bl r.f2 e.f0 = true := by
          obtain ⟨i, hi, rfl⟩ := List.getElem_of_mem he
          obtain ⟨j, hj, hj2⟩ := List.getElem_of_mem hm
          rcases Nat.lt_trichotomy i j with hlt | rfl | hgt
          · have := List.pairwise_iff_getElem.1 hrt i j hi hj hlt
            rw [hj2] at this; exact .inl this
          · exact absurd hj2 hne
          · have := List.pairwise_iff_getElem.1 hrt j i hj hi hgt
            rw [hj2] at this; exact .inr this
        rw [hes, hrq.2, bl_irr] at key
        rcases key with h | h <;> cases h
      subst this
      simp only []
      rw [decide_eq_true (by omega)]
end Go.Proofs.Ytjfigngmpagloaa.Tw

namespace Go.Proofs.Ytjfigngmpagloaa.Tw
open Go Go.RowKit Go.Shelf Go.Proofs Go.Proofs.Ytjfigngmpagloaa Go.Proofs.YtjfigngmpagloaaW.PrintWords Go.Proofs.Ytjfigngmpagloaa.Ext Go.Proofs.Ytjfigngmpagloaa.X Go.Proofs.Ytjfigngmpagloaa.Pu
set_option linter.unusedVariables false
set_option linter.unusedSimpArgs false
set_option maxRecDepth 1000000 in
theorem r07_may (kind : Int) (data : ByteArray) : linhayref07_may.f 5 kind data = some (mayE kind data) := by
  have hz : (data.toList = ([] : List UInt8)) ↔ data.size = 0 := by
    rw [toL]
    constructor
    · intro h
      have := congrArg List.length h
      exact this
    · intro h
      exact List.eq_nil_of_length_eq_zero h
  have hb : ∀ q : Bool, (data.toList == ([] : List UInt8)) = q → decide (data.size = 0) = q := by
    intro q h
    rw [← h]
    by_cases e : data.size = 0
    · rw [hz.2 e, decide_eq_true e]; rfl
    · rw [decide_eq_false e]
      symm
      rw [beq_eq_false_iff_ne]
      exact fun h => e (hz.1 h)
  have hb := hb _ rfl
  unfold mayE linhayref07_may.f
  by_cases a1 : kind < 1
  · rw [if_pos a1, if_pos (.inl a1)]; rfl
  · rw [if_neg a1]
    by_cases a2 : kind > 3
    · rw [decide_eq_true a2, if_pos (.inr a2)]; rfl
    · have J1 : linhayref07_may.j1 4 data false = (if (data.size : Int) > 65536 then some 4 else some 0) := rfl
      rw [decide_eq_false a2, if_neg (show ¬ (kind < 1 ∨ kind > 3) by omega),
        show linhayref07_may.j0 5 kind data false = (if kind = 1 then (if data.toList = ([] : List UInt8) then (if kind = 3 then linhayref07_may.j1 4 data (data.toList == ([] : List UInt8)) else linhayref07_may.j1 4 data false) else linhayref07_may.j1 4 data true) else (if kind = 3 then linhayref07_may.j1 4 data (data.toList == ([] : List UInt8)) else linhayref07_may.j1 4 data false)) from rfl]
      by_cases a3 : kind = 1
      · rw [if_pos a3]
        by_cases e : data.size = 0
        · rw [if_pos (hz.2 e), if_neg (show ¬ (kind = 3) by omega), if_neg (show ¬ ((kind = 1 ∧ data.size ≠ 0) ∨ (kind = 3 ∧ data.size = 0)) by omega), J1, if_neg (by omega), if_neg (by omega)]
        · rw [if_neg (fun h => e (hz.1 h)), if_pos (.inl ⟨a3, e⟩)]; rfl
      · rw [if_neg a3]
        by_cases a4 : kind = 3
        · rw [if_pos a4]
          by_cases e : data.size = 0
          · rw [decide_eq_true e] at hb
            rw [← hb, if_pos (.inr ⟨a4, e⟩)]; rfl
          · rw [decide_eq_false e] at hb
            rw [← hb, if_neg (show ¬ ((kind = 1 ∧ data.size ≠ 0) ∨ (kind = 3 ∧ data.size = 0)) by omega), J1]
            by_cases f : data.size > 65536
            · rw [if_pos f, if_pos (by omega)]
            · rw [if_neg f, if_neg (by omega)]
        · rw [if_neg a4, if_neg (show ¬ ((kind = 1 ∧ data.size ≠ 0) ∨ (kind = 3 ∧ data.size = 0)) by omega), J1]
          by_cases f : data.size > 65536
          · rw [if_pos f, if_pos (by omega)]
          · rw [if_neg f, if_neg (by omega)]
def putRE (L : List RN) (d : Int) (s : ByteArray) (kind : Int) (data : ByteArray) : Int :=
  if dirE (atR L d).f3 ≠ 0 then dirE (atR L d).f3 else if Sp.check s.data.toList ≠ 0 then Sp.check s.data.toList else
    if 0 < inR L d s then 6 else if mayE kind data ≠ 0 then mayE kind data else if 4096 ≤ L.length then 12 else 0
def RAt (w : World) (v : Value) (L : List RN) (last : Int) : Prop := ∃ A c, v = .agg #[.slice A L.length c, .int .i64 last] ∧ L.length ≤ c ∧ Kd.C k97 w A L.length L
theorem RAt.below {w w' : World} {v : Value} {L : List RN} {last : Int} (h : RAt w v L last) (hb : Below w.heap.size w w') : RAt w' v L last := by
  obtain ⟨A, c, e, h1, h2⟩ := h
  exact ⟨A, c, e, h1, Kd.C_below h2 hb⟩
structure PB (w : World) (b : Nat) (A : Option Addr) (n c : Nat) (last : Int) : Prop where
  x : w.heap[b]? = some (.cells #[.slice A n c, .int .i64 last] 28 (0, 0))
  r : w.heap[b + 1]? = some (.cells #[.slice none 0 0, .int .i64 0] 28 (0, 0))
theorem PB.below {w w' : World} {b n c : Nat} {A : Option Addr} {last : Int} (h : PB w b A n c last) (hb : Below w.heap.size w w') : PB w' b A n c last :=
  ⟨(hb.block _ (blk_lt h.x)).trans h.x, (hb.block _ (blk_lt h.r)).trans h.r⟩
theorem PB.all {w : World} {b n c : Nat} {A : Option Addr} {last : Int} (h : PB w b A n c last) :
    w.cell? ⟨b, 0, none⟩ = some (.slice A n c) ∧ w.cell? ⟨b, 1, none⟩ = some (.int .i64 last) ∧ w.cell? ⟨b + 1, 0, none⟩ = some (.slice none 0 0) ∧ w.cell? ⟨b + 1, 1, none⟩ = some (.int .i64 0) ∧ w.frozen? ⟨b + 1, 0, none⟩ = false ∧ w.frozen? ⟨b + 1, 1, none⟩ = false :=
  ⟨by rw [blk_cell h.x]; rfl, by rw [blk_cell h.x]; rfl, by rw [blk_cell h.r]; rfl, by rw [blk_cell h.r]; rfl, blk_frozen h.r 0, blk_frozen h.r 1⟩
theorem PB.mk0 (w : World) (A : Option Addr) (n c : Nat) (last : Int) : PB ((w.alloc (.cells #[.slice A n c, .int .i64 last] 28)).alloc (.cells #[.slice none 0 0, .int .i64 0] 28)) w.heap.size A n c last := by
  refine ⟨?_, ?_⟩
  · exact (((Below.refl _ (w.alloc (.cells #[.slice A n c, .int .i64 last] 28))).alloc (Nat.le_refl _) (.cells #[.slice none 0 0, .int .i64 0] 28)).block w.heap.size (by simp)).trans (heap_alloc_new w _)
  · have := heap_alloc_new (w.alloc (.cells #[.slice A n c, .int .i64 last] 28)) (.cells #[.slice none 0 0, .int .i64 0] 28)
    simpa using this
theorem below_two (w : World) (o1 o2 : Obj) : Below w.heap.size w ((w.alloc o1).alloc o2) := ((Below.refl _ w).alloc (Nat.le_refl _) _).alloc (by simp) _
theorem put_cells {w w2 : World} {n c : Nat} {A : Option Addr} {last : Int} {v0 v1 : Value} (h : PB w2 w.heap.size A n c last) (hb : Below w.heap.size w w2) :
    ((w2.setCell ⟨w.heap.size + 1, 0, none⟩ v0).setCell ⟨w.heap.size + 1, 1, none⟩ v1).cell? ⟨w.heap.size + 1, 0, none⟩ = some v0 ∧ ((w2.setCell ⟨w.heap.size + 1, 0, none⟩ v0).setCell ⟨w.heap.size + 1, 1, none⟩ v1).cell? ⟨w.heap.size + 1, 1, none⟩ = some v1 ∧
      Below w.heap.size w ((w2.setCell ⟨w.heap.size + 1, 0, none⟩ v0).setCell ⟨w.heap.size + 1, 1, none⟩ v1) := by
  have e1 := setCell_eq_setRow w2 (w.heap.size + 1) 0 _ _ _ v0 h.r
  have k1 : (w2.setCell ⟨w.heap.size + 1, 0, none⟩ v0).heap[w.heap.size + 1]? = some (.cells #[v0, .int .i64 0] 28 (0, 0)) := by rw [e1, setRow_heap w2 _ _ _ _ _ h.r]; rfl
  have e2 := setCell_eq_setRow _ (w.heap.size + 1) 1 _ _ _ v1 k1
  have k2 : ((w2.setCell ⟨w.heap.size + 1, 0, none⟩ v0).setCell ⟨w.heap.size + 1, 1, none⟩ v1).heap[w.heap.size + 1]? = some (.cells #[v0, v1] 28 (0, 0)) := by rw [e2, setRow_heap _ _ _ _ _ _ k1]; rfl
  exact ⟨by rw [blk_cell k2]; rfl, by rw [blk_cell k2]; rfl, (hb.setCell (by simp) _).setCell (by simp) _⟩
set_option maxHeartbeats 1000000 in
set_option maxRecDepth 1000000 in
theorem rput_err (L : List RN) (last : Int) (v : Value) (d : Int) (s : ByteArray) (kind : Int) (data : ByteArray) (w : World) (h : RAt w v L last) (hl : L.length < 4294967296) (he : putRE L d s kind data ≠ 0) :
    Calls Try.prog 47 #[v, .int .i64 d, .string s, .int .i64 kind, .string data] w fun e w' => e = .returned (.tuple #[v, .int .i64 0, .int .i64 (putRE L d s kind data)]) ∧ Below w.heap.size w w' := by
  obtain ⟨A, c, rfl, hle, hC⟩ := h
  obtain ⟨k1, hk1⟩ := (r07_dir L d last hl).rounds
  obtain ⟨k2, hk2⟩ := (r03_check s).rounds
  obtain ⟨k3, hk3⟩ := (r07_in L d last s hl).rounds
  have HD := Lib.hid (fun W h h2 => linhayref07_dir.calls k1 A c L last d _ W h h2 hk1)
  have HC := Lib.hid (fun W => linhayref03_Check.calls k2 s _ W hk2)
  have HI := Lib.hid (fun W h h2 => linhayref07_In.calls k3 A c L last d s _ W h h2 hk3)
  have HM := Lib.hid (fun W => linhayref07_may.calls 5 kind data (mayE kind data) W (r07_may kind data))
  have HL := Lib.hid hC
  have HLE := Lib.hid hle
  clear hk1 hk2 hk3 hle hl hC
  unfold putRE at he ⊢
  generalize dirE (atR L d).f3 = q1 at *
  generalize Sp.check s.data.toList = q2 at *
  generalize inR L d s = q3 at *
  generalize mayE kind data = q4 at *
  generalize hn : L.length = n at *
  have P1 := Lib.hid (PB.mk0 w A n c last)
  have hb1 := below_two w (.cells #[.slice A n c, .int .i64 last] 28) (.cells #[.slice none 0 0, .int .i64 0] 28)
  have HL1 := Lib.hid (Kd.C_below HL.out hb1)
  obtain ⟨x0_1, x1_1, r0_1, r1_1, f0_1, f1_1⟩ := P1.out.all
  have HB1 := Lib.hid hb1
  clear hb1
  by_cases h1 : q1 = 0
  · subst h1
    rw [if_neg (by simp)] at he ⊢
    by_cases h2 : q2 = 0
    · subst h2
      rw [if_neg (by simp)] at he ⊢
      by_cases h3 : 0 < q3
      · rw [if_pos h3]
        clear he
        go_enter Try.func47, Try.ntmps47
        go_wp2_with (first | (go_at_call 93; refine (HD.out _ HL1.out HLE.out).mono ?_; rintro e w2 ⟨rfl, hb2⟩; have P2 := Aside0.mk (P1.out.below hb2); have HL2 := Aside0.mk (Kd.C_below HL1.out hb2); obtain ⟨x0_2, x1_2, r0_2, r1_2, f0_2, f1_2⟩ := P2.out.all) | (go_at_call 64; refine (HC.out _).mono ?_; rintro e w3 ⟨rfl, hd3⟩; have hb3 := hd3.below; have P3 := Aside0.mk (P2.out.below hb3); have HL3 := Aside0.mk (Kd.C_below HL2.out hb3); obtain ⟨x0_3, x1_3, r0_3, r1_3, f0_3, f1_3⟩ := P3.out.all) | (go_at_call 70; refine (HI.out _ HL3.out HLE.out).mono ?_; rintro e w4 ⟨rfl, hb4⟩; have P4 := Aside0.mk (P3.out.below hb4); have HL4 := Aside0.mk (Kd.C_below HL3.out hb4); obtain ⟨x0_4, x1_4, r0_4, r1_4, f0_4, f1_4⟩ := P4.out.all) | (go_at_call 94; refine (HM.out _).mono ?_; rintro e w5 ⟨rfl, hd5⟩; have hb5 := hd5.below; have P5 := Aside0.mk (P4.out.below hb5); have HL5 := Aside0.mk (Kd.C_below HL4.out hb5); obtain ⟨x0_5, x1_5, r0_5, r1_5, f0_5, f1_5⟩ := P5.out.all))
        have hB := ((HB1.out.trans (hb2.mono (HB1.out.size))).trans (hb3.mono (Nat.le_trans (HB1.out.size) hb2.size))).trans (hb4.mono (Nat.le_trans (Nat.le_trans (HB1.out.size) hb2.size) hb3.size))
        obtain ⟨c0, c1, hB3⟩ := put_cells (v0 := .slice A n c) (v1 := .int .i64 last) P4.out hB
        generalize (w4.setCell ⟨w.heap.size + 1, 0, none⟩ (.slice A n c)).setCell ⟨w.heap.size + 1, 1, none⟩ (.int .i64 last) = w9 at c0 c1 hB3 ⊢
        have hu := Try.underlying28
        refine bodyPost_ret (v := .tuple #[.agg #[.slice A n c, .int .i64 last], .int .i64 0, .int .i64 6]) (by simp [results, Try.results47, go_sem, c0, c1, hu]) rfl ⟨rfl, hB3⟩
      · rw [if_neg h3] at he ⊢
        by_cases h4 : q4 = 0
        · subst h4
          rw [if_neg (by simp)] at he ⊢
          by_cases h5 : 4096 ≤ n
          · rw [if_pos h5]
            have h5' : (4096 : Int) ≤ (n : Int) := by omega
            clear he
            go_enter Try.func47, Try.ntmps47
            go_wp2_with (first | (go_at_call 93; refine (HD.out _ HL1.out HLE.out).mono ?_; rintro e w2 ⟨rfl, hb2⟩; have P2 := Aside0.mk (P1.out.below hb2); have HL2 := Aside0.mk (Kd.C_below HL1.out hb2); obtain ⟨x0_2, x1_2, r0_2, r1_2, f0_2, f1_2⟩ := P2.out.all) | (go_at_call 64; refine (HC.out _).mono ?_; rintro e w3 ⟨rfl, hd3⟩; have hb3 := hd3.below; have P3 := Aside0.mk (P2.out.below hb3); have HL3 := Aside0.mk (Kd.C_below HL2.out hb3); obtain ⟨x0_3, x1_3, r0_3, r1_3, f0_3, f1_3⟩ := P3.out.all) | (go_at_call 70; refine (HI.out _ HL3.out HLE.out).mono ?_; rintro e w4 ⟨rfl, hb4⟩; have P4 := Aside0.mk (P3.out.below hb4); have HL4 := Aside0.mk (Kd.C_below HL3.out hb4); obtain ⟨x0_4, x1_4, r0_4, r1_4, f0_4, f1_4⟩ := P4.out.all) | (go_at_call 94; refine (HM.out _).mono ?_; rintro e w5 ⟨rfl, hd5⟩; have hb5 := hd5.below; have P5 := Aside0.mk (P4.out.below hb5); have HL5 := Aside0.mk (Kd.C_below HL4.out hb5); obtain ⟨x0_5, x1_5, r0_5, r1_5, f0_5, f1_5⟩ := P5.out.all))
            have hB := (((HB1.out.trans (hb2.mono (HB1.out.size))).trans (hb3.mono (Nat.le_trans (HB1.out.size) hb2.size))).trans (hb4.mono (Nat.le_trans (Nat.le_trans (HB1.out.size) hb2.size) hb3.size))).trans (hb5.mono (Nat.le_trans (Nat.le_trans (Nat.le_trans (HB1.out.size) hb2.size) hb3.size) hb4.size))
            obtain ⟨c0, c1, hB3⟩ := put_cells (v0 := .slice A n c) (v1 := .int .i64 last) P5.out hB
            generalize (w5.setCell ⟨w.heap.size + 1, 0, none⟩ (.slice A n c)).setCell ⟨w.heap.size + 1, 1, none⟩ (.int .i64 last) = w9 at c0 c1 hB3 ⊢
            have hu := Try.underlying28
            refine bodyPost_ret (v := .tuple #[.agg #[.slice A n c, .int .i64 last], .int .i64 0, .int .i64 12]) (by simp [results, Try.results47, go_sem, c0, c1, hu]) rfl ⟨rfl, hB3⟩
          · rw [if_neg h5] at he
            exact absurd rfl he
        · rw [if_pos h4]
          clear he
          go_enter Try.func47, Try.ntmps47
          go_wp2_with (first | (go_at_call 93; refine (HD.out _ HL1.out HLE.out).mono ?_; rintro e w2 ⟨rfl, hb2⟩; have P2 := Aside0.mk (P1.out.below hb2); have HL2 := Aside0.mk (Kd.C_below HL1.out hb2); obtain ⟨x0_2, x1_2, r0_2, r1_2, f0_2, f1_2⟩ := P2.out.all) | (go_at_call 64; refine (HC.out _).mono ?_; rintro e w3 ⟨rfl, hd3⟩; have hb3 := hd3.below; have P3 := Aside0.mk (P2.out.below hb3); have HL3 := Aside0.mk (Kd.C_below HL2.out hb3); obtain ⟨x0_3, x1_3, r0_3, r1_3, f0_3, f1_3⟩ := P3.out.all) | (go_at_call 70; refine (HI.out _ HL3.out HLE.out).mono ?_; rintro e w4 ⟨rfl, hb4⟩; have P4 := Aside0.mk (P3.out.below hb4); have HL4 := Aside0.mk (Kd.C_below HL3.out hb4); obtain ⟨x0_4, x1_4, r0_4, r1_4, f0_4, f1_4⟩ := P4.out.all) | (go_at_call 94; refine (HM.out _).mono ?_; rintro e w5 ⟨rfl, hd5⟩; have hb5 := hd5.below; have P5 := Aside0.mk (P4.out.below hb5); have HL5 := Aside0.mk (Kd.C_below HL4.out hb5); obtain ⟨x0_5, x1_5, r0_5, r1_5, f0_5, f1_5⟩ := P5.out.all))
          have hB := (((HB1.out.trans (hb2.mono (HB1.out.size))).trans (hb3.mono (Nat.le_trans (HB1.out.size) hb2.size))).trans (hb4.mono (Nat.le_trans (Nat.le_trans (HB1.out.size) hb2.size) hb3.size))).trans (hb5.mono (Nat.le_trans (Nat.le_trans (Nat.le_trans (HB1.out.size) hb2.size) hb3.size) hb4.size))
          obtain ⟨c0, c1, hB3⟩ := put_cells (v0 := .slice A n c) (v1 := .int .i64 last) P5.out hB
          generalize (w5.setCell ⟨w.heap.size + 1, 0, none⟩ (.slice A n c)).setCell ⟨w.heap.size + 1, 1, none⟩ (.int .i64 last) = w9 at c0 c1 hB3 ⊢
          have hu := Try.underlying28
          refine bodyPost_ret (v := .tuple #[.agg #[.slice A n c, .int .i64 last], .int .i64 0, .int .i64 q4]) (by simp [results, Try.results47, go_sem, c0, c1, hu]) rfl ⟨rfl, hB3⟩
    · rw [if_pos h2]
      clear he
      go_enter Try.func47, Try.ntmps47
      go_wp2_with (first | (go_at_call 93; refine (HD.out _ HL1.out HLE.out).mono ?_; rintro e w2 ⟨rfl, hb2⟩; have P2 := Aside0.mk (P1.out.below hb2); have HL2 := Aside0.mk (Kd.C_below HL1.out hb2); obtain ⟨x0_2, x1_2, r0_2, r1_2, f0_2, f1_2⟩ := P2.out.all) | (go_at_call 64; refine (HC.out _).mono ?_; rintro e w3 ⟨rfl, hd3⟩; have hb3 := hd3.below; have P3 := Aside0.mk (P2.out.below hb3); have HL3 := Aside0.mk (Kd.C_below HL2.out hb3); obtain ⟨x0_3, x1_3, r0_3, r1_3, f0_3, f1_3⟩ := P3.out.all) | (go_at_call 70; refine (HI.out _ HL3.out HLE.out).mono ?_; rintro e w4 ⟨rfl, hb4⟩; have P4 := Aside0.mk (P3.out.below hb4); have HL4 := Aside0.mk (Kd.C_below HL3.out hb4); obtain ⟨x0_4, x1_4, r0_4, r1_4, f0_4, f1_4⟩ := P4.out.all) | (go_at_call 94; refine (HM.out _).mono ?_; rintro e w5 ⟨rfl, hd5⟩; have hb5 := hd5.below; have P5 := Aside0.mk (P4.out.below hb5); have HL5 := Aside0.mk (Kd.C_below HL4.out hb5); obtain ⟨x0_5, x1_5, r0_5, r1_5, f0_5, f1_5⟩ := P5.out.all))
      have hB := (HB1.out.trans (hb2.mono (HB1.out.size))).trans (hb3.mono (Nat.le_trans (HB1.out.size) hb2.size))
      obtain ⟨c0, c1, hB3⟩ := put_cells (v0 := .slice A n c) (v1 := .int .i64 last) P3.out hB
      generalize (w3.setCell ⟨w.heap.size + 1, 0, none⟩ (.slice A n c)).setCell ⟨w.heap.size + 1, 1, none⟩ (.int .i64 last) = w9 at c0 c1 hB3 ⊢
      have hu := Try.underlying28
      refine bodyPost_ret (v := .tuple #[.agg #[.slice A n c, .int .i64 last], .int .i64 0, .int .i64 q2]) (by simp [results, Try.results47, go_sem, c0, c1, hu]) rfl ⟨rfl, hB3⟩
  · rw [if_pos h1]
    clear he
    go_enter Try.func47, Try.ntmps47
    go_wp2_with (first | (go_at_call 93; refine (HD.out _ HL1.out HLE.out).mono ?_; rintro e w2 ⟨rfl, hb2⟩; have P2 := Aside0.mk (P1.out.below hb2); have HL2 := Aside0.mk (Kd.C_below HL1.out hb2); obtain ⟨x0_2, x1_2, r0_2, r1_2, f0_2, f1_2⟩ := P2.out.all) | (go_at_call 64; refine (HC.out _).mono ?_; rintro e w3 ⟨rfl, hd3⟩; have hb3 := hd3.below; have P3 := Aside0.mk (P2.out.below hb3); have HL3 := Aside0.mk (Kd.C_below HL2.out hb3); obtain ⟨x0_3, x1_3, r0_3, r1_3, f0_3, f1_3⟩ := P3.out.all) | (go_at_call 70; refine (HI.out _ HL3.out HLE.out).mono ?_; rintro e w4 ⟨rfl, hb4⟩; have P4 := Aside0.mk (P3.out.below hb4); have HL4 := Aside0.mk (Kd.C_below HL3.out hb4); obtain ⟨x0_4, x1_4, r0_4, r1_4, f0_4, f1_4⟩ := P4.out.all) | (go_at_call 94; refine (HM.out _).mono ?_; rintro e w5 ⟨rfl, hd5⟩; have hb5 := hd5.below; have P5 := Aside0.mk (P4.out.below hb5); have HL5 := Aside0.mk (Kd.C_below HL4.out hb5); obtain ⟨x0_5, x1_5, r0_5, r1_5, f0_5, f1_5⟩ := P5.out.all))
    have hB := HB1.out.trans (hb2.mono (HB1.out.size))
    obtain ⟨c0, c1, hB3⟩ := put_cells (v0 := .slice A n c) (v1 := .int .i64 last) P2.out hB
    generalize (w2.setCell ⟨w.heap.size + 1, 0, none⟩ (.slice A n c)).setCell ⟨w.heap.size + 1, 1, none⟩ (.int .i64 last) = w9 at c0 c1 hB3 ⊢
    have hu := Try.underlying28
    refine bodyPost_ret (v := .tuple #[.agg #[.slice A n c, .int .i64 last], .int .i64 0, .int .i64 q1]) (by simp [results, Try.results47, go_sem, c0, c1, hu]) rfl ⟨rfl, hB3⟩
end Go.Proofs.Ytjfigngmpagloaa.Tw

namespace Go.Proofs.Ytjfigngmpagloaa.Tw
open Go Go.RowKit Go.Shelf Go.Proofs Go.Proofs.Ytjfigngmpagloaa Go.Proofs.YtjfigngmpagloaaW.PrintWords Go.Proofs.Ytjfigngmpagloaa.Ext Go.Proofs.Ytjfigngmpagloaa.X Go.Proofs.Ytjfigngmpagloaa.Pu
set_option linter.unusedVariables false
set_option linter.unusedSimpArgs false
theorem putRE_zero {L : List RN} {d : Int} {s : ByteArray} {kind : Int} {data : ByteArray} (h : putRE L d s kind data = 0) :
    dirE (atR L d).f3 = 0 ∧ Sp.check s.data.toList = 0 ∧ ¬ (0 < inR L d s) ∧ mayE kind data = 0 ∧ L.length < 4096 := by
  unfold putRE at h
  split at h
  · rename_i g; exact absurd h g
  · rename_i g1
    split at h
    · rename_i g; exact absurd h g
    · rename_i g2
      split at h
      · cases h
      · rename_i g3
        split at h
        · rename_i g; exact absurd h g
        · rename_i g4
          split at h
          · cases h
          · rename_i g5
            exact ⟨Decidable.byContradiction fun e => g1 e, Decidable.byContradiction fun e => g2 e, g3, Decidable.byContradiction fun e => g4 e, by omega⟩
theorem rfar2 {w : World} {base b : Nat} {v u u' : Value} {l : List RN} (h : Kd.R k97 97 w base (fun _ => True) v l) (hb : b < base) :
    Kd.R k97 97 ((w.setCell ⟨b, 0, none⟩ u).setCell ⟨b, 1, none⟩ u') base (fun _ => True) v l := by
  have h1 := Kd.R_mono (Kd.R_bound h) (ok' := fun k => k ≠ b) (fun k hk => by have := hk.2.1; omega)
  exact Kd.R_mono (Kd.R_far (p := ⟨b, 1, none⟩) (Kd.R_far (p := ⟨b, 0, none⟩) h1 (fun k hk => hk) u) (fun k hk => hk) u') (fun _ _ => trivial)
theorem rat_fin {w : World} {n c7 : Nat} {A7 : Option Addr} {L : List RN} {x : RN} {last : Int} (hn : L.length = n) (h : ∃ A c, Value.slice A7 ([] ++ L ++ [x]).length c7 = .slice A ([] ++ L ++ [x]).length c ∧ ([] ++ L ++ [x]).length ≤ c ∧ Kd.C k97 w A ([] ++ L ++ [x]).length ([] ++ L ++ [x])) :
    RAt w.drew (.agg #[.slice A7 (n + 1) c7, .int .i64 last]) (L ++ [x]) last := by
  obtain ⟨A, c, e, h1, h2⟩ := h
  cases e
  exact ⟨A7, c7, by simp [hn], h1, Kd.C_drew h2⟩
theorem alloc_below (w : World) (o : Obj) (w' : World) (h : Below (w.heap.size + 1) (w.drew.alloc o) w') : Below w.heap.size w w' :=
  (((Below.refl w.heap.size w).drew).alloc (Nat.le_refl _) o).trans (h.mono (Nat.le_succ _))
theorem oneR {w w' : World} {b : Nat} {x : RN} (h : w'.heap[b]? = w.heap[b]?) (hv : w.heap[b]? = some (.cells #[.int .i64 x.f0, .int .i64 x.f1, .string x.f2, .int .i64 x.f3, .string x.f4] 97 (0, 0))) : Kd.C k97 w' (some ⟨b, 0, none⟩) 1 [x] := by
  have hv := h.trans hv
  refine ⟨rfl, by omega, fun _ => ⟨_, rfl, fun j p hj => ?_⟩⟩
  obtain ⟨hl, rfl⟩ := List.getElem?_eq_some_iff.1 hj
  have : j = 0 := by simp at hl; exact hl
  subst this
  refine ⟨[.int .i64 x.f0, .int .i64 x.f1, .string x.f2, .int .i64 x.f3, .string x.f4], rfl, k97_mk w' x, fun i u hu => ?_⟩
  rw [show (⟨b, 0, none⟩ : Addr).add (0 * k97.sz + i) = ⟨b, i, none⟩ by rw [Addr.add_lit]; congr 1; omega]
  rw [cell_of_row w' b _ _ _ (0, 0) hv]
  simpa using hu
set_option maxHeartbeats 4000000 in
set_option maxRecDepth 1000000 in
theorem rput_ok (L : List RN) (last : Int) (v : Value) (d : Int) (s : ByteArray) (kind : Int) (data : ByteArray) (w : World) (h : RAt w v L last) (hla : 0 ≤ last ∧ last < 1000000) (he : putRE L d s kind data = 0) :
    Calls Try.prog 47 #[v, .int .i64 d, .string s, .int .i64 kind, .string data] w fun e w' => ∃ v', e = .returned (.tuple #[v', .int .i64 (last + 1), .int .i64 0]) ∧ RAt w' v' (L ++ [⟨last + 1, d, s, kind, data⟩]) (last + 1) ∧ Below w.heap.size w w' := by
  obtain ⟨A, c, rfl, hle, hC⟩ := h
  obtain ⟨z1, z2, z3, z4, z5⟩ := putRE_zero he
  have hl : L.length < 4294967296 := by omega
  obtain ⟨k1, hk1⟩ := (r07_dir L d last hl).rounds
  obtain ⟨k2, hk2⟩ := (r03_check s).rounds
  obtain ⟨k3, hk3⟩ := (r07_in L d last s hl).rounds
  have HD := Lib.hid (fun W h h2 => linhayref07_dir.calls k1 A c L last d _ W h h2 hk1)
  have HC := Lib.hid (fun W => linhayref03_Check.calls k2 s _ W hk2)
  have HI := Lib.hid (fun W h h2 => linhayref07_In.calls k3 A c L last d s _ W h h2 hk3)
  have HM := Lib.hid (fun W => linhayref07_may.calls 5 kind data (mayE kind data) W (r07_may kind data))
  have HL := Lib.hid hC
  have HLE := Lib.hid hle
  have HZ5 := Lib.hid z5
  have hw1 : IntKind.i64.wrap (last + 1) = last + 1 := by obtain ⟨a, b⟩ := hla; rw [IntKind.wrap_i64]; omega
  rw [z1] at HD
  rw [z2] at HC
  rw [z4] at HM
  have h5' : ¬ ((4096 : Int) ≤ (L.length : Int)) := by omega
  have h5'' : (L.length : Int) < 4096 := by omega
  clear hk1 hk2 hk3 hle hl hC z1 z2 z4 z5 he hla
  generalize inR L d s = q3 at *
  generalize hn : L.length = n at *
  have P1 := Lib.hid (PB.mk0 w A n c last)
  have hb1 := below_two w (.cells #[.slice A n c, .int .i64 last] 28) (.cells #[.slice none 0 0, .int .i64 0] 28)
  have HL1 := Lib.hid (Kd.C_below HL.out hb1)
  obtain ⟨x0_1, x1_1, r0_1, r1_1, f0_1, f1_1⟩ := P1.out.all
  have HB1 := Lib.hid hb1
  clear hb1
  go_enter Try.func47, Try.ntmps47
  go_wp2_with (first | (go_at_call 93; refine (HD.out _ HL1.out HLE.out).mono ?_; rintro e w2 ⟨rfl, hb2⟩; have P2 := Aside0.mk (P1.out.below hb2); have HL2 := Aside0.mk (Kd.C_below HL1.out hb2); obtain ⟨x0_2, x1_2, r0_2, r1_2, f0_2, f1_2⟩ := P2.out.all) | (go_at_call 64; refine (HC.out _).mono ?_; rintro e w3 ⟨rfl, hd3⟩; have hb3 := hd3.below; have P3 := Aside0.mk (P2.out.below hb3); have HL3 := Aside0.mk (Kd.C_below HL2.out hb3); obtain ⟨x0_3, x1_3, r0_3, r1_3, f0_3, f1_3⟩ := P3.out.all) | (go_at_call 70; refine (HI.out _ HL3.out HLE.out).mono ?_; rintro e w4 ⟨rfl, hb4⟩; have P4 := Aside0.mk (P3.out.below hb4); have HL4 := Aside0.mk (Kd.C_below HL3.out hb4); obtain ⟨x0_4, x1_4, r0_4, r1_4, f0_4, f1_4⟩ := P4.out.all) | (go_at_call 94; refine (HM.out _).mono ?_; rintro e w5 ⟨rfl, hd5⟩; have hb5 := hd5.below; have P5 := Aside0.mk (P4.out.below hb5); have HL5 := Aside0.mk (Kd.C_below HL4.out hb5); obtain ⟨x0_5, x1_5, r0_5, r1_5, f0_5, f1_5⟩ := P5.out.all))
  have HB5 := Aside0.mk ((((HB1.out.trans (hb2.mono (HB1.out.size))).trans (hb3.mono (Nat.le_trans (HB1.out.size) hb2.size))).trans (hb4.mono (Nat.le_trans (Nat.le_trans (HB1.out.size) hb2.size) hb3.size))).trans (hb5.mono (Nat.le_trans (Nat.le_trans (Nat.le_trans (HB1.out.size) hb2.size) hb3.size) hb4.size)))
  have PD := Aside0.mk (P5.out.below (below_drew (Below.refl _ w5)))
  have HLD := Aside0.mk (Kd.C_drew HL5.out)
  clear hb2 hb3 hb4 hb5 x0_1 x1_1 r0_1 r1_1 f0_1 f1_1 x0_2 x1_2 r0_2 r1_2 f0_2 f1_2 x0_3 x1_3 r0_3 r1_3 f0_3 f1_3 x0_4 x1_4 r0_4 r1_4 f0_4 f1_4 x0_5 x1_5 r0_5 r1_5 f0_5 f1_5 HL1 HL2 HL3 HL4 P1 P2 P3 P4 HD HC HI HM HB1
  have hlt5 := Aside0.mk (blk_lt P5.out.r)
  obtain ⟨x0, x1, -, -, -, -⟩ := PD.out.all
  obtain ⟨xA0, xA1, -, -, -, -⟩ := (P5.out.below (below_drew (((Below.refl _ w5).alloc (Nat.le_refl _) (.cells #[.int .i64 (last + 1), .int .i64 d, .string s, .int .i64 kind, .string data] 97))))).all
  go_region_law (first | (refine Kd.R_append_rows_step k97 (w0 := w5) w5.heap.size (by simp [Region.wanted]) (.const (.slice none 0 0)) (.tmp 49) 26 97 _ 56 rfl Try.underlying26 info97 rfl (by decide) (by omega) _ [] L A n c (fun _ => True) (fun _ => False) (by rfl) (by rfl) (Kd.R_nil _ _ _ _ _) HLD.out (fun _ _ h => by obtain rfl := k97_open h; exact k97_mkM _ _ _ _) (fun _ h => h.elim) (fun _ _ => trivial) (below_drew (Below.refl _ _)) (by simp) (by have := HZ5.out; simp; omega) ?_; intro v6 w6 ho6 hb6 hg6 hat6; have P6 := Aside0.mk (P5.out.below hb6); have x6 := P6.out.all.1; have y6 := P6.out.all.2.1) | (refine Kd.R_append_rows_step k97 (w0 := (w5.alloc (.cells #[.int .i64 (last + 1), .int .i64 d, .string s, .int .i64 kind, .string data] 97)).drew) (w5.heap.size + 1) (by simp [Region.wanted]) (.const (.slice none 0 0)) (.tmp 49) 26 97 _ 56 rfl Try.underlying26 info97 rfl (by decide) (by omega) _ [] L A n c (fun _ => True) (fun _ => False) (by rfl) (by rfl) (Kd.R_nil _ _ _ _ _) (Kd.C_drew (Kd.C_alloc HL5.out _)) (fun _ _ h => by obtain rfl := k97_open h; exact k97_mkM _ _ _ _) (fun _ h => h.elim) (fun _ _ => trivial) (Below.refl _ _) (by simp) (by have := HZ5.out; simp; omega) ?_; intro v6 w6 ho6 hb6' hg6 hat6; have hb6 := alloc_below w5 (.cells #[.int .i64 (last + 1), .int .i64 d, .string s, .int .i64 kind, .string data] 97) w6 hb6'; have HV6 := Aside0.mk (oneR (x := ⟨last + 1, d, s, kind, data⟩) (hb6'.block w5.heap.size (by simp)) (heap_alloc_new w5 _)); have P6 := Aside0.mk (P5.out.below hb6); have x6 := P6.out.all.1; have y6 := P6.out.all.2.1) | (refine Kd.R_append_step k97 (w0 := w5) w5.heap.size (by simp [Region.wanted]) (.tmp 50) (.tmp 59) 26 97 _ 56 rfl Try.underlying26 info97 rfl (by decide) (by omega) v6 ([] ++ L) ⟨last + 1, d, s, kind, data⟩ _ (fun _ => True) (fun _ => False) (by rfl) (by rfl) (k97_mkM _ _ _ _) (fun _ h => h.elim) (fun _ _ => trivial) ho6 hb6 hb6.size (by have := HZ5.out; simp; omega) ?_; intro v7 w7 ho7 hbb7 hg7 hat7; obtain ⟨A7, c7, rfl, hle7, hC7⟩ := Kd.R_reads ho7; have P7 := Aside0.mk (P5.out.below hbb7); obtain ⟨x7, y7, r7, s7, f7, g7⟩ := P7.out.all; have HL7 := Aside0.mk (And.intro hle7 hC7); have HB7 := Aside0.mk hbb7) | (refine Kd.R_append_rows_step k97 (w0 := w6) (w5.heap.size + 1) (by simp [Region.wanted]) (.tmp 50) (.tmp 59) 26 97 _ 56 rfl Try.underlying26 info97 rfl (by decide) (by omega) v6 ([] ++ L) [⟨last + 1, d, s, kind, data⟩] _ 1 1 (fun _ => True) (fun _ => False) (by rfl) (by rfl) ho6 HV6.out (fun _ _ h => by obtain rfl := k97_open h; exact k97_mkM _ _ _ _) (fun _ h => h.elim) (fun _ _ => trivial) (Below.refl _ _) (Nat.le_trans (by simp) hb6'.size) (by have := HZ5.out; simp; omega) ?_; intro v7 w7 ho7 hb7 hg7 hat7; have hbb7 := hb6.trans (hb7.mono (Nat.le_succ _)); obtain ⟨A7, c7, rfl, hle7, hC7⟩ := Kd.R_reads ho7; have P7 := Aside0.mk (P5.out.below hbb7); obtain ⟨x7, y7, r7, s7, f7, g7⟩ := P7.out.all; have HL7 := Aside0.mk (And.intro hle7 hC7); have HB7 := Aside0.mk hbb7))
  all_goals clear x0 x1 xA0 xA1 HLD PD HL5 P5
  all_goals go_wp2
  all_goals go_region
  all_goals go_wp2
  all_goals have hB := HB5.out.trans (HB7.out.mono HB5.out.size)
  all_goals obtain ⟨c0, c1, hB3⟩ := put_cells (v0 := .slice A7 (n + 1) c7) (v1 := .int .i64 (last + 1)) P7.out hB
  all_goals have hR9 := Kd.R_reads (rfar2 (u := .slice A7 (n + 1) c7) (u' := .int .i64 (last + 1)) ho7 (show w.heap.size + 1 < _ by have := hlt5.out; omega))
  all_goals generalize (w7.setCell ⟨w.heap.size + 1, 0, none⟩ (.slice A7 (n + 1) c7)).setCell ⟨w.heap.size + 1, 1, none⟩ (.int .i64 (last + 1)) = w9 at c0 c1 hB3 hR9 ⊢
  all_goals have hu := Try.underlying28
  all_goals refine bodyPost_ret (v := .tuple #[.agg #[.slice A7 (n + 1) c7, .int .i64 (last + 1)], .int .i64 (last + 1), .int .i64 0]) (by simp [results, Try.results47, go_sem, c0, c1, hu, Act.put]) (by simp [Act.put]) ⟨_, rfl, ?_, ?_⟩
  all_goals first | exact rat_fin hn (hR9) | exact (below_drew hB3) | exact hB3
end Go.Proofs.Ytjfigngmpagloaa.Tw

namespace Go.Proofs.Ytjfigngmpagloaa.Tw
open Go Go.RowKit Go.Shelf Go.Proofs Go.Proofs.Ytjfigngmpagloaa Go.Proofs.YtjfigngmpagloaaW.PrintWords Go.Proofs.Ytjfigngmpagloaa.Ext Go.Proofs.Ytjfigngmpagloaa.X Go.Proofs.Ytjfigngmpagloaa.Pu
set_option linter.unusedVariables false
set_option linter.unusedSimpArgs false
theorem putE_eq {L : List RN} {last : Int} (h : GoodL L last) (d : Int) (s : ByteArray) (kind : Int) (data : ByteArray) : putE (trOf L last) d s kind data = putRE L d s kind data := by
  unfold putE putRE
  rw [node_of h d]
  simp only [find_ents h d s, decide_eq_true_eq]
  rfl
theorem find_snoc (L : List RN) (x : RN) (n : Int) : (L ++ [x]).find? (fun r => r.f0 == n) = match L.find? (fun r => r.f0 == n) with | some r => some r | none => if x.f0 = n then some x else none := by
  rw [List.find?_append]
  cases L.find? (fun r => r.f0 == n) with
  | some r => rfl
  | none =>
    by_cases e : x.f0 = n
    · simp [List.find?_cons, e]
    · simp [List.find?_cons, e]
theorem at_snoc {L : List RN} {x : RN} {n : Int} (h : (atR L n).f3 ≠ 0) : atR (L ++ [x]) n = atR L n := by
  unfold atR at h ⊢
  rw [find_snoc]
  cases hf : L.find? (fun r => r.f0 == n) with
  | some r => rfl
  | none => rw [hf] at h; exact absurd rfl h
theorem fresh {L : List RN} {last : Int} (h : GoodL L last) {n : Int} (hn : last < n) : L.find? (fun r => r.f0 == n) = none := by
  rw [List.find?_eq_none]
  intro r hr e
  have := (h.num r hr).2
  have e : r.f0 = n := by simpa using e
  omega
theorem mayE_zero {kind : Int} {data : ByteArray} (h : mayE kind data = 0) : (kind = 1 ∨ kind = 2 ∨ kind = 3) ∧ data.size ≤ 65536 := by
  unfold mayE at h
  split at h
  · cases h
  · split at h
    · cases h
    · split at h
      · cases h
      · rename_i h1 _ h3
        exact ⟨by omega, by omega⟩
theorem inR_none {L : List RN} {last d : Int} {s : ByteArray} (h : GoodL L last) (hn : ¬ 0 < inR L d s) : ∀ r ∈ L, r.f1 = d → r.f0 ≠ 1 → r.f2 ≠ s := by
  intro r hr h1 h2 h3
  apply hn
  unfold inR
  cases hf : L.find? (inQ d s) with
  | none =>
    have := List.find?_eq_none.1 hf r hr
    simp [inQ, h1, h2, h3] at this
  | some q =>
    have := (h.num q (List.mem_of_find?_eq_some hf)).1
    show 0 < q.f0
    omega
theorem GoodL.last1 {L : List RN} {last : Int} (h : GoodL L last) : 1 ≤ last := by
  obtain ⟨r, hr, h1, _⟩ := h.root
  have := (h.num r hr).2
  omega
theorem GoodL.put {L : List RN} {last : Int} (h : GoodL L last) {d : Int} {s : ByteArray} {kind : Int} {data : ByteArray} (he : putRE L d s kind data = 0) : GoodL (L ++ [⟨last + 1, d, s, kind, data⟩]) (last + 1) := by
  obtain ⟨z1, z2, z3, z4, z5⟩ := putRE_zero he
  have hk := dirE_zero z1
  have hla := h.last1
  refine ⟨by simp; omega, ?_, ?_, ?_, ?_, ?_, ?_⟩
  · intro r hr
    rcases List.mem_append.1 hr with hr | hr
    · have := h.num r hr; omega
    · have : r = _ := List.mem_singleton.1 hr
      subst this
      exact ⟨by show 1 ≤ last + 1; omega, Int.le_refl _⟩
  · rw [List.pairwise_append]
    refine ⟨h.uniq, List.pairwise_singleton _ _, ?_⟩
    intro a ha b hb
    have : b = _ := List.mem_singleton.1 hb
    subst this
    have := (h.num a ha).2
    show a.f0 ≠ last + 1
    omega
  · rw [List.pairwise_append]
    refine ⟨h.names, List.pairwise_singleton _ _, ?_⟩
    intro a ha b hb
    have : b = _ := List.mem_singleton.1 hb
    subst this
    intro h1 h2 _
    exact inR_none h z3 a ha h1 h2
  · intro r hr
    rcases List.mem_append.1 hr with hr | hr
    · exact h.data r hr
    · have : r = _ := List.mem_singleton.1 hr
      subst this
      exact (mayE_zero z4).2
  · intro r hr
    rcases List.mem_append.1 hr with hr | hr
    · rw [at_snoc (by rw [h.up r hr]; decide)]; exact h.up r hr
    · have : r = _ := List.mem_singleton.1 hr
      subst this
      show (atR _ d).f3 = 1
      rw [at_snoc (by rw [hk]; decide)]; exact hk
  · obtain ⟨r, hr, q⟩ := h.root
    exact ⟨r, List.mem_append_left _ hr, q⟩
theorem putT_eq {L : List RN} {last : Int} (h : GoodL L last) {d : Int} {s : ByteArray} {kind : Int} {data : ByteArray} (he : putRE L d s kind data = 0) :
    putT (trOf L last) d s kind data = trOf (L ++ [⟨last + 1, d, s, kind, data⟩]) (last + 1) := by
  obtain ⟨z1, z2, z3, z4, z5⟩ := putRE_zero he
  have hk := dirE_zero z1
  have hla := h.last1
  have hk0 : (atR L d).f3 ≠ 0 := by rw [hk]; decide
  obtain ⟨q, hq, hqd, hqe⟩ := at_kind hk0
  have hqn := (h.num q hq).2
  have hdl : d ≠ last + 1 := by omega
  have hnode := node_of h d
  have hf0 := fresh h (show last < last + 1 by omega)
  have hents : ∀ n, entsOf (L ++ [⟨last + 1, d, s, kind, data⟩]) n = if n = d then insE (entsOf L d) ⟨s, last + 1⟩ else entsOf L n := by
    intro n
    rw [entsOf_snoc]
    by_cases e : n = d
    · subst e
      rw [if_pos (show isIn n ⟨last + 1, n, s, kind, data⟩ = true from isIn_iff.2 ⟨rfl, by show last + 1 ≠ 1; omega⟩), if_pos rfl]
    · rw [if_neg (fun hi => e (isIn_iff.1 hi).1.symm), if_neg e]
  unfold putT Tr.enter
  have hn2 : ((trOf L last).bump.set ((trOf L last).last + 1) ⟨kind, d, data, []⟩).node d = (trOf L last).node d := node_set_ne hdl
  rw [hn2, hnode]
  unfold Tr.set Tr.bump trOf
  simp only [Tr.mk.injEq]
  refine ⟨?_, ?_, by trivial⟩
  · funext n
    rw [find_snoc]
    by_cases e : n = d
    · subst e
      rw [if_pos rfl]
      have hfd : L.find? (fun r => r.f0 == n) = some q := by
        have := find_num h.uniq hq
        rw [hqd] at this
        exact this
      rw [hfd, hqe]
      simp only [Option.map_some, ndOf, hqd, hents, if_true]
    · rw [if_neg e]
      by_cases e2 : n = last + 1
      · subst e2
        rw [if_pos rfl, hf0]
        simp only [if_true, Option.map_some, ndOf, hents, if_neg e]
        rw [h.noEnts hf0]
      · rw [if_neg e2]
        cases hf : L.find? (fun r => r.f0 == n) with
        | none =>
          simp only [Option.map_none]
          rw [if_neg (fun e3 => e2 e3.symm)]
          rfl
        | some r =>
          have hrn : r.f0 = n := by simpa using List.find?_some hf
          simp only [Option.map_some, ndOf, hents, hrn, if_neg e]
  · simp only [hf0, Option.map_none, Option.isSome_none]
    have hfd : L.find? (fun r => r.f0 == d) = some q := by
      have := find_num h.uniq hq
      rw [hqd] at this
      exact this
    simp [hdl, hfd]
theorem good0 : GoodL [⟨1, 1, ⟨#[]⟩, 1, ⟨#[]⟩⟩] 1 := by
  refine ⟨by simp, by simp, List.pairwise_singleton _ _, List.pairwise_singleton _ _, (fun r hr => by rw [List.mem_singleton.1 hr]; exact Nat.zero_le _), (fun r hr => by rw [List.mem_singleton.1 hr]; rfl), ⟨_, List.mem_singleton.2 rfl, rfl, rfl, rfl⟩⟩
theorem T0_eq : T0 = trOf [⟨1, 1, ⟨#[]⟩, 1, ⟨#[]⟩⟩] 1 := by
  unfold T0 trOf
  simp only [Tr.mk.injEq]
  refine ⟨?_, by trivial, by trivial⟩
  funext n
  by_cases e : n = 1
  · subst e; rfl
  · rw [if_neg e, List.find?_cons, show ((1 : Int) == n) = false by simpa using (fun h => e h.symm)]; rfl
end Go.Proofs.Ytjfigngmpagloaa.Tw

namespace Go.Proofs.Ytjfigngmpagloaa.Tw
open Go Go.RowKit Go.Shelf Go.Proofs Go.Proofs.Ytjfigngmpagloaa Go.Proofs.YtjfigngmpagloaaW.PrintWords Go.Proofs.Ytjfigngmpagloaa.Ext Go.Proofs.Ytjfigngmpagloaa.X Go.Proofs.Ytjfigngmpagloaa.Pu
set_option linter.unusedVariables false
set_option linter.unusedSimpArgs false
theorem TreeB.two {w : World} {p B : Nat} {T : Tr} (h : TreeB w p B T) : w.heap[p]? = some (.cells #[.map (some B), .int .i64 T.last] 142 (0, 0)) ∧ ∃ es clock, w.heap[B]? = some (.map es clock) := by
  obtain ⟨sv, D, h⟩ := h
  exact ⟨h.ptr, h.mapB⟩
theorem RAt.frm {w w' : World} {p B : Nat} {T : Tr} {v : Value} {L : List RN} {last : Int} (h : RAt w v L last) (hT : TreeB w p B T) (hf : Frm w w' p B) : RAt w' v L last := by
  obtain ⟨hp, es, clock, hB⟩ := hT.two
  obtain ⟨A, c, e1, e2, hC⟩ := h
  refine ⟨A, c, e1, e2, hC.1, hC.2.1, fun hn => ?_⟩
  obtain ⟨ad, eA, hc⟩ := hC.2.2 hn
  have key : ∀ (q : List Value) (x : RN) (j : Nat), k97.K w x q → (∀ i u, q[i]? = some u → w.cell? (ad.add (j * k97.sz + i)) = some u) → ad.block < w.heap.size ∧ ad.block ≠ p ∧ ad.block ≠ B := by
    intro q x j hK hq
    obtain rfl := k97_open hK
    have h0 := hq 2 _ rfl
    have hbl : (ad.add (j * k97.sz + 2)).block = ad.block := by unfold Addr.add; split <;> rfl
    generalize ad.add (j * k97.sz + 2) = a0 at h0 hbl
    refine ⟨?_, ?_, ?_⟩
    · rw [← hbl]; exact block_lt_of_cell h0
    · intro e
      rw [e] at hbl
      obtain ⟨b, o, sp⟩ := a0
      subst hbl
      simp [World.cell?, hp] at h0
      cases sp with
      | none =>
        simp at h0
        match o, h0 with
        | 0, h0 => simp at h0
        | 1, h0 => simp at h0
        | n + 2, h0 => simp at h0
      | some q => simp at h0
    · intro e
      rw [e] at hbl
      obtain ⟨b, o, sp⟩ := a0
      subst hbl
      simp [World.cell?, hB] at h0
  refine ⟨ad, eA, fun j q hj => ?_⟩
  obtain ⟨cs, hl, hK, hq⟩ := hc j q hj
  obtain ⟨k1, k2, k3⟩ := key cs q j hK hq
  refine ⟨cs, hl, ?_, fun i u hu => ?_⟩
  · obtain rfl := k97_open hK
    exact k97_mk _ _
  · have := hq i u hu
    have hbl : (ad.add (j * k97.sz + i)).block = ad.block := by unfold Addr.add; split <;> rfl
    rw [← this]
    generalize ad.add (j * k97.sz + i) = a at hbl
    unfold World.cell?
    rw [hbl, hf.block _ k1 k2 k3]
theorem cells_frm {w w' : World} {p B k : Nat} {T : Tr} {cs : Array Value} {t : TypeId} {fr : Nat × Nat} (h : w.heap[k]? = some (.cells cs t fr)) (ht : t ≠ 142) (hT : TreeB w p B T) (hf : Frm w w' p B) : w'.heap[k]? = some (.cells cs t fr) := by
  obtain ⟨hp, es, clock, hB⟩ := hT.two
  refine (hf.block k (Array.getElem?_eq_some_iff.1 h).1 ?_ ?_).trans h
  · rintro rfl
    rw [hp] at h
    injection h with h
    injection h with _ h
    exact ht h.symm
  · rintro rfl
    rw [hB] at h
    cases h
end Go.Proofs.Ytjfigngmpagloaa.Tw

namespace Go.Proofs.Ytjfigngmpagloaa.Tw
open Go Go.RowKit Go.Shelf Go.Proofs Go.Proofs.Ytjfigngmpagloaa Go.Proofs.YtjfigngmpagloaaW.PrintWords Go.Proofs.Ytjfigngmpagloaa.Ext Go.Proofs.Ytjfigngmpagloaa.X Go.Proofs.Ytjfigngmpagloaa.Pu
set_option linter.unusedVariables false
set_option linter.unusedSimpArgs false
def putL (L : List RN) (last d : Int) (s : ByteArray) (kind : Int) (data : ByteArray) : List RN := if putRE L d s kind data = 0 then L ++ [⟨last + 1, d, s, kind, data⟩] else L
def putN (L : List RN) (last d : Int) (s : ByteArray) (kind : Int) (data : ByteArray) : Int := if putRE L d s kind data = 0 then last + 1 else last
def putA (L : List RN) (last d : Int) (s : ByteArray) (kind : Int) (data : ByteArray) : Int := if putRE L d s kind data = 0 then last + 1 else 0
theorem tput_calls (p B : Nat) (L : List RN) (last d : Int) (s : ByteArray) (kind : Int) (data : ByteArray) (w : World) (h : TreeB w p B (trOf L last)) (hG : GoodL L last) (hn : wf d) (hs : s.size < 4294967281) (hla : last < 1000000) :
    Calls Try.prog 46 #[pT p, .int .i64 d, .string s, .int .i64 kind, .string data] w fun e w' => e = .returned (.tuple #[.int .i64 (putA L last d s kind data), .int .i64 (putRE L d s kind data)]) ∧ TreeB w' p B (trOf (putL L last d s kind data) (putN L last d s kind data)) ∧ Frm w w' p B := by
  have hl : ((trOf L last).node d).ents.length < 4294967296 := by
    rw [node_of hG]
    have := ents_len L d
    have := hG.len
    show (entsOf L d).length < _
    omega
  have hR : Rt ((trOf L last).node d).ents := by rw [node_of hG]; exact hG.rt d
  have hq := putE_eq hG d s kind data
  by_cases he : putRE L d s kind data = 0
  · refine (put_ok p B (trOf L last) d s kind data w h hn hl hR hs ⟨by have := hG.last1; show 0 ≤ last; omega, hla⟩ (by
      show ((L.find? _).map _) = none
      rw [show (trOf L last).last = last from rfl, fresh hG (show last < last + 1 by omega)]; rfl) (hq.trans he)).mono ?_
    rintro e w' ⟨rfl, hT, hf⟩
    rw [putT_eq hG he] at hT
    unfold putA putL putN
    rw [if_pos he, if_pos he, if_pos he, he]
    exact ⟨rfl, hT, hf⟩
  · refine (put_err p B (trOf L last) d s kind data w h hn hl hR hs (by rw [hq]; exact he)).mono ?_
    rintro e w' ⟨rfl, hb⟩
    unfold putA putL putN
    rw [if_neg he, if_neg he, if_neg he, hq]
    exact ⟨rfl, h.below hb, Frm.ofBelow hb⟩
theorem rput_calls (L : List RN) (last d : Int) (v : Value) (s : ByteArray) (kind : Int) (data : ByteArray) (w : World) (h : RAt w v L last) (hG : GoodL L last) (hla : last < 1000000) :
    Calls Try.prog 47 #[v, .int .i64 d, .string s, .int .i64 kind, .string data] w fun e w' => ∃ v', e = .returned (.tuple #[v', .int .i64 (putA L last d s kind data), .int .i64 (putRE L d s kind data)]) ∧ RAt w' v' (putL L last d s kind data) (putN L last d s kind data) ∧ Below w.heap.size w w' := by
  by_cases he : putRE L d s kind data = 0
  · refine (rput_ok L last v d s kind data w h ⟨by have := hG.last1; omega, hla⟩ he).mono ?_
    rintro e w' ⟨v', rfl, hT, hf⟩
    unfold putA putL putN
    rw [if_pos he, if_pos he, if_pos he, he]
    exact ⟨v', rfl, hT, hf⟩
  · refine (rput_err L last v d s kind data w h (by have := hG.len; omega) he).mono ?_
    rintro e w' ⟨rfl, hb⟩
    unfold putA putL putN
    rw [if_neg he, if_neg he, if_neg he]
    exact ⟨v, rfl, h.below hb, hb⟩
theorem good_put {L : List RN} {last d : Int} {s : ByteArray} {kind : Int} {data : ByteArray} (hG : GoodL L last) : GoodL (putL L last d s kind data) (putN L last d s kind data) := by
  unfold putL putN
  by_cases he : putRE L d s kind data = 0
  · rw [if_pos he, if_pos he]; exact hG.put he
  · rw [if_neg he, if_neg he]; exact hG
abbrev MN := S89
def dirAt (nums : List Int) (x : MN) : Int := if 0 ≤ x.f0 ∧ x.f0 < (nums.length : Int) then nums.getD x.f0.toNat 0 else 1
structure MSt where
  L : List RN
  last : Int
  nums : List Int
def madeStep (st : MSt) (x : MN) : MSt :=
  ⟨putL st.L st.last (dirAt st.nums x) x.f1 x.f2 x.f3, putN st.L st.last (dirAt st.nums x) x.f1 x.f2 x.f3, st.nums ++ [putA st.L st.last (dirAt st.nums x) x.f1 x.f2 x.f3]⟩
def made0 : MSt := ⟨[⟨1, 1, ⟨#[]⟩, 1, ⟨#[]⟩⟩], 1, []⟩
def madeF (l : List MN) : MSt := l.foldl madeStep made0
structure MInv (st : MSt) (i : Nat) : Prop where
  good : GoodL st.L st.last
  len : st.nums.length = i
  last : st.last ≤ (i : Int) + 1
  nums : ∀ n ∈ st.nums, 0 ≤ n ∧ n ≤ st.last
theorem minv0 : MInv made0 0 := ⟨good0, rfl, by decide, by simp [made0]⟩
theorem dirAt_in {st : MSt} {i : Nat} (h : MInv st i) (x : MN) : 0 ≤ dirAt st.nums x ∧ dirAt st.nums x ≤ st.last := by
  unfold dirAt
  have h1 := h.good.last1
  split
  · rename_i hx
    have hlt : x.f0.toNat < st.nums.length := by omega
    rw [List.getD_eq_getElem?_getD, List.getElem?_eq_getElem hlt]
    exact h.nums _ (List.getElem_mem hlt)
  · omega
theorem minv_step {st : MSt} {i : Nat} (h : MInv st i) (x : MN) : MInv (madeStep st x) (i + 1) := by
  have h1 := h.good.last1
  have h2 := h.last
  have hle : st.last ≤ (madeStep st x).last ∧ (madeStep st x).last ≤ st.last + 1 := by
    show st.last ≤ putN _ _ _ _ _ _ ∧ putN _ _ _ _ _ _ ≤ st.last + 1
    unfold putN
    split <;> omega
  refine ⟨good_put h.good, by show (st.nums ++ [_]).length = i + 1; rw [List.length_append, h.len]; rfl, by omega, ?_⟩
  intro n hn
  rcases List.mem_append.1 hn with hn | hn
  · have := h.nums n hn; omega
  · have hn := List.mem_singleton.1 hn
    subst hn
    have : (madeStep st x).last = putN st.L st.last (dirAt st.nums x) x.f1 x.f2 x.f3 := rfl
    rw [this] at hle ⊢
    revert hle
    unfold putN putA
    split <;> omega
end Go.Proofs.Ytjfigngmpagloaa.Tw

namespace Go.Proofs.Ytjfigngmpagloaa.Tw
open Go Go.RowKit Go.Shelf Go.Proofs Go.Proofs.Ytjfigngmpagloaa Go.Proofs.YtjfigngmpagloaaW.PrintWords Go.Proofs.Ytjfigngmpagloaa.Ext Go.Proofs.Ytjfigngmpagloaa.X Go.Proofs.Ytjfigngmpagloaa.Pu
set_option linter.unusedVariables false
set_option linter.unusedSimpArgs false
structure GoodM (L : List RN) : Prop where
  nm : ∀ r ∈ L, r.f0 ≠ 1 → Sp.check r.f2.data.toList = 0
  link : ∀ r ∈ L, r.f3 = 3 → 0 < r.f4.size
  kind : ∀ r ∈ L, 1 ≤ r.f3 ∧ r.f3 ≤ 3
  dirs : ∀ r ∈ L, r.f3 = 1 → r.f4.size = 0
  rank : ∃ d : Int → Nat, (∀ n, d n ≤ L.length) ∧ ∀ r ∈ L, r.f0 ≠ 1 → d r.f1 < d r.f0
theorem mayE_more {kind : Int} {data : ByteArray} (h : mayE kind data = 0) : (1 ≤ kind ∧ kind ≤ 3) ∧ (kind = 3 → 0 < data.size) ∧ (kind = 1 → data.size = 0) := by
  unfold mayE at h
  split at h
  · cases h
  · split at h
    · cases h
    · rename_i h1 h2
      exact ⟨by omega, by omega, by omega⟩
theorem GoodM.put {L : List RN} {last : Int} (hG : GoodL L last) (h : GoodM L) {d : Int} {s : ByteArray} {kind : Int} {data : ByteArray} (he : putRE L d s kind data = 0) : GoodM (L ++ [⟨last + 1, d, s, kind, data⟩]) := by
  obtain ⟨z1, z2, z3, z4, z5⟩ := putRE_zero he
  have hk := dirE_zero z1
  have hm := mayE_more z4
  have old : ∀ n, (atR L n).f3 = 1 → n ≤ last := by
    intro n hn
    obtain ⟨q, hq, hqn, _⟩ := at_kind (L := L) (n := n) (by rw [hn]; decide)
    have := (hG.num q hq).2
    omega
  refine ⟨?_, ?_, ?_, ?_, ?_⟩
  · intro r hr h1
    rcases List.mem_append.1 hr with hr | hr
    · exact h.nm r hr h1
    · have : r = _ := List.mem_singleton.1 hr
      subst this
      exact z2
  · intro r hr h1
    rcases List.mem_append.1 hr with hr | hr
    · exact h.link r hr h1
    · have : r = _ := List.mem_singleton.1 hr
      subst this
      exact hm.2.1 h1
  · intro r hr
    rcases List.mem_append.1 hr with hr | hr
    · exact h.kind r hr
    · have : r = _ := List.mem_singleton.1 hr
      subst this
      exact hm.1
  · intro r hr h1
    rcases List.mem_append.1 hr with hr | hr
    · exact h.dirs r hr h1
    · have : r = _ := List.mem_singleton.1 hr
      subst this
      exact hm.2.2 h1
  · obtain ⟨rk, hb, hd⟩ := h.rank
    refine ⟨fun n => if n = last + 1 then rk d + 1 else rk n, fun n => ?_, ?_⟩
    · have h1 := hb n
      have h2 := hb d
      simp only [List.length_append, List.length_singleton]
      split <;> omega
    · intro r hr h1
      rcases List.mem_append.1 hr with hr | hr
      · have h2 := (hG.num r hr).2
        have h3 := old r.f1 (hG.up r hr)
        simp only []
        rw [if_neg (by omega), if_neg (by omega)]
        exact hd r hr h1
      · have : r = _ := List.mem_singleton.1 hr
        subst this
        have h3 := old d hk
        simp only []
        rw [if_neg (by omega), if_pos trivial]
        omega
theorem goodM0 : GoodM [⟨1, 1, ⟨#[]⟩, 1, ⟨#[]⟩⟩] := by
  refine ⟨fun r hr h => ?_, fun r hr h => ?_, fun r hr => ?_, fun r hr h => ?_, ⟨fun _ => 0, fun _ => Nat.zero_le _, fun r hr h => ?_⟩⟩ <;> rw [List.mem_singleton.1 hr] at *
  · exact absurd rfl h
  · cases h
  · decide
  · rfl
  · exact absurd rfl h
theorem goodM_put {L : List RN} {last d : Int} {s : ByteArray} {kind : Int} {data : ByteArray} (hG : GoodL L last) (h : GoodM L) : GoodM (putL L last d s kind data) := by
  unfold putL
  by_cases he : putRE L d s kind data = 0
  · rw [if_pos he]; exact h.put hG he
  · rw [if_neg he]; exact h
theorem fold_good : ∀ (l : List MN) (st : MSt) (i : Nat), MInv st i → GoodM st.L → MInv (l.foldl madeStep st) (i + l.length) ∧ GoodM (l.foldl madeStep st).L
  | [], st, i, h, m => ⟨h, m⟩
  | x :: l, st, i, h, m => by
    have := fold_good l (madeStep st x) (i + 1) (minv_step h x) (goodM_put h.good m)
    rw [List.foldl_cons, List.length_cons, show i + (l.length + 1) = i + 1 + l.length by omega]
    exact this
theorem made_good (l : List MN) : GoodL (madeF l).L (madeF l).last ∧ GoodM (madeF l).L ∧ (madeF l).last ≤ (l.length : Int) + 1 ∧ (madeF l).L.length ≤ l.length + 1 := by
  have h := fold_good l made0 0 minv0 goodM0
  rw [Nat.zero_add] at h
  refine ⟨h.1.good, h.2, h.1.last, ?_⟩
  have key : ∀ (l : List MN) (st : MSt), (l.foldl madeStep st).L.length ≤ st.L.length + l.length := by
    intro l
    induction l with
    | nil => intro st; simp
    | cons x l ih =>
      intro st
      have h1 := ih (madeStep st x)
      have h2 : (madeStep st x).L.length ≤ st.L.length + 1 := by
        show (putL _ _ _ _ _ _).length ≤ _
        unfold putL
        split <;> simp
      simp only [List.foldl_cons, List.length_cons]
      omega
  have := key l made0
  have h0 : made0.L.length = 1 := rfl
  unfold madeF
  omega
theorem inR_le {L : List RN} {last : Int} (h : GoodL L last) (d : Int) (s : ByteArray) : 0 ≤ inR L d s ∧ inR L d s ≤ last := by
  unfold inR
  cases hf : L.find? (inQ d s) with
  | none => have := h.last1; exact ⟨Int.le_refl _, by show (0 : Int) ≤ last; omega⟩
  | some r =>
    have := h.num r (List.mem_of_find?_eq_some hf)
    show 0 ≤ r.f0 ∧ r.f0 ≤ last
    omega
theorem inR_mem {L : List RN} {last : Int} (h : GoodL L last) {d : Int} {s : ByteArray} (hn : inR L d s ≠ 0) : ∃ r ∈ L, r.f0 = inR L d s ∧ r.f1 = d ∧ r.f2 = s ∧ r.f0 ≠ 1 ∧ atR L (inR L d s) = r := by
  unfold inR at hn ⊢
  cases hf : L.find? (inQ d s) with
  | none => rw [hf] at hn; exact absurd rfl hn
  | some r =>
    have hr := List.mem_of_find?_eq_some hf
    have hq := List.find?_some hf
    simp only [inQ, Bool.and_eq_true, beq_iff_eq, Bool.not_eq_true', beq_eq_false_iff_ne, toL_inj] at hq
    exact ⟨r, hr, rfl, hq.1, hq.2.1, hq.2.2, at_mem h hr⟩
theorem downT_of {L : List RN} {last : Int} (h : GoodL L last) (a : Int) (s : ByteArray) :
    downT (trOf L last) a s = if Sp.check s.data.toList = 0 then (if inR L a s = 0 then (0, 5) else (inR L a s, 0)) else (0, Sp.check s.data.toList) := by
  have h1 := inR_le h a s
  unfold downT
  rw [node_of h a]
  simp only [find_ents h a s, decide_eq_true_eq]
  by_cases h0 : inR L a s = 0
  · rw [if_neg (show ¬ 0 < inR L a s by omega), if_pos h0]
  · rw [if_pos (show 0 < inR L a s by omega), if_neg h0]
end Go.Proofs.Ytjfigngmpagloaa.Tw

namespace Go.Proofs.Ytjfigngmpagloaa.Tw
open Go Go.RowKit Go.Shelf Go.Proofs Go.Proofs.Ytjfigngmpagloaa Go.Proofs.YtjfigngmpagloaaW.PrintWords Go.Proofs.Ytjfigngmpagloaa.Ext Go.Proofs.Ytjfigngmpagloaa.X Go.Proofs.Ytjfigngmpagloaa.Pu
set_option linter.unusedVariables false
set_option linter.unusedSimpArgs false
theorem rt_ext : ∀ {a b : List En}, Rt a → Rt b → (∀ e, e ∈ a ↔ e ∈ b) → a = b
  | [], [], _, _, _ => rfl
  | [], y :: b, _, _, h => absurd ((h y).2 List.mem_cons_self) (by simp)
  | x :: a, [], _, _, h => absurd ((h x).1 List.mem_cons_self) (by simp)
  | x :: a, y :: b, ha, hb, h => by
    obtain ⟨a1, a2⟩ := List.pairwise_cons.1 ha
    obtain ⟨b1, b2⟩ := List.pairwise_cons.1 hb
    have hxy : x = y := by
      rcases List.mem_cons.1 ((h x).1 List.mem_cons_self) with e | e
      · exact e
      · rcases List.mem_cons.1 ((h y).2 List.mem_cons_self) with e2 | e2
        · exact e2.symm
        · have h1 := b1 x e
          have h2 := a1 y e2
          rw [bl_asym h1] at h2
          cases h2
    subst hxy
    rw [rt_ext a2 b2 (fun e => ⟨fun he => ?_, fun he => ?_⟩)]
    · rcases List.mem_cons.1 ((h e).1 (List.mem_cons_of_mem _ he)) with rfl | h3
      · have := a1 e he; rw [bl_irr] at this; cases this
      · exact h3
    · rcases List.mem_cons.1 ((h e).2 (List.mem_cons_of_mem _ he)) with rfl | h3
      · have := b1 e he; rw [bl_irr] at this; cases this
      · exact h3
theorem cutEn_mem {l : List En} {s : ByteArray} {e : En} : e ∈ cutEn l s ↔ e ∈ l ∧ e.f0 ≠ s := by
  unfold cutEn
  rw [List.mem_filter]
  simp [toL_inj]
theorem cutEn_rt {l : List En} (h : Rt l) (s : ByteArray) : Rt (cutEn l s) := h.filter _
theorem cutEn_len (l : List En) (s : ByteArray) : (cutEn l s).length ≤ l.length := List.length_filter_le _ _
theorem findE_some {l : List En} {s : ByteArray} {e : En} (he : e ∈ l) (hs : e.f0 = s) : (findE l s).2 = true := by
  unfold findE
  cases hq : l.find? (fun e => e.f0.toList == s.toList) with
  | none => exact absurd (List.find?_eq_none.1 hq e he) (by simp [hs])
  | some q => rfl
theorem findE_nil' {l : List En} {s : ByteArray} (h : ∀ e ∈ l, e.f0 ≠ s) : (findE l s).2 = false := by
  unfold findE
  cases hq : l.find? (fun e => e.f0.toList == s.toList) with
  | none => rfl
  | some q => exact absurd (toL_inj.1 (by simpa using List.find?_some hq)) (h q (List.mem_of_find?_eq_some hq))
theorem Tr.ext {T U : Tr} (h1 : ∀ n, T.get n = U.get n) (h2 : T.cnt = U.cnt) (h3 : T.last = U.last) : T = U := by
  obtain ⟨g, c, l⟩ := T
  obtain ⟨g', c', l'⟩ := U
  simp only [Tr.mk.injEq]
  exact ⟨funext h1, h2, h3⟩
def cutL (L : List RN) (n : Int) : List RN := L.filter (fun r => !(r.f0 == n))
def withL (L : List RN) (x : RN) : List RN := L.map (fun r => if r.f0 = x.f0 then x else r)
theorem cutL_mem {L : List RN} {n : Int} {r : RN} : r ∈ cutL L n ↔ r ∈ L ∧ r.f0 ≠ n := by unfold cutL; rw [List.mem_filter]; simp
theorem cutL_find (L : List RN) (n m : Int) : (cutL L n).find? (fun r => r.f0 == m) = if m = n then none else L.find? (fun r => r.f0 == m) := by
  induction L with
  | nil => simp [cutL]
  | cons a L ih =>
    unfold cutL at ih ⊢
    rw [List.filter_cons]
    by_cases h : a.f0 = n
    · rw [show (!(a.f0 == n)) = false by simp [h], if_neg (by simp), ih]
      by_cases e : m = n
      · rw [if_pos e, if_pos e]
      · rw [if_neg e, if_neg e, List.find?_cons, show (a.f0 == m) = false by rw [h]; simpa using fun e2 => e e2.symm]
    · rw [show (!(a.f0 == n)) = true by simp [h], if_pos rfl, List.find?_cons, List.find?_cons, ih]
      by_cases e2 : a.f0 = m
      · have hmn : ¬ m = n := by rw [← e2]; exact h
        rw [show (a.f0 == m) = true by simp [e2]]
        simp only [hmn, if_false]
      · rw [show (a.f0 == m) = false by simp [e2]]
theorem cutL_at {L : List RN} {n m : Int} (h : m ≠ n) : atR (cutL L n) m = atR L m := by unfold atR; rw [cutL_find, if_neg h]
theorem cutL_len {L : List RN} {n : Int} (hu : L.Pairwise (fun a b => a.f0 ≠ b.f0)) (hn : ∃ r ∈ L, r.f0 = n) : (cutL L n).length + 1 = L.length := by
  induction L with
  | nil => obtain ⟨r, hr, _⟩ := hn; cases hr
  | cons a L ih =>
    obtain ⟨h1, h2⟩ := List.pairwise_cons.1 hu
    unfold cutL at ih ⊢
    rw [List.filter_cons]
    by_cases h : a.f0 = n
    · rw [show (!(a.f0 == n)) = false by simp [h], if_neg (by simp)]
      have : L.filter (fun r => !(r.f0 == n)) = L := by
        rw [List.filter_eq_self]
        intro r hr
        have := h1 r hr
        rw [h] at this
        simpa using fun e => this e.symm
      rw [this, List.length_cons]
    · rw [show (!(a.f0 == n)) = true by simp [h], if_pos rfl, List.length_cons, List.length_cons]
      obtain ⟨r, hr, hrn⟩ := hn
      rcases List.mem_cons.1 hr with rfl | hr
      · exact absurd hrn h
      · rw [ih h2 ⟨r, hr, hrn⟩]
theorem withL_f0 (x r : RN) : (if r.f0 = x.f0 then x else r).f0 = r.f0 := by
  split
  · rename_i h; exact h.symm
  · rfl
theorem withL_find (L : List RN) (x : RN) (m : Int) : (withL L x).find? (fun r => r.f0 == m) = (L.find? (fun r => r.f0 == m)).map (fun r => if r.f0 = x.f0 then x else r) := by
  unfold withL
  rw [List.find?_map]
  congr 1
  congr 1
  funext r
  show ((if r.f0 = x.f0 then x else r).f0 == m) = _
  rw [withL_f0]
theorem withL_mem {L : List RN} {x r : RN} (h : r ∈ withL L x) : r = x ∨ (r ∈ L ∧ r.f0 ≠ x.f0) := by
  unfold withL at h
  obtain ⟨q, hq, rfl⟩ := List.mem_map.1 h
  by_cases e : q.f0 = x.f0
  · rw [if_pos e]; exact .inl rfl
  · rw [if_neg e]; exact .inr ⟨hq, e⟩
theorem withL_mem1 {L : List RN} {x r : RN} (h : r ∈ L) (hn : r.f0 ≠ x.f0) : r ∈ withL L x := List.mem_map.2 ⟨r, h, by rw [if_neg hn]⟩
theorem withL_mem2 {L : List RN} {x r : RN} (h : r ∈ L) (hn : r.f0 = x.f0) : x ∈ withL L x := List.mem_map.2 ⟨r, h, by rw [if_pos hn]⟩
theorem withL_len (L : List RN) (x : RN) : (withL L x).length = L.length := List.length_map _
theorem withL_at1 {L : List RN} {x : RN} (h : ∃ r ∈ L, r.f0 = x.f0) : atR (withL L x) x.f0 = x := by
  unfold atR
  rw [withL_find]
  obtain ⟨r, hr, hrx⟩ := h
  cases hf : L.find? (fun r => r.f0 == x.f0) with
  | none => exact absurd (List.find?_eq_none.1 hf r hr) (by simp [hrx])
  | some q =>
    have : q.f0 = x.f0 := by simpa using List.find?_some hf
    simp [this]
theorem withL_at2 {L : List RN} {x : RN} {m : Int} (h : m ≠ x.f0) : atR (withL L x) m = atR L m := by
  unfold atR
  rw [withL_find]
  cases hf : L.find? (fun r => r.f0 == m) with
  | none => rfl
  | some q =>
    have : q.f0 = m := by simpa using List.find?_some hf
    simp [this, h]
theorem withL_kind {L : List RN} {x : RN} (hk : (atR L x.f0).f3 = x.f3) (h : ∃ r ∈ L, r.f0 = x.f0) (m : Int) : (atR (withL L x) m).f3 = (atR L m).f3 := by
  by_cases e : m = x.f0
  · subst e; rw [withL_at1 h, hk]
  · rw [withL_at2 e]
theorem GoodL.root_at {L : List RN} {last : Int} (h : GoodL L last) : (atR L 1).f3 = 1 ∧ (atR L 1).f1 = 1 := by
  obtain ⟨r, hr, h1, h2, h3⟩ := h.root
  have := at_mem h hr
  rw [h1] at this
  rw [this]
  exact ⟨h3, h2⟩
theorem GoodL.cut {L : List RN} {last : Int} (h : GoodL L last) {n : Int} (hn1 : n ≠ 1) (hne : entsOf L n = []) : GoodL (cutL L n) last := by
  refine ⟨Nat.le_trans (List.length_filter_le _ _) h.len, fun r hr => h.num r (cutL_mem.1 hr).1, h.uniq.filter _, h.names.filter _, fun r hr => h.data r (cutL_mem.1 hr).1, fun r hr => ?_, ?_⟩
  · obtain ⟨h1, h2⟩ := cutL_mem.1 hr
    have hu := h.up r h1
    rw [cutL_at ?_]
    · exact hu
    · intro e
      by_cases h3 : r.f0 = 1
      · have h4 := at_mem h h1
        rw [h3] at h4
        have := h.root_at.2
        rw [h4, e] at this
        exact hn1 this
      · have hm : (⟨r.f2, r.f0⟩ : En) ∈ entsOf L n := mem_ents.2 ⟨r, h1, isIn_iff.2 ⟨e, h3⟩, rfl⟩
        rw [hne] at hm
        cases hm
  · obtain ⟨r, hr, h1, h2⟩ := h.root
    exact ⟨r, cutL_mem.2 ⟨hr, by rw [h1]; exact fun e => hn1 e.symm⟩, h1, h2⟩
theorem rank_norm {L : List RN} {last : Int} (h : GoodL L last) {d : Int → Nat} (hd : ∀ r ∈ L, r.f0 ≠ 1 → d r.f1 < d r.f0) :
    ∃ d : Int → Nat, (∀ n, d n ≤ L.length) ∧ ∀ r ∈ L, r.f0 ≠ 1 → d r.f1 < d r.f0 := by
  refine ⟨fun n => (L.filter (fun r => decide (d r.f0 < d n))).length, fun n => List.length_filter_le _ _, fun r hr h1 => ?_⟩
  obtain ⟨q, hq, hqn, _⟩ := at_kind (L := L) (n := r.f1) (by rw [h.up r hr]; decide)
  have hlt := hd r hr h1
  have key : ∀ M : List RN, (M.filter (fun x => decide (d x.f0 < d r.f1))).length ≤ (M.filter (fun x => decide (d x.f0 < d r.f0))).length ∧ (q ∈ M → (M.filter (fun x => decide (d x.f0 < d r.f1))).length < (M.filter (fun x => decide (d x.f0 < d r.f0))).length) := by
    intro M
    induction M with
    | nil => exact ⟨Nat.le_refl _, fun h => by cases h⟩
    | cons a M ih =>
      obtain ⟨i1, i2⟩ := ih
      rw [List.filter_cons, List.filter_cons]
      by_cases c1 : d a.f0 < d r.f1
      · have c2 : d a.f0 < d r.f0 := Nat.lt_trans c1 hlt
        rw [decide_eq_true c1, decide_eq_true c2, if_pos rfl, if_pos rfl, List.length_cons, List.length_cons]
        refine ⟨by omega, fun hm => ?_⟩
        rcases List.mem_cons.1 hm with rfl | hm
        · rw [hqn] at c1; omega
        · have := i2 hm; omega
      · rw [decide_eq_false c1, if_neg (by simp)]
        by_cases c2 : d a.f0 < d r.f0
        · rw [decide_eq_true c2, if_pos rfl, List.length_cons]
          exact ⟨by omega, fun _ => by omega⟩
        · rw [decide_eq_false c2, if_neg (by simp)]
          refine ⟨i1, fun hm => ?_⟩
          rcases List.mem_cons.1 hm with rfl | hm
          · rw [hqn] at c2; exact absurd hlt c2
          · exact i2 hm
  exact (key L).2 hq
theorem GoodM.cut {L : List RN} {last : Int} (h : GoodL L last) (hM : GoodM L) {n : Int} (hn1 : n ≠ 1) (hne : entsOf L n = []) : GoodM (cutL L n) := by
  obtain ⟨d, -, hd⟩ := hM.rank
  exact ⟨fun r hr => hM.nm r (cutL_mem.1 hr).1, fun r hr => hM.link r (cutL_mem.1 hr).1, fun r hr => hM.kind r (cutL_mem.1 hr).1, fun r hr => hM.dirs r (cutL_mem.1 hr).1, rank_norm (h.cut hn1 hne) (fun r hr => hd r (cutL_mem.1 hr).1)⟩
theorem GoodL.with {L : List RN} {last : Int} (h : GoodL L last) {x : RN} (hx1 : x.f0 ≠ 1) (hmem : ∃ r ∈ L, r.f0 = x.f0) (hk : (atR L x.f0).f3 = x.f3) (hdata : x.f4.size ≤ 65536) (hup : (atR L x.f1).f3 = 1)
    (hnm : ∀ r ∈ L, r.f0 ≠ x.f0 → r.f1 = x.f1 → r.f0 ≠ 1 → r.f2 ≠ x.f2) : GoodL (withL L x) last := by
  refine ⟨by rw [withL_len]; exact h.len, fun r hr => ?_, ?_, ?_, fun r hr => ?_, fun r hr => ?_, ?_⟩
  · rcases withL_mem hr with rfl | hr
    · obtain ⟨q, hq, hqn⟩ := hmem
      rw [← hqn]
      exact h.num q hq
    · exact h.num r hr.1
  · unfold withL
    rw [List.pairwise_map]
    refine h.uniq.imp (fun {a b} hab => ?_)
    rw [withL_f0, withL_f0]
    exact hab
  · unfold withL
    rw [List.pairwise_map]
    refine (h.uniq.and h.names).imp_of_mem (fun {a b} ha hb hab => ?_)
    intro h1 h2 h3
    rw [withL_f0] at h2 h3
    by_cases ea : a.f0 = x.f0
    · have eb : ¬ b.f0 = x.f0 := fun e => hab.1 (ea.trans e.symm)
      rw [if_pos ea, if_neg eb] at h1 ⊢
      exact (hnm b hb eb h1.symm h3).symm
    · by_cases eb : b.f0 = x.f0
      · rw [if_neg ea, if_pos eb] at h1 ⊢
        exact hnm a ha ea h1 h2
      · rw [if_neg ea, if_neg eb] at h1 ⊢
        exact hab.2 h1 h2 h3
  · rcases withL_mem hr with rfl | hr
    · exact hdata
    · exact h.data r hr.1
  · rw [withL_kind hk hmem]
    rcases withL_mem hr with rfl | hr
    · exact hup
    · exact h.up r hr.1
  · obtain ⟨r, hr, h1, h2⟩ := h.root
    exact ⟨r, withL_mem1 hr (by rw [h1]; exact fun e => hx1 e.symm), h1, h2⟩
theorem GoodM.with {L : List RN} {last : Int} {x : RN} (hG : GoodL (withL L x) last) (hM : GoodM L) (hn : Sp.check x.f2.data.toList = 0) (hl : x.f3 = 3 → 0 < x.f4.size) (hk : 1 ≤ x.f3 ∧ x.f3 ≤ 3) (hd : x.f3 = 1 → x.f4.size = 0)
    (hr : ∃ d : Int → Nat, ∀ r ∈ withL L x, r.f0 ≠ 1 → d r.f1 < d r.f0) : GoodM (withL L x) := by
  obtain ⟨d, hd'⟩ := hr
  refine ⟨fun r hr h1 => ?_, fun r hr h1 => ?_, fun r hr => ?_, fun r hr h1 => ?_, rank_norm hG hd'⟩
  · rcases withL_mem hr with rfl | hr
    · exact hn
    · exact hM.nm r hr.1 h1
  · rcases withL_mem hr with rfl | hr
    · exact hl h1
    · exact hM.link r hr.1 h1
  · rcases withL_mem hr with rfl | hr
    · exact hk
    · exact hM.kind r hr.1
  · rcases withL_mem hr with rfl | hr
    · exact hd h1
    · exact hM.dirs r hr.1 h1
end Go.Proofs.Ytjfigngmpagloaa.Tw

namespace Go.Proofs.Ytjfigngmpagloaa.Tw
open Go Go.RowKit Go.Shelf Go.Proofs Go.Proofs.Ytjfigngmpagloaa Go.Proofs.YtjfigngmpagloaaW.PrintWords Go.Proofs.Ytjfigngmpagloaa.Ext Go.Proofs.Ytjfigngmpagloaa.X Go.Proofs.Ytjfigngmpagloaa.Pu
set_option linter.unusedVariables false
set_option linter.unusedSimpArgs false
def cutRE (L : List RN) (d : Int) (s : ByteArray) : Int :=
  if dirE (atR L d).f3 ≠ 0 then dirE (atR L d).f3 else if inR L d s = 0 then 5 else if 0 < (entsOf L (inR L d s)).length then 9 else 0
theorem in_dec {L : List RN} {last : Int} (h : GoodL L last) (d : Int) (s : ByteArray) : (decide (0 < inR L d s) = false) = (inR L d s = 0) := by
  have := (inR_le h d s).1
  rw [decide_eq_false_iff_not]
  exact propext ⟨fun e => by omega, fun e => by omega⟩
theorem cutE_eq {L : List RN} {last : Int} (h : GoodL L last) (d : Int) (s : ByteArray) : cutE (trOf L last) d s = cutRE L d s := by
  unfold cutE cutRE
  rw [node_of h d]
  simp only [find_ents h d s]
  rw [node_of h (inR L d s)]
  simp only [in_dec h]
theorem cutRE_zero {L : List RN} {d : Int} {s : ByteArray} (h : cutRE L d s = 0) : (atR L d).f3 = 1 ∧ inR L d s ≠ 0 ∧ entsOf L (inR L d s) = [] := by
  unfold cutRE at h
  split at h
  · rename_i g; exact absurd h g
  · rename_i g1
    split at h
    · cases h
    · rename_i g2
      split at h
      · cases h
      · rename_i g3
        exact ⟨dirE_zero (Decidable.byContradiction fun e => g1 e), g2, List.eq_nil_of_length_eq_zero (by omega)⟩
theorem find_of {L : List RN} {last : Int} (h : GoodL L last) {r : RN} (hr : r ∈ L) : L.find? (fun q => q.f0 == r.f0) = some r := find_num h.uniq hr
theorem ents_cut {L : List RN} {last : Int} (h : GoodL L last) {r : RN} (hr : r ∈ L) (h1 : r.f0 ≠ 1) (hne : entsOf L r.f0 = []) (m : Int) : entsOf (cutL L r.f0) m = if m = r.f1 then cutEn (entsOf L r.f1) r.f2 else entsOf L m := by
  have hrt := (h.cut h1 hne).rt m
  by_cases e : m = r.f1
  · subst e
    rw [if_pos rfl]
    refine rt_ext hrt (cutEn_rt (h.rt _) _) (fun x => ?_)
    rw [cutEn_mem, mem_ents, mem_ents]
    constructor
    · rintro ⟨q, hq, hi, rfl⟩
      obtain ⟨q1, q2⟩ := cutL_mem.1 hq
      refine ⟨⟨q, q1, hi, rfl⟩, fun e => ?_⟩
      obtain ⟨i1, i2⟩ := isIn_iff.1 hi
      have hin := find_ents h r.f1 r.f2
      have hA : (⟨q.f2, q.f0⟩ : En) ∈ entsOf L r.f1 := mem_ents.2 ⟨q, q1, hi, rfl⟩
      have hB : (⟨r.f2, r.f0⟩ : En) ∈ entsOf L r.f1 := mem_ents.2 ⟨r, hr, isIn_iff.2 ⟨rfl, h1⟩, rfl⟩
      have hpw := h.names
      have := List.pairwise_iff_getElem.1 hpw
      obtain ⟨i, hi', rfl⟩ := List.mem_iff_getElem.1 q1
      obtain ⟨j, hj, rfl⟩ := List.mem_iff_getElem.1 hr
      rcases Nat.lt_trichotomy i j with c | c | c
      · exact this i j hi' hj c i1 i2 h1 e
      · subst c; exact q2 rfl
      · exact this j i hj hi' c i1.symm h1 i2 e.symm
    · rintro ⟨⟨q, q1, hi, rfl⟩, hn⟩
      refine ⟨q, cutL_mem.2 ⟨q1, fun e => ?_⟩, hi, rfl⟩
      have e1 := find_of h q1
      have e2 := find_of h hr
      rw [e] at e1
      rw [e1] at e2
      have := Option.some.inj e2
      rw [this] at hn
      exact hn rfl
  · rw [if_neg e]
    refine rt_ext hrt (h.rt _) (fun x => ?_)
    rw [mem_ents, mem_ents]
    constructor
    · rintro ⟨q, hq, hi, rfl⟩
      exact ⟨q, (cutL_mem.1 hq).1, hi, rfl⟩
    · rintro ⟨q, q1, hi, rfl⟩
      refine ⟨q, cutL_mem.2 ⟨q1, fun e2 => ?_⟩, hi, rfl⟩
      have e1 := find_of h q1
      have e3 := find_of h hr
      rw [e2] at e1
      rw [e1] at e3
      have := Option.some.inj e3
      rw [this] at hi
      exact e (isIn_iff.1 hi).1.symm
theorem tr_get {L : List RN} {last : Int} (m : Int) : (trOf L last).get m = (L.find? (fun r => r.f0 == m)).map (ndOf L) := rfl
theorem tr_get_live {L : List RN} {last : Int} (h : GoodL L last) {m : Int} (hk : (atR L m).f3 ≠ 0) : (trOf L last).get m = some ((trOf L last).node m) := by
  unfold Tr.node
  obtain ⟨q, hq, hqm, _⟩ := at_kind hk
  have := find_of h hq
  rw [hqm] at this
  rw [tr_get, this]
  rfl
theorem live_ents {L : List RN} {last : Int} (h : GoodL L last) {r : RN} (hr : r ∈ L) (h1 : r.f0 ≠ 1) : entsOf L r.f1 ≠ [] := by
  intro e
  have hm : (⟨r.f2, r.f0⟩ : En) ∈ entsOf L r.f1 := mem_ents.2 ⟨r, hr, isIn_iff.2 ⟨rfl, h1⟩, rfl⟩
  rw [e] at hm
  cases hm
theorem cutT_eq {L : List RN} {last : Int} (h : GoodL L last) {d : Int} {s : ByteArray} (he : cutRE L d s = 0) : cutT (trOf L last) d s = trOf (cutL L (inR L d s)) last := by
  obtain ⟨z1, z2, z3⟩ := cutRE_zero he
  obtain ⟨r, hr, hrn, hrd, hrs, hr1, _⟩ := inR_mem h z2
  unfold cutT
  rw [node_of h d]
  simp only [find_ents h d s]
  rw [← hrn] at z3 ⊢
  subst hrd hrs
  have hdn : r.f1 ≠ r.f0 := fun e => live_ents h hr hr1 (by rw [e]; exact z3)
  have hlive : (trOf L last).get r.f1 = some ((trOf L last).node r.f1) := tr_get_live h (by rw [z1]; decide)
  have hgr : (trOf L last).get r.f0 = some (ndOf L r) := by rw [tr_get, find_of h hr]; rfl
  have hents := ents_cut h hr hr1 z3
  refine Tr.ext (fun m => ?_) ?_ rfl
  · show (if m = r.f1 then some { ((trOf L last).del r.f0).node r.f1 with ents := cutEn (entsOf L r.f1) r.f2 } else (if m = r.f0 then none else (trOf L last).get m)) = _
    rw [node_del_ne hdn, tr_get (L := cutL L r.f0), cutL_find]
    by_cases e : m = r.f1
    · subst e
      rw [if_pos rfl, if_neg hdn, node_of h]
      obtain ⟨q, hq, hqm, hqa⟩ := at_kind (L := L) (n := r.f1) (by rw [z1]; decide)
      have := find_of h hq
      rw [hqm] at this
      rw [this, hqa]
      simp only [Option.map_some, ndOf, hqm, hents, if_true]
    · rw [if_neg e]
      by_cases e2 : m = r.f0
      · rw [if_pos e2, if_pos e2]; rfl
      · rw [if_neg e2, if_neg e2, tr_get]
        cases hf : L.find? (fun r => r.f0 == m) with
        | none => rfl
        | some q =>
          have hqm : q.f0 = m := by simpa using List.find?_some hf
          simp only [Option.map_some, ndOf, hqm, hents, if_neg e]
  · have h1 : (((trOf L last).del r.f0).get r.f1).isSome = true := by
      show (if r.f1 = r.f0 then none else (trOf L last).get r.f1).isSome = true
      rw [if_neg hdn, hlive]; rfl
    show (if (((trOf L last).del r.f0).get r.f1).isSome then ((trOf L last).del r.f0).cnt else ((trOf L last).del r.f0).cnt + 1) = (cutL L r.f0).length
    rw [h1, if_pos rfl]
    show (if ((trOf L last).get r.f0).isSome then L.length - 1 else L.length) = _
    rw [hgr, Option.isSome_some, if_pos rfl]
    have := cutL_len h.uniq ⟨r, hr, rfl⟩
    omega
theorem cut_good {L : List RN} {last : Int} (h : GoodL L last) (hM : GoodM L) {d : Int} {s : ByteArray} (he : cutRE L d s = 0) : GoodL (cutL L (inR L d s)) last ∧ GoodM (cutL L (inR L d s)) := by
  obtain ⟨z1, z2, z3⟩ := cutRE_zero he
  obtain ⟨r, hr, hrn, hrd, hrs, hr1, _⟩ := inR_mem h z2
  rw [hrn] at hr1
  exact ⟨h.cut hr1 z3, GoodM.cut h hM hr1 z3⟩
theorem ents_with {L : List RN} {x : RN} (hm : ∃ r ∈ L, r.f0 = x.f0) (m : Int) (e : En) : e ∈ entsOf (withL L x) m ↔ (isIn m x = true ∧ e = ⟨x.f2, x.f0⟩) ∨ ∃ r ∈ L, r.f0 ≠ x.f0 ∧ isIn m r = true ∧ e = ⟨r.f2, r.f0⟩ := by
  rw [mem_ents]
  constructor
  · rintro ⟨q, hq, hi, rfl⟩
    rcases withL_mem hq with rfl | hq
    · exact .inl ⟨hi, rfl⟩
    · exact .inr ⟨q, hq.1, hq.2, hi, rfl⟩
  · rintro (⟨hi, rfl⟩ | ⟨q, hq, hn, hi, rfl⟩)
    · obtain ⟨r, hr, hrx⟩ := hm
      exact ⟨x, withL_mem2 hr hrx, hi, rfl⟩
    · exact ⟨q, withL_mem1 hq hn, hi, rfl⟩
end Go.Proofs.Ytjfigngmpagloaa.Tw

namespace Go.Proofs.Ytjfigngmpagloaa.Tw
open Go Go.RowKit Go.Shelf Go.Proofs Go.Proofs.Ytjfigngmpagloaa Go.Proofs.YtjfigngmpagloaaW.PrintWords Go.Proofs.Ytjfigngmpagloaa.Ext Go.Proofs.Ytjfigngmpagloaa.X Go.Proofs.Ytjfigngmpagloaa.Pu
set_option linter.unusedVariables false
set_option linter.unusedSimpArgs false
def roomRE (L : List RN) (n td : Int) (z : ByteArray) : Bool × Int :=
  if inR L td z = 0 then (false, 0) else if inR L td z = n then (true, 0) else
    if (atR L (inR L td z)).f3 = 1 ∧ (atR L n).f3 ≠ 1 then (false, 8) else
      if (atR L n).f3 = 1 ∧ (atR L (inR L td z)).f3 ≠ 1 then (false, 7) else (false, cutRE L td z)
theorem roomE_eq {L : List RN} {last : Int} (h : GoodL L last) (n td : Int) (z : ByteArray) : roomE (trOf L last) n td z = roomRE L n td z := by
  unfold roomE roomRE
  rw [node_of h td, cutE_eq h, node_of h n]
  simp only [find_ents h td z]
  rw [node_of h (inR L td z)]
  simp only [in_dec h]
def movRE (L : List RN) (fr : Int) (s : ByteArray) (td : Int) (z : ByteArray) (ins : Bool) : Int :=
  if dirE (atR L fr).f3 ≠ 0 then dirE (atR L fr).f3 else if dirE (atR L td).f3 ≠ 0 then dirE (atR L td).f3 else
    if inR L fr s = 0 then 5 else if Sp.check z.data.toList ≠ 0 then Sp.check z.data.toList else
      if (atR L (inR L fr s)).f3 = 1 ∧ ins = true then 14 else
        if (roomRE L (inR L fr s) td z).1 = true then 0 else (roomRE L (inR L fr s) td z).2
theorem movE_eq {L : List RN} {last : Int} (h : GoodL L last) (fr : Int) (s : ByteArray) (td : Int) (z : ByteArray) (ins : Bool) : movE (trOf L last) fr s td z ins = movRE L fr s td z ins := by
  unfold movE movRE
  rw [node_of h fr, node_of h td]
  simp only [find_ents h fr s]
  rw [node_of h (inR L fr s), roomE_eq h]
  simp only [in_dec h]
theorem movRE_zero {L : List RN} {fr : Int} {s : ByteArray} {td : Int} {z : ByteArray} {ins : Bool} (h : movRE L fr s td z ins = 0) :
    (atR L fr).f3 = 1 ∧ (atR L td).f3 = 1 ∧ inR L fr s ≠ 0 ∧ Sp.check z.data.toList = 0 ∧ ((atR L (inR L fr s)).f3 = 1 → ins = false) ∧ ((roomRE L (inR L fr s) td z).1 = true ∨ (roomRE L (inR L fr s) td z).2 = 0) := by
  unfold movRE at h
  split at h
  · rename_i g; exact absurd h g
  · rename_i g1
    split at h
    · rename_i g; exact absurd h g
    · rename_i g2
      split at h
      · cases h
      · rename_i g3
        split at h
        · rename_i g; exact absurd h g
        · rename_i g4
          split at h
          · cases h
          · rename_i g5
            refine ⟨dirE_zero (Decidable.byContradiction fun e => g1 e), dirE_zero (Decidable.byContradiction fun e => g2 e), g3, Decidable.byContradiction fun e => g4 e, fun hk => ?_, ?_⟩
            · cases ins with
              | true => exact absurd ⟨hk, rfl⟩ g5
              | false => rfl
            · split at h
              · exact .inl (by assumption)
              · exact .inr h
theorem ins_ex {L : List RN} {last : Int} (h : GoodL L last) (hM : GoodM L) (n : Int) : ∀ m, (atR L m).f3 ≠ 0 → ∃ k r, insF (trOf L last) k m n = some r := by
  obtain ⟨d, -, hd⟩ := hM.rank
  have key : ∀ (q : Nat) (m : Int), d m < q → (atR L m).f3 ≠ 0 → ∃ k r, insF (trOf L last) k m n = some r := by
    intro q
    induction q with
    | zero => intro m hq; omega
    | succ q ih =>
      intro m hq hm
      by_cases e1 : m = n
      · exact ⟨1, true, by simp [insF, e1]⟩
      · by_cases e2 : m = 1
        · exact ⟨1, false, by unfold insF; rw [if_neg e1, if_pos e2]⟩
        · obtain ⟨r, hr, hrm, hra⟩ := at_kind hm
          have hlt := hd r hr (by rw [hrm]; exact e2)
          rw [hrm] at hlt
          obtain ⟨k, b, hk⟩ := ih r.f1 (by omega) (by rw [h.up r hr]; decide)
          refine ⟨k + 1, b, ?_⟩
          unfold insF
          rw [if_neg e1, if_neg e2, node_of h, hra]
          exact hk
  exact fun m hm => key (d m + 1) m (by omega) hm
theorem insF_mono {T : Tr} : ∀ (k : Nat) (m n : Int) (r : Bool), insF T k m n = some r → insF T (k + 1) m n = some r
  | 0, m, n, r, h => by simp [insF] at h
  | k + 1, m, n, r, h => by
    unfold insF at h ⊢
    by_cases e1 : m = n
    · rw [if_pos e1] at h ⊢; exact h
    · by_cases e2 : m = 1
      · rw [if_neg e1, if_pos e2] at h ⊢; exact h
      · rw [if_neg e1, if_neg e2] at h ⊢
        exact insF_mono k _ n r h
theorem insF_le {T : Tr} {k k' : Nat} {m n : Int} {r : Bool} (h : insF T k m n = some r) (hk : k ≤ k') : insF T k' m n = some r := by
  induction hk with
  | refl => exact h
  | step _ ih => exact insF_mono _ _ _ _ ih
theorem insF_det {T : Tr} {k k' : Nat} {m n : Int} {r r' : Bool} (h : insF T k m n = some r) (h' : insF T k' m n = some r') : r = r' := by
  have h1 := insF_le h (Nat.le_max_left k k')
  have h2 := insF_le h' (Nat.le_max_right k k')
  rw [h1] at h2
  exact Option.some.inj h2
theorem mov_rank {L : List RN} {last : Int} (h : GoodL L last) (hM : GoodM L) {n td : Int} {x : RN} {M : List RN} (hx : x.f0 = n) (hxd : x.f1 = td) (hn1 : n ≠ 1) (hM1 : ∀ r ∈ M, r ∈ L) (hsub : ∀ k, insF (trOf L last) k td n ≠ some true) :
    ∃ d : Int → Nat, ∀ r ∈ withL M x, r.f0 ≠ 1 → d r.f1 < d r.f0 := by
  obtain ⟨d, -, hd⟩ := hM.rank
  let sub : Int → Prop := fun m => ∃ k, insF (trOf L last) k m n = some true
  classical
  have hnn : sub n := ⟨1, by simp [insF]⟩
  have hstep : ∀ r ∈ L, r.f0 ≠ 1 → r.f0 ≠ n → (sub r.f0 ↔ sub r.f1) := by
    intro r hr h1 h2
    have hup : ((trOf L last).node r.f0).up = r.f1 := by rw [node_of h, at_mem h hr]
    constructor
    · rintro ⟨k, hk⟩
      cases k with
      | zero => simp [insF] at hk
      | succ k =>
        unfold insF at hk
        rw [if_neg h2, if_neg h1, hup] at hk
        exact ⟨k, hk⟩
    · rintro ⟨k, hk⟩
      refine ⟨k + 1, ?_⟩
      unfold insF
      rw [if_neg h2, if_neg h1, hup]
      exact hk
  refine ⟨fun m => if sub m then d m + d td + 1 else d m, fun r hr h1 => ?_⟩
  rcases withL_mem hr with rfl | ⟨hr, hne⟩
  · have ht : ¬ sub td := fun ⟨k, hk⟩ => hsub k hk
    simp only [hx, hxd]
    rw [if_pos hnn, if_neg ht]
    omega
  · rw [hx] at hne
    have hlt := hd r (hM1 r hr) h1
    have hs := hstep r (hM1 r hr) h1 hne
    by_cases e : sub r.f0
    · simp only [if_pos e, if_pos (hs.1 e)]
      omega
    · simp only [if_neg e, if_neg (fun q => e (hs.2 q))]
      exact hlt
theorem up_ne {L : List RN} {last : Int} (hM : GoodM L) {r : RN} (hr : r ∈ L) (h1 : r.f0 ≠ 1) : r.f1 ≠ r.f0 := by
  obtain ⟨d, -, hd⟩ := hM.rank
  intro e
  have := hd r hr h1
  rw [e] at this
  omega
def movX (L : List RN) (n td : Int) (z : ByteArray) : RN := { atR L n with f1 := td, f2 := z }
theorem mov_core {L : List RN} {last : Int} (h : GoodL L last) (hM : GoodM L) {r : RN} (hr : r ∈ L) (h1 : r.f0 ≠ 1) {td : Int} (htd : (atR L td).f3 = 1) (hnt : td ≠ r.f0) {z : ByteArray} (hz : Sp.check z.data.toList = 0) (hfree : inR L td z = 0)
    (hrk : ∃ d : Int → Nat, ∀ q ∈ withL L (movX L r.f0 td z), q.f0 ≠ 1 → d q.f1 < d q.f0) (T2 T3 : Tr) (e2 : T2 = mvB (trOf L last) r.f0 td) (e3 : T3 = mvC T2 r.f1 r.f2) :
    GoodL (withL L (movX L r.f0 td z)) last ∧ GoodM (withL L (movX L r.f0 td z)) ∧ mvD T3 td r.f0 z = trOf (withL L (movX L r.f0 td z)) last ∧
      (T2.cnt = L.length ∧ T3.cnt = L.length) ∧ (T2.node r.f1).ents = entsOf L r.f1 ∧ (T3.node td).ents = (if td = r.f1 then cutEn (entsOf L r.f1) r.f2 else entsOf L td) ∧ (findE (T3.node td).ents z).2 = false := by
  have hra := at_mem h hr
  have hx : movX L r.f0 td z = ⟨r.f0, td, z, r.f3, r.f4⟩ := by unfold movX; rw [hra]
  rw [hx] at hrk ⊢
  have hmem : ∃ q ∈ L, q.f0 = (⟨r.f0, td, z, r.f3, r.f4⟩ : RN).f0 := ⟨r, hr, rfl⟩
  have hno := inR_none h (d := td) (s := z) (by rw [hfree]; decide)
  have hG : GoodL (withL L ⟨r.f0, td, z, r.f3, r.f4⟩) last := h.with h1 hmem (by show (atR L r.f0).f3 = r.f3; rw [hra]) (h.data r hr) htd (fun q hq hn q1 q2 => hno q hq q1 q2)
  have hGM : GoodM (withL L ⟨r.f0, td, z, r.f3, r.f4⟩) := hM.with hG hz (hM.link r hr) (hM.kind r hr) (hM.dirs r hr) hrk
  have hfn := up_ne (last := last) hM hr h1
  have hk1 : (atR L r.f1).f3 = 1 := h.up r hr
  have hlf := tr_get_live (last := last) h (m := r.f1) (by rw [hk1]; decide)
  have hlt := tr_get_live (last := last) h (m := td) (by rw [htd]; decide)
  have hln : (trOf L last).get r.f0 = some (ndOf L r) := by rw [tr_get, find_of h hr]; rfl
  have n2f : T2.node r.f1 = (trOf L last).node r.f1 := by rw [e2]; exact node_set_ne hfn
  have n2t : T2.node td = (trOf L last).node td := by rw [e2]; exact node_set_ne hnt
  have g2 : ∀ m, T2.get m = if m = r.f0 then some { (trOf L last).node r.f0 with up := td } else (trOf L last).get m := by intro m; rw [e2]; rfl
  have g3 : ∀ m, T3.get m = if m = r.f1 then some { T2.node r.f1 with ents := cutEn (T2.node r.f1).ents r.f2 } else T2.get m := by intro m; rw [e3]; rfl
  have c2 : T2.cnt = L.length := by
    rw [e2]
    show (if ((trOf L last).get r.f0).isSome then L.length else L.length + 1) = _
    rw [hln]; rfl
  have c3 : T3.cnt = L.length := by
    rw [e3]
    show (if (T2.get r.f1).isSome then T2.cnt else T2.cnt + 1) = _
    rw [g2, if_neg hfn, hlf, Option.isSome_some, if_pos rfl, c2]
  have E2 : (T2.node r.f1).ents = entsOf L r.f1 := by rw [n2f, node_of h]
  have N3 : T3.node td = if td = r.f1 then { T2.node r.f1 with ents := cutEn (T2.node r.f1).ents r.f2 } else (trOf L last).node td := by
    unfold Tr.node
    rw [g3]
    by_cases e : td = r.f1
    · rw [if_pos e, if_pos e]; rfl
    · rw [if_neg e, if_neg e, g2, if_neg hnt]
  have E3 : (T3.node td).ents = (if td = r.f1 then cutEn (entsOf L r.f1) r.f2 else entsOf L td) := by
    rw [N3]
    by_cases e : td = r.f1
    · rw [if_pos e, if_pos e, E2]
    · rw [if_neg e, if_neg e, node_of h]
  have hfz : ∀ e ∈ entsOf L td, e.f0 ≠ z := by
    intro e he
    obtain ⟨q, hq, hi, rfl⟩ := mem_ents.1 he
    obtain ⟨i1, i2⟩ := isIn_iff.1 hi
    exact hno q hq i1 i2
  have F3 : (findE (T3.node td).ents z).2 = false := by
    rw [E3]
    refine findE_nil' (fun e he => ?_)
    by_cases c : td = r.f1
    · rw [if_pos c] at he
      rw [c] at hfz
      exact hfz e (cutEn_mem.1 he).1
    · rw [if_neg c] at he
      exact hfz e he
  refine ⟨hG, hGM, ?_, ⟨c2, c3⟩, E2, E3, F3⟩
  -- what stands in each directory
  have huq : ∀ q ∈ L, q.f0 = r.f0 → q = r := fun q hq e => by
    have q1 := find_of h hq
    have q2 := find_of h hr
    rw [e] at q1
    rw [q1] at q2
    exact Option.some.inj q2
  have hname : ∀ q ∈ L, q.f0 ≠ 1 → q.f1 = r.f1 → q.f2 = r.f2 → q = r := by
    intro q hq q1 q2 q3
    have := List.pairwise_iff_getElem.1 h.names
    obtain ⟨i, hi, rfl⟩ := List.mem_iff_getElem.1 hq
    obtain ⟨j, hj, rfl⟩ := List.mem_iff_getElem.1 hr
    rcases Nat.lt_trichotomy i j with c | c | c
    · exact absurd q3 (this i j hi hj c q2 q1 h1)
    · subst c; rfl
    · exact absurd q3.symm (this j i hj hi c q2.symm h1 q1)
  have hents : ∀ m, entsOf (withL L ⟨r.f0, td, z, r.f3, r.f4⟩) m = if m = td then insE (T3.node td).ents ⟨z, r.f0⟩ else if m = r.f1 then cutEn (entsOf L r.f1) r.f2 else entsOf L m := by
    intro m
    have hcm : ∀ (m : Int) (e : En), (∃ q ∈ L, q.f0 ≠ r.f0 ∧ isIn m q = true ∧ e = ⟨q.f2, q.f0⟩) ↔ (if m = r.f1 then e ∈ cutEn (entsOf L r.f1) r.f2 else e ∈ entsOf L m) := by
      intro m e
      by_cases c : m = r.f1
      · rw [if_pos c, cutEn_mem, mem_ents]
        subst c
        constructor
        · rintro ⟨q, hq, hn, hi, rfl⟩
          refine ⟨⟨q, hq, hi, rfl⟩, fun e => hn ?_⟩
          obtain ⟨i1, i2⟩ := isIn_iff.1 hi
          rw [hname q hq i2 i1 e]
        · rintro ⟨⟨q, hq, hi, rfl⟩, hn⟩
          exact ⟨q, hq, fun e => hn (by rw [huq q hq e]), hi, rfl⟩
      · rw [if_neg c, mem_ents]
        constructor
        · rintro ⟨q, hq, hn, hi, rfl⟩
          exact ⟨q, hq, hi, rfl⟩
        · rintro ⟨q, hq, hi, rfl⟩
          refine ⟨q, hq, fun e => c ?_, hi, rfl⟩
          rw [huq q hq e] at hi
          exact (isIn_iff.1 hi).1.symm
    by_cases c : m = td
    · subst c
      rw [if_pos rfl]
      refine rt_ext (hG.rt m) (insE_rt _ _ ?_ ?_) (fun e => ?_)
      · rw [E3]
        by_cases c2 : m = r.f1
        · rw [if_pos c2]; exact cutEn_rt (h.rt _) _
        · rw [if_neg c2]; exact h.rt _
      · intro e he e2
        have := F3
        rw [findE_some he e2] at this
        cases this
      · rw [ents_with hmem, hcm m e, insE_mem, E3]
        constructor
        · rintro (⟨_, rfl⟩ | hh)
          · exact .inl rfl
          · right
            by_cases c2 : m = r.f1
            · rw [if_pos c2] at hh ⊢; exact hh
            · rw [if_neg c2] at hh ⊢; exact hh
        · rintro (rfl | hh)
          · exact .inl ⟨isIn_iff.2 ⟨rfl, h1⟩, rfl⟩
          · right
            by_cases c2 : m = r.f1
            · rw [if_pos c2] at hh ⊢; exact hh
            · rw [if_neg c2] at hh ⊢; exact hh
    · rw [if_neg c]
      have hi0 : ¬ isIn m (⟨r.f0, td, z, r.f3, r.f4⟩ : RN) = true := fun hi => c (isIn_iff.1 hi).1.symm
      by_cases c2 : m = r.f1
      · rw [if_pos c2]
        refine rt_ext (hG.rt m) (cutEn_rt (h.rt _) _) (fun e => ?_)
        rw [ents_with hmem, hcm m e, if_pos c2]
        exact ⟨fun hh => hh.elim (fun q => absurd q.1 hi0) id, .inr⟩
      · rw [if_neg c2]
        refine rt_ext (hG.rt m) (h.rt _) (fun e => ?_)
        rw [ents_with hmem, hcm m e, if_neg c2]
        exact ⟨fun hh => hh.elim (fun q => absurd q.1 hi0) id, .inr⟩
  refine Tr.ext (fun m => ?_) ?_ (by rw [e3, e2]; rfl)
  · show (if m = td then some { T3.node td with ents := insE (T3.node td).ents ⟨z, r.f0⟩ } else T3.get m) = _
    rw [tr_get (L := withL L _), withL_find]
    by_cases c : m = td
    · rw [if_pos c]
      obtain ⟨q, hq, hqm, hqa⟩ := at_kind (L := L) (n := td) (by rw [htd]; decide)
      have hfq := find_of h hq
      rw [hqm] at hfq
      have hqr : ¬ q.f0 = r.f0 := by rw [hqm]; exact hnt
      rw [c, hfq, Option.map_some, Option.map_some, if_neg hqr]
      have hT : T3.node td = ⟨q.f3, q.f1, q.f4, (T3.node td).ents⟩ := by
        rw [N3]
        by_cases c3 : td = r.f1
        · rw [if_pos c3, n2f, node_of h, ← c3, hqa]
        · rw [if_neg c3, node_of h, hqa]
      have k1 : (T3.node td).kind = q.f3 := by rw [hT]
      have k2 : (T3.node td).up = q.f1 := by rw [hT]
      have k3 : (T3.node td).data = q.f4 := by rw [hT]
      show some (⟨(T3.node td).kind, (T3.node td).up, (T3.node td).data, insE (T3.node td).ents ⟨z, r.f0⟩⟩ : Nd) = some ⟨q.f3, q.f1, q.f4, entsOf (withL L ⟨r.f0, td, z, r.f3, r.f4⟩) q.f0⟩
      rw [k1, k2, k3, hqm, hents, if_pos rfl]
    · rw [if_neg c, g3]
      by_cases c2 : m = r.f1
      · rw [if_pos c2, n2f, node_of h]
        obtain ⟨q, hq, hqm, hqa⟩ := at_kind (L := L) (n := r.f1) (by rw [hk1]; decide)
        have hfq := find_of h hq
        rw [hqm] at hfq
        have hqr : ¬ q.f0 = r.f0 := by rw [hqm]; exact hfn
        have hct : ¬ r.f1 = td := by rw [← c2]; exact c
        rw [c2, hfq, Option.map_some, Option.map_some, if_neg hqr]
        show some (⟨(atR L r.f1).f3, (atR L r.f1).f1, (atR L r.f1).f4, cutEn (entsOf L r.f1) r.f2⟩ : Nd) = some ⟨q.f3, q.f1, q.f4, entsOf (withL L ⟨r.f0, td, z, r.f3, r.f4⟩) q.f0⟩
        rw [hqm, hents, if_neg hct, if_pos rfl, hqa]
      · rw [if_neg c2, g2]
        by_cases c3 : m = r.f0
        · have hct : ¬ r.f0 = td := by rw [← c3]; exact c
          have hcf : ¬ r.f0 = r.f1 := by rw [← c3]; exact c2
          rw [if_pos c3, c3, find_of h hr, node_of h, hra, Option.map_some, Option.map_some, if_pos rfl]
          show some (⟨r.f3, td, r.f4, entsOf L r.f0⟩ : Nd) = some ⟨r.f3, td, r.f4, entsOf (withL L ⟨r.f0, td, z, r.f3, r.f4⟩) r.f0⟩
          rw [hents, if_neg hct, if_neg hcf]
        · rw [if_neg c3, tr_get]
          cases hf : L.find? (fun r => r.f0 == m) with
          | none => rfl
          | some q =>
            have hqm : q.f0 = m := by simpa using List.find?_some hf
            have hqr : ¬ q.f0 = r.f0 := by rw [hqm]; exact c3
            rw [Option.map_some, Option.map_some, Option.map_some, if_neg hqr]
            show some (⟨q.f3, q.f1, q.f4, entsOf L q.f0⟩ : Nd) = some ⟨q.f3, q.f1, q.f4, entsOf (withL L ⟨r.f0, td, z, r.f3, r.f4⟩) q.f0⟩
            rw [hqm, hents, if_neg c, if_neg c2]
  · show (if (T3.get td).isSome then T3.cnt else T3.cnt + 1) = (withL L _).length
    have : (T3.get td).isSome = true := by
      rw [g3]
      by_cases c : td = r.f1
      · rw [if_pos c]; rfl
      · rw [if_neg c, g2, if_neg hnt, hlt]; rfl
    rw [this, if_pos rfl, c3, withL_len]
end Go.Proofs.Ytjfigngmpagloaa.Tw

namespace Go.Proofs.Ytjfigngmpagloaa.Tw
open Go Go.RowKit Go.Shelf Go.Proofs Go.Proofs.Ytjfigngmpagloaa Go.Proofs.YtjfigngmpagloaaW.PrintWords Go.Proofs.Ytjfigngmpagloaa.Ext Go.Proofs.Ytjfigngmpagloaa.X Go.Proofs.Ytjfigngmpagloaa.Pu
set_option linter.unusedVariables false
set_option linter.unusedSimpArgs false
theorem get_of {L : List RN} {last : Int} {n : Int} {x : Nd} (h : (trOf L last).get n = some x) : ∃ r ∈ L, x = ndOf L r := by
  unfold trOf at h
  obtain ⟨r, hr, rfl⟩ := Option.map_eq_some_iff.1 h
  exact ⟨r, List.mem_of_find?_eq_some hr, rfl⟩
theorem trOK {L : List RN} {last : Int} (h : GoodL L last) (hl : last ≤ 1000000) : TrOK (trOf L last) := by
  refine ⟨fun n x hx => ?_, fun n x hx => ?_, fun n x hx => ?_, fun n x hx e he => ?_, fun n x hx => ?_⟩
  · obtain ⟨r, hr, rfl⟩ := get_of hx
    exact h.rt _
  · obtain ⟨r, hr, rfl⟩ := get_of hx
    have h1 := ents_len L r.f0
    have h2 := h.len
    show (entsOf L r.f0).length < _
    omega
  · obtain ⟨r, hr, rfl⟩ := get_of hx
    obtain ⟨q, hq, hqn, _⟩ := at_kind (L := L) (n := r.f1) (by rw [h.up r hr]; decide)
    have := h.num q hq
    exact wf_of (n := r.f1) (by omega)
  · obtain ⟨r, hr, rfl⟩ := get_of hx
    obtain ⟨q, hq, _, rfl⟩ := mem_ents.1 (show e ∈ entsOf L r.f0 from he)
    have := h.num q hq
    exact wf_of (n := q.f0) (by omega)
  · obtain ⟨r, hr, rfl⟩ := get_of hx
    exact h.data r hr
end Go.Proofs.Ytjfigngmpagloaa.Tw

namespace Go.Proofs.Ytjfigngmpagloaa.Tw
open Go Go.RowKit Go.Shelf Go.Proofs Go.Proofs.Ytjfigngmpagloaa Go.Proofs.YtjfigngmpagloaaW.PrintWords Go.Proofs.Ytjfigngmpagloaa.Ext Go.Proofs.Ytjfigngmpagloaa.X Go.Proofs.Ytjfigngmpagloaa.Pu
set_option linter.unusedVariables false
set_option linter.unusedSimpArgs false
theorem cnt_lt {L : List RN} {last : Int} (h : GoodL L last) : (trOf L last).cnt < 1000000 := by
  have := h.len
  show L.length < _
  omega
open Classical in
noncomputable def insV (L : List RN) (last td n : Int) : Bool := decide (∃ k, insF (trOf L last) k td n = some true)
theorem insV_true {L : List RN} {last td n : Int} (h : ∃ k, insF (trOf L last) k td n = some true) : insV L last td n = true := by classical exact decide_eq_true h
theorem insV_false {L : List RN} {last td n : Int} (h : ¬ ∃ k, insF (trOf L last) k td n = some true) : insV L last td n = false := by classical exact decide_eq_false h
noncomputable def movP (L : List RN) (last fr : Int) (s : ByteArray) (td : Int) (z : ByteArray) : Int := movRE L fr s td z (insV L last td (inR L fr s))
def roomL (L : List RN) (td : Int) (z : ByteArray) : List RN := if inR L td z = 0 then L else cutL L (inR L td z)
noncomputable def movM (L : List RN) (last fr : Int) (s : ByteArray) (td : Int) (z : ByteArray) : List RN :=
  if movP L last fr s td z = 0 ∧ (roomRE L (inR L fr s) td z).1 = false then withL (roomL L td z) (movX L (inR L fr s) td z) else L
theorem ins_dir {L : List RN} {last : Int} (h : GoodL L last) {n : Int} : ∀ (k : Nat) (m : Int), insF (trOf L last) k m n = some true → m ≠ n → (atR L m).f3 ≠ 0 → (atR L n).f3 = 1
  | 0, m, hk, _, _ => by simp [insF] at hk
  | k + 1, m, hk, hmn, hm => by
    unfold insF at hk
    rw [if_neg hmn] at hk
    by_cases e2 : m = 1
    · rw [if_pos e2] at hk; cases hk
    · rw [if_neg e2] at hk
      obtain ⟨r, hr, hrm, hra⟩ := at_kind hm
      rw [node_of h, hra] at hk
      have hu := h.up r hr
      by_cases e : r.f1 = n
      · rw [← e]; exact hu
      · exact ins_dir h k r.f1 hk e (by rw [hu]; decide)
structure MovOK (L : List RN) (last fr : Int) (s : ByteArray) (td : Int) (z : ByteArray) (n : Int) : Prop where
  kf : (atR L fr).f3 = 1
  kt : (atR L td).f3 = 1
  ck : Sp.check z.data.toList = 0
  ins : (atR L n).f3 = 1 → ∃ k, insF (trOf L last) k td n = some false
  room : roomRE L n td z = (false, 0)
  good : GoodL (withL (roomL L td z) (movX L n td z)) last ∧ GoodM (withL (roomL L td z) (movX L n td z))
  one : mvA (trOf L last) td z = trOf (roomL L td z) last
  l1 : GoodL (roomL L td z) last
  core : ∀ T2 T3, T2 = mvB (trOf (roomL L td z) last) n td → T3 = mvC T2 fr s →
    mvD T3 td n z = trOf (withL (roomL L td z) (movX L n td z)) last ∧ (T2.cnt = (roomL L td z).length ∧ T3.cnt = (roomL L td z).length) ∧ (T2.node fr).ents = entsOf (roomL L td z) fr ∧ (T3.node td).ents = (if td = fr then cutEn (entsOf (roomL L td z) fr) s else entsOf (roomL L td z) td) ∧ (findE (T3.node td).ents z).2 = false
  mem : ∃ r ∈ roomL L td z, r.f0 = n ∧ r.f1 = fr ∧ r.f2 = s ∧ r.f0 ≠ 1
theorem mov_all {L : List RN} {last : Int} (h : GoodL L last) (hM : GoodM L) {fr : Int} {s : ByteArray} {td : Int} {z : ByteArray} (he : movP L last fr s td z = 0) (hs : (roomRE L (inR L fr s) td z).1 = false) : MovOK L last fr s td z (inR L fr s) := by
  obtain ⟨z1, z2, z3, z4, z5, z6⟩ := movRE_zero he
  have hroom : roomRE L (inR L fr s) td z = (false, 0) := by
    rcases z6 with e | e
    · rw [hs] at e; cases e
    · exact Prod.ext hs e
  obtain ⟨r, hr, hrn, hrd, hrs, hr1, hra⟩ := inR_mem h z3
  generalize inR L fr s = n at *
  have hnt : td ≠ n := by
    intro e
    by_cases k1 : (atR L n).f3 = 1
    · have := z5 k1
      unfold insV at this
      rw [decide_eq_false_iff_not] at this
      exact this ⟨1, by simp [insF, e]⟩
    · rw [e] at z2; exact k1 z2
  have hsub : ∀ k, insF (trOf L last) k td n ≠ some true := by
    intro k hk
    by_cases k1 : (atR L n).f3 = 1
    · have := z5 k1
      unfold insV at this
      rw [decide_eq_false_iff_not] at this
      exact this ⟨k, hk⟩
    · exact k1 (ins_dir h k td hk hnt (by rw [z2]; decide))
  have hins : (atR L n).f3 = 1 → ∃ k, insF (trOf L last) k td n = some false := by
    intro _
    obtain ⟨k, b, hk⟩ := ins_ex h hM n td (by rw [z2]; decide)
    cases b with
    | true => exact absurd hk (hsub k)
    | false => exact ⟨k, hk⟩
  have KEY : GoodL (roomL L td z) last ∧ GoodM (roomL L td z) ∧ r ∈ roomL L td z ∧ (atR (roomL L td z) td).f3 = 1 ∧ inR (roomL L td z) td z = 0 ∧ mvA (trOf L last) td z = trOf (roomL L td z) last ∧ ∀ q ∈ roomL L td z, q ∈ L := by
    unfold roomL mvA roomT
    rw [node_of h td]
    simp only [find_ents h td z, in_dec h]
    by_cases e : inR L td z = 0
    · rw [if_pos e, if_pos e]
      exact ⟨h, hM, hr, z2, e, rfl, fun q hq => hq⟩
    · rw [if_neg e, if_neg e]
      have hc : cutRE L td z = 0 ∧ inR L td z ≠ n := by
        unfold roomRE at hroom
        rw [if_neg e] at hroom
        split at hroom
        · cases hroom
        · rename_i hne
          split at hroom
          · cases hroom
          · split at hroom
            · cases hroom
            · exact ⟨(Prod.mk.inj hroom).2, hne⟩
      obtain ⟨c1, c2, c3⟩ := cutRE_zero hc.1
      obtain ⟨g1, g2⟩ := cut_good h hM hc.1
      obtain ⟨ro, hro, hon, hod, hos, ho1, _⟩ := inR_mem h e
      have hto : td ≠ inR L td z := by
        intro e2
        have := live_ents h hro ho1
        rw [hod, e2] at this
        exact this c3
      refine ⟨g1, g2, cutL_mem.2 ⟨hr, by rw [hrn]; exact fun e2 => hc.2 e2.symm⟩, by rw [cutL_at hto]; exact c1, ?_, cutT_eq h hc.1, fun q hq => (cutL_mem.1 hq).1⟩
      refine Decidable.byContradiction fun hne => ?_
      obtain ⟨q, hq, hqn, hqd, hqs, hq1, _⟩ := inR_mem g1 hne
      obtain ⟨hq2, hqo⟩ := cutL_mem.1 hq
      have hpw := List.pairwise_iff_getElem.1 h.names
      rw [← hon] at hqo
      obtain ⟨i, hi, rfl⟩ := List.mem_iff_getElem.1 hq2
      obtain ⟨j, hj, rfl⟩ := List.mem_iff_getElem.1 hro
      rcases Nat.lt_trichotomy i j with c | c | c
      · exact hpw i j hi hj c (hqd.trans hod.symm) hq1 ho1 (hqs.trans hos.symm)
      · subst c; exact hqo rfl
      · exact hpw j i hj hi c (hod.trans hqd.symm) ho1 hq1 (hos.trans hqs.symm)
  obtain ⟨g1, g2, g3, g4, g5, g6, g7⟩ := KEY
  have hxe : movX (roomL L td z) n td z = movX L n td z := by
    unfold movX
    rw [hra]
    have := at_mem g1 g3
    rw [hrn] at this
    rw [this]
  have hrk : ∃ d : Int → Nat, ∀ q ∈ withL (roomL L td z) (movX (roomL L td z) r.f0 td z), q.f0 ≠ 1 → d q.f1 < d q.f0 := by
    rw [hrn, hxe]
    exact mov_rank h hM (n := n) (td := td) (by show (atR L n).f0 = n; rw [hra]; exact hrn) rfl (by rw [← hrn]; exact hr1) g7 hsub
  have CORE := fun T2 T3 e2 e3 => mov_core g1 g2 g3 hr1 g4 (by rw [hrn]; exact hnt) z4 g5 hrk T2 T3 e2 e3
  rw [hrn, hrd, hrs, hxe] at CORE
  refine ⟨z1, z2, z4, hins, hroom, ?_, g6, g1, fun T2 T3 e2 e3 => (CORE T2 T3 e2 e3).2.2, ⟨r, g3, hrn, hrd, hrs, hr1⟩⟩
  have := CORE _ _ rfl rfl
  exact ⟨this.1, this.2.1⟩
theorem good_mov {L : List RN} {last : Int} (hG : GoodL L last) (hM : GoodM L) (fr : Int) (s : ByteArray) (td : Int) (z : ByteArray) : GoodL (movM L last fr s td z) last ∧ GoodM (movM L last fr s td z) := by
  unfold movM
  by_cases he : movP L last fr s td z = 0 ∧ (roomRE L (inR L fr s) td z).1 = false
  · rw [if_pos he]; exact (mov_all hG hM he.1 he.2).good
  · rw [if_neg he]; exact ⟨hG, hM⟩
theorem tmove_calls (p B : Nat) (L : List RN) (last fr : Int) (s : ByteArray) (td : Int) (z : ByteArray) (w : World) (h : TreeB w p B (trOf L last)) (hG : GoodL L last) (hM : GoodM L) (hf : wf fr) (ht : wf td) (hz : z.size < 4294967281) (hla : last ≤ 1000000) :
    Calls Try.prog 78 #[pT p, .int .i64 fr, .string s, .int .i64 td, .string z] w fun e w' => e = .returned (.int .i64 (movP L last fr s td z)) ∧ TreeB w' p B (trOf (movM L last fr s td z) last) ∧ Frm w w' p B := by
  have hO := trOK hG hla
  unfold movM
  by_cases he : movP L last fr s td z = 0 ∧ (roomRE L (inR L fr s) td z).1 = false
  · rw [if_pos he, he.1]
    have M := mov_all hG hM he.1 he.2
    obtain ⟨k, hk⟩ : ∃ k, (atR L (inR L fr s)).f3 = 1 → insF (trOf L last) k td (inR L fr s) = some false := by
      by_cases k1 : (atR L (inR L fr s)).f3 = 1
      · obtain ⟨k, hk⟩ := M.ins k1
        exact ⟨k, fun _ => hk⟩
      · exact ⟨0, fun h => absurd h k1⟩
    obtain ⟨c1, ⟨c2, c3⟩, c4, c5, c6⟩ := M.core _ _ rfl rfl
    obtain ⟨r, hr, hrn, hrd, hrs, hr1⟩ := M.mem
    have hfe : findE ((trOf L last).node fr).ents s = (inR L fr s, true) := by
      rw [node_of hG]
      show findE (entsOf L fr) s = _
      rw [find_ents hG]
      have := (movRE_zero he.1).2.2.1
      have := (inR_le hG fr s).1
      rw [decide_eq_true (by omega)]
    have hl1 := M.l1.len
    have hel := fun m => ents_len (roomL L td z) m
    refine (move_ok p B (trOf L last) (trOf (roomL L td z) last) _ _ fr s td z (inR L fr s) false k w h hO hf ht hz hfe (by rw [node_of hG]; exact M.kf) (by rw [node_of hG]; exact M.kt) M.ck (by rw [node_of hG]; exact hk) (by rw [roomE_eq hG]; exact M.room) (cnt_lt hG) M.one.symm rfl rfl
      (cnt_lt M.l1) (by rw [c2]; omega) (by rw [c3]; omega) (by rw [c4]; have := hel fr; omega) (by rw [c4]; exact M.l1.rt _) ?_ ?_ ?_ c6).mono ?_
    · rw [c4]
      exact findE_some (mem_ents.2 ⟨r, hr, isIn_iff.2 ⟨hrd, hr1⟩, rfl⟩) hrs
    · rw [c5]
      split
      · have := cutEn_len (entsOf (roomL L td z) fr) s
        have := hel fr
        omega
      · have := hel td
        omega
    · rw [c5]
      split
      · exact cutEn_rt (M.l1.rt _) _
      · exact M.l1.rt _
    · rintro e w' ⟨rfl, hT, hF⟩
      rw [c1] at hT
      exact ⟨rfl, hT, hF⟩
  · rw [if_neg he]
    obtain ⟨k, ins, hk, hp⟩ : ∃ k ins, (dirE (atR L td).f3 = 0 → (atR L (inR L fr s)).f3 = 1 → insF (trOf L last) k td (inR L fr s) = some ins) ∧ movRE L fr s td z ins = movP L last fr s td z := by
      by_cases k2 : (atR L td).f3 = 1
      · obtain ⟨k, b, hk⟩ := ins_ex hG hM (inR L fr s) td (by rw [k2]; decide)
        refine ⟨k, b, fun _ _ => hk, ?_⟩
        unfold movP
        congr 1
        cases b with
        | true => exact (insV_true ⟨k, hk⟩).symm
        | false =>
          refine (insV_false ?_).symm
          rintro ⟨k', hk'⟩
          have := insF_det hk hk'
          cases this
      · exact ⟨0, insV L last td (inR L fr s), fun h0 => absurd (dirE_zero h0) k2, rfl⟩
    refine (move_stay p B (trOf L last) fr s td z ins k w h hO hf ht hz (by rw [node_of hG fr, node_of hG td]; simp only [find_ents hG fr s]; rw [node_of hG]; exact hk) ?_).mono ?_
    · unfold movS
      rw [movE_eq hG, hp, node_of hG fr]
      simp only [find_ents hG fr s]
      rw [roomE_eq hG]
      by_cases e1 : movP L last fr s td z = 0
      · right
        cases hb : (roomRE L (inR L fr s) td z).1 with
        | true => rfl
        | false => exact absurd ⟨e1, hb⟩ he
      · exact .inl e1
    · rintro e w' ⟨rfl, hb⟩
      rw [movE_eq hG, hp]
      exact ⟨rfl, h.below hb, Frm.ofBelow hb⟩
end Go.Proofs.Ytjfigngmpagloaa.Tw

namespace Go.Proofs.Ytjfigngmpagloaa.Tw
open Go Go.RowKit Go.Shelf Go.Proofs Go.Proofs.Ytjfigngmpagloaa Go.Proofs.YtjfigngmpagloaaW.PrintWords Go.Proofs.Ytjfigngmpagloaa.Ext Go.Proofs.Ytjfigngmpagloaa.X Go.Proofs.Ytjfigngmpagloaa.Pu
set_option linter.unusedVariables false
set_option linter.unusedSimpArgs false

theorem beginE_ok {s : ByteArray} (h : beginE s = 0) : s.size ≤ 1024 ∧ s.toList ≠ [] := by
  unfold beginE at h
  split at h
  · cases h
  · split at h
    · cases h
    · exact ⟨by omega, by assumption⟩
def findF (T : Tr) (last : Bool) (k : Nat) (s : ByteArray) : Option (Int × Int) :=
  if beginE s = 0 then (walkF T last k 1 0 (partsB s)).bind fun r => if r.2 = 0 then some (r.1, 0) else some (0, r.2) else some (0, beginE s)
theorem Wk.made {w : World} {p : Nat} {l : List ByteArray} {A : Option Addr} {c : Nat} (hr : Kd.C Kd.string w A l.length l) (hc : l.length ≤ c) :
    Wk (w.alloc (.cells #[pT p, .int .i64 1, .int .i64 0, .slice A l.length c] 113)) w.heap.size p 1 0 l A c :=
  ⟨World.alloc_heap_new w _, Kd.C_below hr ((Below.refl _ w).alloc (Nat.le_refl _) _), hc⟩
set_option maxHeartbeats 4000000 in
set_option maxRecDepth 1000000 in
theorem seekFind_calls (p : Nat) (T : Tr) (s : ByteArray) (last : Bool) (k : Nat) (R : Int × Int) (w : World) (hT : TreeAt w p T) (hO : TrOK T) (hR : findF T last k s = some R) :
    Calls Try.prog 24 #[pT p, .string s, .bool last] w fun e w' => e = .returned (.tuple #[.int .i64 R.1, .int .i64 R.2]) ∧ Below w.heap.size w w' := by
  have HBG := Lib.hid (fun W => begin_calls p s W)
  unfold findF at hR
  by_cases h0 : beginE s = 0
  · rw [if_pos h0] at hR
    rw [h0] at HBG
    obtain ⟨hz, -⟩ := beginE_ok h0
    obtain ⟨r, hr, hR⟩ := Option.bind_eq_some_iff.1 hR
    have HP := Lib.hid (fun W => path_Parts.calls s (partsB s) W (by rw [path_Parts.f, if_pos (by omega)]; rfl))
    have hpl := partsB_len' s
    have HW := Lib.hid (fun W g A c h1 h2 h3 => walk_calls w.heap.size w g p T hT hO last k 1 (partsB s) A c r W h1 h2 h3 wf1 (by omega) (fun x hx => Nat.le_trans (partsB_sz s x hx) (by omega)) hr)
    have HR := Lib.hid hR
    clear hT hR hr h0
    generalize partsB s = l at HP HW hpl
    obtain ⟨rn, re⟩ := r
    simp only [] at HR
    go_enter Try.func24, Try.ntmps24
    go_upto_region 5 with (first | (go_at_call 57; refine (HBG.out _).mono ?_; rintro e w2 ⟨rfl, rfl⟩) | (go_at_call 58; refine (HP.out _).mono ?_; rintro e w3 ⟨v, rfl, ho, hb3⟩; obtain ⟨A3, c3, rfl, hl3, hC3⟩ := Kd.R_reads ho; have HC3 := Lib.hid hC3; have HB3 := Lib.hid hb3; have HL3 := Lib.hid hl3; clear ho hC3 hb3 hl3))
    have hk := Wk.made (p := p) HC3.out HL3.out
    have hB : Below w.heap.size w (w3.alloc (.cells #[pT p, .int .i64 1, .int .i64 0, .slice A3 l.length c3] 113)) := HB3.out.alloc HB3.out.size _
    have hg : w.heap.size ≤ w3.heap.size := HB3.out.size
    generalize w3.alloc (.cells #[pT p, .int .i64 1, .int .i64 0, .slice A3 l.length c3] 113) = w4 at hk hB ⊢
    generalize w3.heap.size = g at hk hg ⊢
    have HWK := Lib.hid (HW.out w4 g A3 c3 hk hB hg)
    clear hk hB HW HC3 HB3 HL3
    by_cases he : re = 0
    · subst he
      rw [if_pos rfl] at HR
      go_upto_region 8 with (go_at_call 59; refine HWK.out.mono ?_; rintro e w5 ⟨rfl, hw5⟩)
      obtain ⟨hq, hb5⟩ := hw5
      obtain ⟨h5, l5, A5, c5, hk5⟩ := hq rfl
      obtain ⟨c0, c1, c2, c3⟩ := hk5.cells
      have HB5 := Lib.hid hb5
      have hR := Option.some.inj HR.out
      subst hR
      clear hk5 hq hb5
      go_wp2
      go_ret2
      exact ⟨rfl, HB5.out⟩
    · rw [if_neg he] at HR
      have b3 : (re != 0) = true := bne_iff_ne.2 he
      have hR := Option.some.inj HR.out
      subst hR
      clear he
      go_wp2_with (go_at_call 59; refine HWK.out.mono ?_; rintro e w5 ⟨rfl, hw5⟩)
      go_ret2
      exact ⟨rfl, hw5.2⟩
  · rw [if_neg h0] at hR
    have hR := Option.some.inj hR
    subst hR
    have b3 : (beginE s != 0) = true := bne_iff_ne.2 h0
    generalize beginE s = e0 at HBG b3
    clear h0 hT
    go_enter Try.func24, Try.ntmps24
    go_wp2_with (first | (go_at_call 57; refine (HBG.out _).mono ?_; rintro e w2 ⟨rfl, rfl⟩))
    go_ret2
    exact ⟨rfl, Below.refl _ _⟩
end Go.Proofs.Ytjfigngmpagloaa.Tw

namespace Go.Proofs.Ytjfigngmpagloaa.Tw
open Go Go.RowKit Go.Shelf Go.Proofs Go.Proofs.Ytjfigngmpagloaa Go.Proofs.YtjfigngmpagloaaW.PrintWords Go.Proofs.Ytjfigngmpagloaa.Ext Go.Proofs.Ytjfigngmpagloaa.X Go.Proofs.Ytjfigngmpagloaa.Pu
set_option linter.unusedVariables false
set_option linter.unusedSimpArgs false

set_option maxHeartbeats 4000000 in
set_option maxRecDepth 1000000 in
theorem cloneS_calls (A : Option Addr) (c : Nat) (l : List ByteArray) (w : World) (hr : Kd.C Kd.string w A l.length l) (hc : l.length ≤ c) (hl : l.length < 4294967296) :
    Calls Try.prog 62 #[.slice A l.length c] w fun e w' => ∃ v, e = .returned v ∧ Kd.R Kd.string 9 w' w.heap.size (fun _ => True) v l ∧ Below w.heap.size w w' := by
  have hq := fun W => Lib.run_eql_slice_nil (P := Try.prog) W 42 9 A l.length c 0 0 Try.underlying42
  have HR := Lib.hid hr
  have HRE := Lib.hid (R_empty Kd.string 9 w w.heap.size (Nat.le_refl _))
  have HB := Lib.hid ((Below.refl w.heap.size w).alloc (Nat.le_refl _) (.cells #[] 9))
  cases A with
  | none =>
    have h0 : l = [] := by
      cases l with
      | nil => rfl
      | cons a b => obtain ⟨ad, e, _⟩ := hr.2.2 (by simp); cases e
    subst h0
    clear hr HR hq
    have hq := fun W => Lib.run_eql_slice_nil (P := Try.prog) W 42 9 none 0 c 0 0 Try.underlying42
    simp only [Option.isNone_none] at hq
    go_enter Try.func62, Try.ntmps62
    go_wp2
    go_ret
    exact ⟨_, rfl, Kd.R_nil _ _ _ _ _, Below.refl _ _⟩
  | some ad =>
    clear hr
    simp only [Option.isNone_some] at hq
    go_enter Try.func62, Try.ntmps62
    go_wp2_with ((with_reducible refine gate_builtin (b := .append) (xs := #[.tmp 5, .tmp 6]) rfl ?_); at_builtin; refine Kd.R_append_rows Kd.string (w0 := w) w.heap.size rfl (.tmp 5) (.tmp 6) 42 9 (.string ⟨#[]⟩) 16 rfl Try.underlying42 infoS rfl (by decide) (by omega) _ [] l _ _ _ (fun _ => True) (fun _ => False) rfl rfl HRE.out (Kd.C_below HR.out HB.out) (fun _ _ h => h) (fun _ h => h.elim) (fun _ _ => trivial) HB.out (by simp) (by simp; omega) ?_; intro v1 w1 ho hb hg hat)
    go_ret
    exact ⟨_, rfl, ho, hb⟩

abbrev R3 := Int × ByteArray × Int
def noS (e : Int) : R3 := (0, ⟨#[]⟩, e)
def spotF (T : Tr) (k : Nat) (s : ByteArray) : Option R3 :=
  if beginE s = 0 then
    match (partsB s).getLast? with
    | none => some (noS 6)
    | some z => if z.toList = [46, 46] then some (noS 6) else (walkF T true k 1 0 (partsB s).dropLast).bind fun r =>
        if r.2 = 0 then (if (T.node r.1).kind = 1 then (if Sp.check z.data.toList = 0 then some (r.1, z, 0) else some (noS (Sp.check z.data.toList))) else some (noS 7)) else some (noS r.2)
  else some (noS (beginE s))
theorem walkF_wf {T : Tr} (hO : TrOK T) (last : Bool) : ∀ (k : Nat) (a h : Int) (l : List ByteArray) (R : Int × Int), wf a → walkF T last k a h l = some R → wf R.1 := by
  intro k
  induction k with
  | zero => intro a h l R _ hR; simp [walkF] at hR
  | succ k ih =>
    intro a h l R ha hR
    cases l with
    | nil => simp only [walkF, Option.some.injEq] at hR; subst hR; exact ha
    | cons s l =>
      simp only [walkF] at hR
      split at hR
      · cases hR; exact ha
      · split at hR
        · exact ih _ _ _ _ (hO.wf_up a) hR
        · split at hR
          · cases hR; exact ha
          · split at hR
            · exact ih _ _ _ _ (hO.wf_down a s) hR
            · split at hR
              · cases hR; exact ha
              · refine ih _ _ _ _ ?_ hR
                split
                · exact wf1
                · exact ha
set_option maxHeartbeats 8000000 in
set_option maxRecDepth 1000000 in
theorem spot_calls (p : Nat) (T : Tr) (s : ByteArray) (k : Nat) (R : R3) (w : World) (hT : TreeAt w p T) (hO : TrOK T) (hR : spotF T k s = some R) :
    Calls Try.prog 26 #[pT p, .string s] w fun e w' => e = .returned (.tuple #[.int .i64 R.1, .string R.2.1, .int .i64 R.2.2]) ∧ Below w.heap.size w w' := by
  have HBG := Lib.hid (fun W => begin_calls p s W)
  unfold spotF at hR
  by_cases h0 : beginE s = 0
  · rw [if_pos h0] at hR
    rw [h0] at HBG
    obtain ⟨hz, -⟩ := beginE_ok h0
    have HP := Lib.hid (fun W => path_Parts.calls s (partsB s) W (by rw [path_Parts.f, if_pos (by omega)]; rfl))
    have hpl := partsB_len' s
    have hps := partsB_sz s
    generalize partsB s = l at hR HP hpl hps
    clear h0
    rcases List.eq_nil_or_concat l with rfl | ⟨ini, z, rfl⟩
    · have hR := Option.some.inj hR
      subst hR
      go_enter Try.func26, Try.ntmps26
      go_wp2_with (first | (go_at_call 57; refine (HBG.out _).mono ?_; rintro e w2 ⟨rfl, rfl⟩) | (go_at_call 58; refine (HP.out _).mono ?_; rintro e w3 ⟨v, rfl, ho, hb3⟩; obtain ⟨A3, c3, rfl, hl3, hC3⟩ := Kd.R_reads ho; clear ho hC3))
      go_ret3
      exact ⟨rfl, hb3⟩
    · rw [List.concat_eq_append] at *
      rw [List.getLast?_concat, List.dropLast_concat] at hR
      simp only [] at hR
      have hlen : (ini ++ [z]).length = ini.length + 1 := by simp
      by_cases hdd : z.toList = [46, 46]
      · rw [if_pos hdd] at hR
        have hR := Option.some.inj hR
        subst hR
        have b2 : (z.toList == [46, 46]) = true := by rw [hdd]; rfl
        go_enter Try.func26, Try.ntmps26
        go_upto_region 6 with (first | (go_at_call 57; refine (HBG.out _).mono ?_; rintro e w2 ⟨rfl, rfl⟩) | (go_at_call 58; refine (HP.out _).mono ?_; rintro e w3 ⟨v, rfl, ho, hb3⟩; obtain ⟨A3, c3, rfl, hl3, hC3⟩ := Kd.R_reads ho; have HC3 := Lib.hid hC3; clear ho hC3))
        obtain ⟨ad, eA, x0⟩ := Kd.at_string HC3.out (ini.length : Int) (by omega) (by simp; omega)
        have e0 : rdOf ByteArray.empty (ini ++ [z]) (ini.length : Int) = z := by simp [rdOf]
        rw [e0, Int.toNat_natCast] at x0
        subst eA
        have d0 : decide ((ini.length : Int) < 0) = false := decide_eq_false (by omega)
        have i0 : (0 : Int) ≤ (ini.length : Int) := by omega
        have i1 : (ini.length : Int) < (ini.length : Int) + 1 := by omega
        have i2 : (ini.length : Int) ≤ (ini.length : Int) + 1 := by omega
        clear e0
        go_wp2
        go_ret3
        exact ⟨rfl, hb3⟩
      · rw [if_neg hdd] at hR
        have b2 : (z.toList == [46, 46]) = false := by simpa using hdd
        clear hdd
        obtain ⟨r, hr, hR⟩ := Option.bind_eq_some_iff.1 hR
        have hwr := walkF_wf hO true k 1 0 ini r wf1 hr
        have HW := Lib.hid (fun w4 (hT4 : TreeAt w4 p T) W g A c h1 h2 h3 => walk_calls w4.heap.size w4 g p T hT4 hO true k 1 ini A c r W h1 h2 h3 wf1 (by simp at hpl; omega) (fun x hx => Nat.le_trans (hps x (List.mem_append_left _ hx)) (by omega)) hr)
        have HT := Lib.hid hT
        have HR := Lib.hid hR
        have hzz : z.size < 4294967281 := by have := hps z (by simp); omega
        have HCK := Lib.hid (fun W => name_Check.calls z (Sp.check z.data.toList) W (by rw [name_Check.f, if_pos hzz]))
        have HKD := Lib.hid (fun W (h : TreeAt W p T) => kind_calls p T r.1 W h hwr)
        have hini : ini.length < 4294967296 := by simp at hpl; omega
        clear hT hR hr hps hwr
        obtain ⟨rn, re⟩ := r
        simp only [] at HR HKD
        go_enter Try.func26, Try.ntmps26
        go_upto_region 6 with (first | (go_at_call 57; refine (HBG.out _).mono ?_; rintro e w2 ⟨rfl, rfl⟩) | (go_at_call 58; refine (HP.out _).mono ?_; rintro e w3 ⟨v, rfl, ho, hb3⟩; obtain ⟨A3, c3, rfl, hl3, hC3⟩ := Kd.R_reads ho; have HC3 := Lib.hid hC3; clear ho hC3))
        obtain ⟨ad, eA, x0⟩ := Kd.at_string HC3.out (ini.length : Int) (by omega) (by simp; omega)
        have e0 : rdOf ByteArray.empty (ini ++ [z]) (ini.length : Int) = z := by simp [rdOf]
        rw [e0, Int.toNat_natCast] at x0
        subst eA
        have d0 : decide ((ini.length : Int) < 0) = false := decide_eq_false (by omega)
        have i0 : (0 : Int) ≤ (ini.length : Int) := by omega
        have i1 : (ini.length : Int) < (ini.length : Int) + 1 := by omega
        have i2 : (ini.length : Int) ≤ (ini.length : Int) + 1 := by omega
        clear e0
        have X0 := Lib.hid x0
        have HB3 := Lib.hid hb3
        have hct := Kd.C_take (m := ini.length) HC3.out (by simp)
        rw [List.take_left] at hct
        have HCT := Lib.hid hct
        clear hct hb3
        go_upto_region 9 with (go_at_call 62; refine (cloneS_calls _ _ ini _ HCT.out (by simp at hl3; omega) hini).mono ?_; rintro e w4 ⟨v4, rfl, ho4, hb4⟩; obtain ⟨A4, c4, rfl, hl4, hC4⟩ := Kd.R_reads ho4; have HC4 := Lib.hid hC4; have HB4 := Lib.hid (HB3.out.trans (hb4.mono HB3.out.size)); have x4 := pw_cell_below hb4 X0.out; clear ho4 hC4 hb4)
        have hk := Wk.made (p := p) HC4.out hl4
        have hB : Below w4.heap.size w4 (w4.alloc (.cells #[pT p, .int .i64 1, .int .i64 0, .slice A4 ini.length c4] 113)) := (Below.refl _ w4).alloc (Nat.le_refl _) _
        have hg : w4.heap.size ≤ w4.heap.size := Nat.le_refl _
        generalize w4.alloc (.cells #[pT p, .int .i64 1, .int .i64 0, .slice A4 ini.length c4] 113) = w5 at hk hB ⊢
        have HWK := Lib.hid (HW.out w4 (HT.out.below HB4.out) w5 w4.heap.size A4 c4 hk hB hg)
        have X4 := Lib.hid x4
        clear hk hB hg HW HC4 x0 x4 hl4 HCT
        generalize hgg : w4.heap.size = g at HWK ⊢
        have HG := Lib.hid hgg
        clear hgg
        by_cases he : re = 0
        · subst he
          rw [if_pos rfl] at HR
          by_cases hkd : (T.node rn).kind = 1
          · rw [if_pos hkd] at HR
            rw [hkd] at HKD
            clear hkd
            generalize Sp.check z.data.toList = ck at HR HCK
            by_cases hc0 : ck = 0
            · subst hc0
              rw [if_pos rfl] at HR
              have hR := Option.some.inj HR.out
              subst hR
              go_upto_region 17 with (first | (go_at_call 59; refine HWK.out.mono ?_; rintro e w6 ⟨rfl, hw6⟩; obtain ⟨hq, hb6⟩ := hw6; obtain ⟨h6, l6, A6, c6, hk6⟩ := hq rfl; have y6 := pw_cell_below hb6 X4.out; obtain ⟨c0, c1, c2, c3⟩ := hk6.cells; have HK6 := Lib.hid hk6; have HB6 := Lib.hid (HB4.out.trans (hb6.mono HB4.out.size)); clear hk6 hq) | (go_at_call 41; refine (HKD.out _ (HT.out.below HB6.out)).mono ?_; rintro e w7 ⟨rfl, hb7⟩; have y7 := pw_cell_below hb7 y6; have c17 := pw_cell_below hb7 c1; have HB7 := Lib.hid (HB6.out.trans (hb7.mono HB6.out.size))) | (go_at_call 63; refine (HCK.out _).mono ?_; rintro e w8 ⟨rfl, hb8⟩; have y8 := pw_cell_below hb8 y7; have c18 := pw_cell_below hb8 c17; have HB8 := Lib.hid (HB7.out.trans (hb8.mono HB7.out.size))))
              clear hb6 hb7 hb8 y6 y7 c0 c1 c2 c3 c17
              go_quiet (fail)
              go_wp2
              go_ret3
              exact ⟨rfl, pw_below_drewN HB8.out nq⟩
            · rw [if_neg hc0] at HR
              have b6 : (ck != 0) = true := bne_iff_ne.2 hc0
              have hR := Option.some.inj HR.out
              subst hR
              clear hc0
              go_wp2_with (first | (go_at_call 59; refine HWK.out.mono ?_; rintro e w6 ⟨rfl, hw6⟩; obtain ⟨hq, hb6⟩ := hw6; obtain ⟨h6, l6, A6, c6, hk6⟩ := hq rfl; have y6 := pw_cell_below hb6 X4.out; obtain ⟨c0, c1, c2, c3⟩ := hk6.cells; have HK6 := Lib.hid hk6; have HB6 := Lib.hid (HB4.out.trans (hb6.mono HB4.out.size)); clear hk6 hq) | (go_at_call 41; refine (HKD.out _ (HT.out.below HB6.out)).mono ?_; rintro e w7 ⟨rfl, hb7⟩; have y7 := pw_cell_below hb7 y6; have c17 := pw_cell_below hb7 c1; have HB7 := Lib.hid (HB6.out.trans (hb7.mono HB6.out.size))) | (go_at_call 63; refine (HCK.out _).mono ?_; rintro e w8 ⟨rfl, hb8⟩; have y8 := pw_cell_below hb8 y7; have c18 := pw_cell_below hb8 c17; have HB8 := Lib.hid (HB7.out.trans (hb8.mono HB7.out.size))))
              go_ret3
              exact ⟨rfl, HB8.out⟩
          · rw [if_neg hkd] at HR
            have b5 : ((T.node rn).kind != 1) = true := bne_iff_ne.2 hkd
            generalize (T.node rn).kind = kd at HKD b5
            have hR := Option.some.inj HR.out
            subst hR
            clear hkd
            go_wp2_with (first | (go_at_call 59; refine HWK.out.mono ?_; rintro e w6 ⟨rfl, hw6⟩; obtain ⟨hq, hb6⟩ := hw6; obtain ⟨h6, l6, A6, c6, hk6⟩ := hq rfl; have y6 := pw_cell_below hb6 X4.out; obtain ⟨c0, c1, c2, c3⟩ := hk6.cells; have HK6 := Lib.hid hk6; have HB6 := Lib.hid (HB4.out.trans (hb6.mono HB4.out.size)); clear hk6 hq) | (go_at_call 41; refine (HKD.out _ (HT.out.below HB6.out)).mono ?_; rintro e w7 ⟨rfl, hb7⟩; have y7 := pw_cell_below hb7 y6; have c17 := pw_cell_below hb7 c1; have HB7 := Lib.hid (HB6.out.trans (hb7.mono HB6.out.size))))
            go_ret3
            exact ⟨rfl, HB7.out⟩
        · rw [if_neg he] at HR
          have b4 : (re != 0) = true := bne_iff_ne.2 he
          have hR := Option.some.inj HR.out
          subst hR
          clear he
          go_wp2_with (go_at_call 59; refine HWK.out.mono ?_; rintro e w6 ⟨rfl, hw6⟩)
          go_ret3
          exact ⟨rfl, HB4.out.trans (hw6.2.mono HB4.out.size)⟩
  · rw [if_neg h0] at hR
    have hR := Option.some.inj hR
    subst hR
    have b3 : (beginE s != 0) = true := bne_iff_ne.2 h0
    generalize beginE s = e0 at HBG b3
    clear h0 hT
    go_enter Try.func26, Try.ntmps26
    go_wp2_with (first | (go_at_call 57; refine (HBG.out _).mono ?_; rintro e w2 ⟨rfl, rfl⟩))
    go_ret3
    exact ⟨rfl, Below.refl _ _⟩
end Go.Proofs.Ytjfigngmpagloaa.Tw

namespace Go.Proofs.Ytjfigngmpagloaa.Ext
end Go.Proofs.Ytjfigngmpagloaa.Ext
namespace Go.Proofs.Ytjfigngmpagloaa.X
open Go.RowKit Go.Proofs.YtjfigngmpagloaaW.PrintWords Go.Proofs.YtjfigngmpagloaaW.PrintLast Go.Proofs.YtjfigngmpagloaaW.PrintMore Go.Proofs.Ytjfigngmpagloaa.Ext
attribute [local go_sem] max2_int min2_int max_two min_two max_three min_three max_four min_four   -- for this text's walks alone
set_option linter.unusedVariables false
set_option linter.unusedSimpArgs false

mutual
def linhayref08_Go.j0 : Nat → Int → List ByteArray → Bool → Int → Int → Bool → List (S97) → Int → Int → Int → ByteArray → Int → ByteArray → Option (Int × Int × Int)
  | 0, _, _, _, _, _, _, _, _, _, _, _, _, _ => none
  | k + 1, x1, x2, x3, x4, x14, x75, x198000, x198001, x223000, x223001, x223002, x223003, x223004 => if x75 = true then (if 1 ≤ (x2.length : Int) then ((linhayref08_Go.f k x198000 x198001 x14 (x2.drop 1) x3 x4).bind fun bt224 => (some (bt224.1, bt224.2.1, bt224.2.2))) else (none)) else (if x4 = 40 then (some (0, x4, 10)) else (if 0 < (x223004.size : Int) then (if (bt x223004 0) = 47 then ((linhayref04_Parts.f k x223004).bind fun t227 => (if ([] : List ByteArray).length + t227.length < 8796093022208 then ((some (([] : List ByteArray) ++ t227 : List ByteArray)).bind fun y230 => (if 1 ≤ (x2.length : Int) then (if y230.length + (x2.drop 1).length < 8796093022208 then ((linhayref08_Go.f k x198000 x198001 1 (y230 ++ (x2.drop 1)) x3 (wrap64 (x4 + 1))).bind fun bt237 => (some (bt237.1, bt237.2.1, bt237.2.2))) else (none)) else (none))) else (none))) else ((linhayref04_Parts.f k x223004).bind fun t240 => (if ([] : List ByteArray).length + t240.length < 8796093022208 then ((some (([] : List ByteArray) ++ t240 : List ByteArray)).bind fun y243 => (if 1 ≤ (x2.length : Int) then (if y243.length + (x2.drop 1).length < 8796093022208 then ((linhayref08_Go.f k x198000 x198001 x1 (y243 ++ (x2.drop 1)) x3 (wrap64 (x4 + 1))).bind fun bt250 => (some (bt250.1, bt250.2.1, bt250.2.2))) else (none)) else (none))) else (none)))) else (none)))
def linhayref08_Go.f : Nat → List (S97) → Int → Int → List ByteArray → Bool → Int → Option (Int × Int × Int)
  | 0, _, _, _, _, _, _ => none
  | k + 1, l0_0, a0_1, a1, l2, a3, a4 => if (l2.length : Int) = 0 then (some (a1, a4, 0)) else ((linhayref07_At.f k l0_0 a0_1 a1).bind fun bt198 => (if bt198.2.2.2.1 = 1 then (if 0 < (l2.length : Int) then (if (rdOf ByteArray.empty l2 0).toList = ([46, 46] : List UInt8) then ((linhayref07_At.f k l0_0 a0_1 a1).bind fun bt204 => (if 1 ≤ (l2.length : Int) then ((linhayref08_Go.f k l0_0 a0_1 bt204.2.1 (l2.drop 1) a3 a4).bind fun bt210 => (some (bt210.1, bt210.2.1, bt210.2.2))) else (none))) else ((linhayref03_Check.f k (rdOf ByteArray.empty l2 0)).bind fun t214 => (if t214 = 0 then ((linhayref07_In.f k l0_0 a0_1 a1 (rdOf ByteArray.empty l2 0)).bind fun t216 => ((linhayref07_At.f k l0_0 a0_1 t216).bind fun bt217 => (if t216 = 0 then (some (0, a4, 5)) else (if bt217.2.2.2.1 = 3 then (if (l2.length : Int) = 1 then (linhayref08_Go.j0 k a1 l2 a3 a4 t216 (!a3) l0_0 a0_1 bt217.1 bt217.2.1 bt217.2.2.1 bt217.2.2.2.1 bt217.2.2.2.2) else (linhayref08_Go.j0 k a1 l2 a3 a4 t216 false l0_0 a0_1 bt217.1 bt217.2.1 bt217.2.2.1 bt217.2.2.2.1 bt217.2.2.2.2)) else (linhayref08_Go.j0 k a1 l2 a3 a4 t216 true l0_0 a0_1 bt217.1 bt217.2.1 bt217.2.2.1 bt217.2.2.2.1 bt217.2.2.2.2))))) else (some (0, a4, t214))))) else (none)) else (some (0, a4, 7))))
end
end Go.Proofs.Ytjfigngmpagloaa.X

namespace Go.Proofs.Ytjfigngmpagloaa.Ext
end Go.Proofs.Ytjfigngmpagloaa.Ext
namespace Go.Proofs.Ytjfigngmpagloaa.X
open Go.RowKit Go.Proofs.YtjfigngmpagloaaW.PrintWords Go.Proofs.YtjfigngmpagloaaW.PrintLast Go.Proofs.YtjfigngmpagloaaW.PrintMore Go.Proofs.Ytjfigngmpagloaa.Ext
attribute [local go_sem] max2_int min2_int max_two min_two max_three min_three max_four min_four   -- for this text's walks alone
set_option linter.unusedVariables false
set_option linter.unusedSimpArgs false

def linhayref08_Find.f (k : Nat) (l0_0 : List (S97)) (a0_1 : Int) (a1 : ByteArray) (a2 : Bool) : Option (Int × Int) := if a1.toList = ([] : List UInt8) then (some (0, 5)) else (if (a1.size : Int) > 1024 then (some (0, 11)) else ((linhayref04_Parts.f k a1).bind fun t254 => ((linhayref08_Go.f k l0_0 a0_1 1 t254 a2 0).bind fun bt257 => (some (bt257.1, bt257.2.2)))))
end Go.Proofs.Ytjfigngmpagloaa.X
