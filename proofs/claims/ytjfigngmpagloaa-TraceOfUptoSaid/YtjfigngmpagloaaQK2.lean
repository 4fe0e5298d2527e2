/- Texts of this session, merged: X1, PureR04, PureIs, X2, X3, X4, Ref7, Rel, Rput, RputOk, RelPut, Frm, KeepC, TraceA, TraceB, TraceC, MadeF, Good, Spot. -/
import Derived.Test.YtjfigngmpagloaaQK1
import Derived.Deep.RegionLaw
import Derived.Deep.AppendLies
import Derived.StillTailTactics

namespace Go.Proofs.Ytjfigngmpagloaa.Ext
end Go.Proofs.Ytjfigngmpagloaa.Ext
namespace Go.Proofs.Ytjfigngmpagloaa.X
open Go.RowKit Go.Proofs.YtjfigngmpagloaaW.PrintWords Go.Proofs.YtjfigngmpagloaaW.PrintLast Go.Proofs.YtjfigngmpagloaaW.PrintMore Go.Proofs.Ytjfigngmpagloaa.Ext
attribute [local go_sem] max2_int min2_int max_two min_two max_three min_three max_four min_four   -- for this text's walks alone
set_option linter.unusedVariables false
set_option linter.unusedSimpArgs false

mutual
def linhayref04_Parts.l0 : Nat → ByteArray → List ByteArray → ByteArray → Int → Option (List ByteArray)
  | 0, _, _, _, _ => none
  | k + 1, x0, x3, x4, x5 => if x5 ≤ (x0.size : Int) then (if x5 < (x0.size : Int) then (if 0 ≤ x5 then (linhayref04_Parts.j1 k x0 x3 x4 x5 ((bt x0 x5) != 47)) else (none)) else (linhayref04_Parts.j1 k x0 x3 x4 x5 false)) else (some x3)
def linhayref04_Parts.j1 : Nat → ByteArray → List ByteArray → ByteArray → Int → Bool → Option (List ByteArray)
  | 0, _, _, _, _, _ => none
  | k + 1, x0, x3, x4, x5, x21 => if x21 = true then (if 0 ≤ x5 then (if x5 ≤ (wrap64 (x5 + 1)) then (if (wrap64 (x5 + 1)) ≤ (x0.size : Int) then (if x4.size + (x0.extract (x5 : Int).toNat ((wrap64 (x5 + 1)) : Int).toNat).size ≤ 9223372036854775807 then (linhayref04_Parts.l0 k x0 x3 (x4 ++ (x0.extract (x5 : Int).toNat ((wrap64 (x5 + 1)) : Int).toNat)) (wrap64 (x5 + 1))) else (none)) else (none)) else (none)) else (none)) else (if x4.toList = ([] : List UInt8) then (linhayref04_Parts.l0 k x0 x3 (⟨#[]⟩ : ByteArray) (wrap64 (x5 + 1))) else (if x4.toList = ([46] : List UInt8) then (linhayref04_Parts.l0 k x0 x3 (⟨#[]⟩ : ByteArray) (wrap64 (x5 + 1))) else (if x3.length < 8796093022208 then (linhayref04_Parts.l0 k x0 (x3 ++ [x4]) (⟨#[]⟩ : ByteArray) (wrap64 (x5 + 1))) else (none))))
end
def linhayref04_Parts.f (k : Nat) (a0 : ByteArray) : Option (List ByteArray) := linhayref04_Parts.l0 k a0 ([] : List ByteArray) (⟨#[]⟩ : ByteArray) 0
set_option maxHeartbeats 8000000 in
set_option maxRecDepth 100000 in
theorem linhayref04_Parts.calls (k : Nat) (a0 : ByteArray) (r : List ByteArray) (w : World) (h : linhayref04_Parts.f k a0 = some r) :
  Calls Try.prog 61 #[.string a0] w fun e w' => ∃ v0_ : Value, e = .returned (v0_) ∧ Kd.R Kd.string 9 w' w.heap.size (fun _ => True) v0_ r ∧ Below w.heap.size w w' := by
 have hu75 := Try.underlying75
 have hu76 := Try.underlying76
 have hu89 := Try.underlying89
 have hu97 := Try.underlying97
 have hu108 := Try.underlying108
 have HB := Aside0.mk (Below.refl w.heap.size w)
 have H : (linhayref04_Parts.l0 k a0 ([] : List ByteArray) (⟨#[]⟩ : ByteArray) 0) = some r := h
 clear h
 have H' := Aside0.mk H
 clear H
 go_enter Try.func61, Try.ntmps61
 go_wp2
 go_loopg [3, 4, 5] k (fun kq v3 v4 v5 w' => ∃ (x3_1 : List ByteArray) (x4_1 : ByteArray) (x5_1 : Int), v4 = .string x4_1 ∧ v5 = .int .i64 x5_1 ∧ Aside0 (linhayref04_Parts.l0 kq a0 x3_1 x4_1 x5_1 = some r) ∧ Aside0 (kq ≤ k) ∧ Aside0 (Kd.R Kd.string 9 w' w.heap.size (fun _ => True) v3 x3_1) ∧ Aside0 (Below w.heap.size w w'))
 case atStart => exact ⟨(([] : List ByteArray)), ((⟨#[]⟩ : ByteArray)), (0), (by first | rfl | (simp; done) | (simp [*]; done) | (simp [bne_nil]; done)), (by first | rfl | (simp; done) | (simp [*]; done) | (simp [bne_nil]; done)), H', ⟨Nat.le_refl _⟩, ⟨by first | exact Kd.R_nil _ _ _ _ _ | exact Kd.N_nil _ _ _ _ _ | exact Kd.V_nil _ _ _ _ _ | exact Kd.Q_nil _ _ _ _ _ | exact Kd.S_nil _ _ _ _ _⟩, ⟨by repeat (first | (with_reducible first | exact HB.out | apply below_alloc | apply pw_below_drewN | apply below_drew1) | exact HB.out)⟩⟩
 case round =>
  clear H'
  obtain ⟨x3_1, x4_1, x5_1, rfl, rfl, HA, HK1, HO_3, HB⟩ := hrel
  cases gk with
  | zero => exact absurd HA.out (by simp [linhayref04_Parts.l0])
  | succ k1 =>
   have H := HA.out
   clear HA
   simp only [linhayref04_Parts.l0] at H
   by_cases c2 : x5_1 ≤ (a0.size : Int)
   ·
    rw [if_pos c2] at H
    have c2b0 : decide (x5_1 ≤ (a0.size : Int)) = true := decide_eq_true c2
    clear c2
    have HC3 := Aside0.mk H
    clear H
    go_upto_region 6 with (fail)
    go_cut [21] (fun v21 wc => ∃ (kq : Nat) (x21_2 : Bool), v21 = .bool x21_2 ∧ Aside0 (linhayref04_Parts.j1 kq a0 x3_1 x4_1 x5_1 x21_2 = some r) ∧ Aside0 (kq ≤ k1) ∧ Aside0 (Kd.R Kd.string 9 wc w.heap.size (fun _ => True) u3 x3_1) ∧ Aside0 (Below w.heap.size w wc))
    case first =>
     have H := HC3.out
     clear HC3
     by_cases c4 : x5_1 < (a0.size : Int)
     ·
      rw [if_pos c4] at H
      have c4b0 : decide (x5_1 < (a0.size : Int)) = true := decide_eq_true c4
      clear c4
      (first | rw [c4b0] | (simp only [i64_w, i32_w]; rw [c4b0]) | skip)
      by_cases c5 : 0 ≤ x5_1
      ·
       rw [if_pos c5] at H
       have c5b0 : decide (0 ≤ x5_1) = true := decide_eq_true c5
       clear c5
       have H' := Aside0.mk H
       clear H
       have p6 : 0 ≤ (x5_1 : Int) := of_decide_eq_true (by first | (with_reducible assumption) | assumption)
       have q6 : x5_1 < (a0.size : Int) := of_decide_eq_true (by first | (with_reducible assumption) | assumption)
       have hx6 := bt_at a0 x5_1
       replace p6 := eq_true p6
       replace q6 := eq_true q6
       go_wp2
       go_meet
       case rel => exact ⟨_, (((bt a0 x5_1) != 47)), (by first | rfl | (simp; done) | (simp [*]; done) | (simp [bne_nil]; done)), H', ⟨by have := HK1.out; first | omega | exact Nat.le_refl _⟩, ⟨by (with_reducible repeat (first | apply Kd.R_alloc | apply Kd.R_drewN | apply Kd.R_drew)); first | exact HO_3.out | exact own_cut HO_3.out⟩, ⟨by repeat (first | (with_reducible first | exact HB.out | apply below_alloc | apply pw_below_drewN | apply below_drew1) | exact HB.out)⟩⟩
      ·
       rw [if_neg c5] at H
       exact absurd H (by simp)
     ·
      rw [if_neg c4] at H
      have c4b0 : decide (x5_1 < (a0.size : Int)) = false := decide_eq_false c4
      clear c4
      (first | rw [c4b0] | (simp only [i64_w, i32_w]; rw [c4b0]) | skip)
      have H' := Aside0.mk H
      clear H
      go_wp2
      go_meet
      case rel => exact ⟨_, (false), (by first | rfl | (simp; done) | (simp [*]; done) | (simp [bne_nil]; done)), H', ⟨by have := HK1.out; first | omega | exact Nat.le_refl _⟩, ⟨by (with_reducible repeat (first | apply Kd.R_alloc | apply Kd.R_drewN | apply Kd.R_drew)); first | exact HO_3.out | exact own_cut HO_3.out⟩, ⟨by repeat (first | (with_reducible first | exact HB.out | apply below_alloc | apply pw_below_drewN | apply below_drew1) | exact HB.out)⟩⟩
    case rest =>
     clear HC3
     try clear c2
     try clear c2b0
     try clear p2
     try clear c4
     try clear c4b0
     try clear c5
     try clear c5b0
     try clear c6
     try clear p6
     try clear q6
     try clear hx6
     try clear p6
     try clear q6
     obtain ⟨kq, x21_2, rfl, HA, HJ2, HO_3, HB⟩ := hcut
     cases kq with
     | zero => exact absurd HA.out (by simp [linhayref04_Parts.j1])
     | succ kj2 =>
      have H := HA.out
      clear HA
      simp only [linhayref04_Parts.j1] at H
      by_cases c7 : x21_2 = true
      ·
       subst c7
       have H1 : (if 0 ≤ x5_1 then (if x5_1 ≤ (wrap64 (x5_1 + 1)) then (if (wrap64 (x5_1 + 1)) ≤ (a0.size : Int) then (if x4_1.size + (a0.extract (x5_1 : Int).toNat ((wrap64 (x5_1 + 1)) : Int).toNat).size ≤ 9223372036854775807 then (linhayref04_Parts.l0 kj2 a0 x3_1 (x4_1 ++ (a0.extract (x5_1 : Int).toNat ((wrap64 (x5_1 + 1)) : Int).toNat)) (wrap64 (x5_1 + 1))) else (none)) else (none)) else (none)) else (none)) = some r := by rw [if_pos rfl] at H; exact H
       clear H
       have H := H1
       clear H1
       by_cases c8 : 0 ≤ x5_1
       ·
        rw [if_pos c8] at H
        have c8b0 := eq_true c8
        have c8b1 : decide (0 ≤ x5_1) = true := decide_eq_true c8
        clear c8
        by_cases c9 : x5_1 ≤ (wrap64 (x5_1 + 1))
        ·
         rw [if_pos c9] at H
         have c9b0 := eq_true c9
         have c9b1 : decide (x5_1 ≤ (wrap64 (x5_1 + 1))) = true := decide_eq_true c9
         by_cases c10 : (wrap64 (x5_1 + 1)) ≤ (a0.size : Int)
         ·
          rw [if_pos c10] at H
          have c10b0 := eq_true c10
          have c10b1 : decide ((wrap64 (x5_1 + 1)) ≤ (a0.size : Int)) = true := decide_eq_true c10
          by_cases c11 : x4_1.size + (a0.extract (x5_1 : Int).toNat ((wrap64 (x5_1 + 1)) : Int).toNat).size ≤ 9223372036854775807
          ·
           rw [if_pos c11] at H
           have c11b0 := eq_true c11
           have c11b1 : decide (x4_1.size + (a0.extract (x5_1 : Int).toNat ((wrap64 (x5_1 + 1)) : Int).toNat).size ≤ 9223372036854775807) = true := decide_eq_true c11
           try have c11b2 : (9223372036854775807 < x4_1.size + (a0.extract (x5_1 : Int).toNat ((wrap64 (x5_1 + 1)) : Int).toNat).size) = False := eq_false (Nat.not_lt.2 c11)
           try (have c11b3 : ∀ m_ : Nat, 9223372036854775807 ≤ m_ → x4_1.size + (a0.extract (x5_1 : Int).toNat ((wrap64 (x5_1 + 1)) : Int).toNat).size ≤ m_ := fun m_ h_ => Nat.le_trans c11 h_; simp [go_sem, *] at c11b3; have c11b4 := eq_false (Nat.not_lt.2 (c11b3 _ (Nat.le_refl _))); clear c11b3)
           have H' := Aside0.mk H
           clear H
           go_wp2
           go_roundg kj2
           case measure => have := HK1.out; have := HJ2.out; omega
           case rel => exact ⟨(x3_1), (x4_1 ++ (a0.extract (x5_1 : Int).toNat ((wrap64 (x5_1 + 1)) : Int).toNat)), (wrap64 (x5_1 + 1)), (by first | rfl | (simp; done) | (simp [*]; done) | (simp [bne_nil]; done)), (by first | rfl | (simp; done) | (simp [*]; done) | (simp [bne_nil]; done)), H', ⟨by have := HK1.out; have := HJ2.out; omega⟩, ⟨by (with_reducible repeat (first | apply Kd.R_alloc | apply Kd.R_drewN | apply Kd.R_drew)); first | exact HO_3.out | exact own_cut HO_3.out⟩, ⟨by repeat (first | (with_reducible first | exact HB.out | apply below_alloc | apply pw_below_drewN | apply below_drew1) | exact HB.out)⟩⟩
          ·
           rw [if_neg c11] at H
           exact absurd H (by simp)
         ·
          rw [if_neg c10] at H
          exact absurd H (by simp)
        ·
         rw [if_neg c9] at H
         exact absurd H (by simp)
       ·
        rw [if_neg c8] at H
        exact absurd H (by simp)
      ·
       replace c7 := Bool.eq_false_iff.mpr c7
       subst c7
       have H1 : (if x4_1.toList = ([] : List UInt8) then (linhayref04_Parts.l0 kj2 a0 x3_1 (⟨#[]⟩ : ByteArray) (wrap64 (x5_1 + 1))) else (if x4_1.toList = ([46] : List UInt8) then (linhayref04_Parts.l0 kj2 a0 x3_1 (⟨#[]⟩ : ByteArray) (wrap64 (x5_1 + 1))) else (if x3_1.length < 8796093022208 then (linhayref04_Parts.l0 kj2 a0 (x3_1 ++ [x4_1]) (⟨#[]⟩ : ByteArray) (wrap64 (x5_1 + 1))) else (none)))) = some r := by rw [if_neg (show ¬ (false = true) by decide)] at H; exact H
       clear H
       have H := H1
       clear H1
       by_cases c12 : x4_1.toList = ([] : List UInt8)
       ·
        rw [if_pos c12] at H
        have c12b0 : (x4_1.toList == ([] : List UInt8)) = true := beq_iff_eq.mpr c12
        have c12b1 : (x4_1.toList != ([] : List UInt8)) = false := bne_eq_false_iff_eq.mpr c12
        clear c12
        have H' := Aside0.mk H
        clear H
        go_wp2
        go_roundg kj2
        case measure => have := HK1.out; have := HJ2.out; omega
        case rel => exact ⟨(x3_1), ((⟨#[]⟩ : ByteArray)), (wrap64 (x5_1 + 1)), (by first | rfl | (simp; done) | (simp [*]; done) | (simp [bne_nil]; done)), (by first | rfl | (simp; done) | (simp [*]; done) | (simp [bne_nil]; done)), H', ⟨by have := HK1.out; have := HJ2.out; omega⟩, ⟨by (with_reducible repeat (first | apply Kd.R_alloc | apply Kd.R_drewN | apply Kd.R_drew)); first | exact HO_3.out | exact own_cut HO_3.out⟩, ⟨by repeat (first | (with_reducible first | exact HB.out | apply below_alloc | apply pw_below_drewN | apply below_drew1) | exact HB.out)⟩⟩
       ·
        rw [if_neg c12] at H
        have c12b0 : (x4_1.toList == ([] : List UInt8)) = false := beq_eq_false_iff_ne.mpr c12
        have c12b1 : (x4_1.toList != ([] : List UInt8)) = true := bne_iff_ne.mpr c12
        by_cases c13 : x4_1.toList = ([46] : List UInt8)
        ·
         rw [if_pos c13] at H
         have c13b0 : (x4_1.toList == ([46] : List UInt8)) = true := beq_iff_eq.mpr c13
         have c13b1 : (x4_1.toList != ([46] : List UInt8)) = false := bne_eq_false_iff_eq.mpr c13
         clear c13
         have H' := Aside0.mk H
         clear H
         go_wp2
         go_roundg kj2
         case measure => have := HK1.out; have := HJ2.out; omega
         case rel => exact ⟨(x3_1), ((⟨#[]⟩ : ByteArray)), (wrap64 (x5_1 + 1)), (by first | rfl | (simp; done) | (simp [*]; done) | (simp [bne_nil]; done)), (by first | rfl | (simp; done) | (simp [*]; done) | (simp [bne_nil]; done)), H', ⟨by have := HK1.out; have := HJ2.out; omega⟩, ⟨by (with_reducible repeat (first | apply Kd.R_alloc | apply Kd.R_drewN | apply Kd.R_drew)); first | exact HO_3.out | exact own_cut HO_3.out⟩, ⟨by repeat (first | (with_reducible first | exact HB.out | apply below_alloc | apply pw_below_drewN | apply below_drew1) | exact HB.out)⟩⟩
        ·
         rw [if_neg c13] at H
         have c13b0 : (x4_1.toList == ([46] : List UInt8)) = false := beq_eq_false_iff_ne.mpr c13
         have c13b1 : (x4_1.toList != ([46] : List UInt8)) = true := bne_iff_ne.mpr c13
         by_cases c14 : x3_1.length < 8796093022208
         ·
          rw [if_pos c14] at H
          have LMc14 := Aside0.mk c14
          clear c14
          obtain ⟨y101, hy101⟩ : ∃ y_ : List ByteArray, y_ = (x3_1 ++ [x4_1]) := ⟨_, rfl⟩
          replace H : (linhayref04_Parts.l0 kj2 a0 y101 (⟨#[]⟩ : ByteArray) (wrap64 (x5_1 + 1))) = some r := by first | (rw [hy101]; with_reducible exact H) | (have H2_ := (Option.bind_some _ _).symm.trans H; rw [hy101]; with_reducible exact H2_) | (have H2_ := (Option.bind_some _ _).symm.trans H; with_reducible exact H2_) | with_reducible exact H | (rw [hy101]; exact H) | exact H
          have Ny101 := Aside0.mk hy101
          clear hy101
          have H' := Aside0.mk H
          clear H
          go_wp2_with (first | ((with_reducible refine gate_builtin (b := .append) (xs := #[.tmp 35, .tmp 37]) rfl ?_); at_builtin; refine Kd.R_append Kd.string (w0 := w) w.heap.size rfl (.tmp 35) (.tmp 37) 42 9 (.string ⟨#[]⟩) 16 rfl Try.underlying42 info9 rfl (by decide) (by omega) u3 x3_1 x4_1 [.string x4_1] (fun _ => True) (fun _ => False) rfl rfl ?aP (fun _ hk => hk.elim) ?aF ?aO ?aB ?aS ?aL ?_; (case aP => exact rfl); (case aB => exact (by repeat (first | (with_reducible first | exact HB.out | apply below_alloc | apply pw_below_drewN | apply below_drew1) | exact HB.out))); (case aF => exact (fun _ _ => trivial)); (case aO => exact (by (with_reducible repeat (first | apply Kd.R_alloc | apply Kd.R_drewN | apply Kd.R_drew)); exact HO_3.out)); (case aS => exact (below_size (by repeat (first | (with_reducible first | exact HB.out | apply below_alloc | apply pw_below_drewN | apply below_drew1) | exact HB.out)))); (case aL => have := LMc14.out; omega); intro v102 w15 ho hb hg hat; rw [← Ny101.out] at ho; have n0_ := Aside0.mk (hb); have n1_ := Aside0.mk (ho); clear HB; clear HO_3; have HB := n0_; have HO103 := n1_; clear n0_ n1_; clear ho hb hg hat))
          go_roundg kj2
          case measure => have := HK1.out; have := HJ2.out; omega
          case rel => exact ⟨(y101), ((⟨#[]⟩ : ByteArray)), (wrap64 (x5_1 + 1)), (by first | rfl | (simp; done) | (simp [*]; done) | (simp [bne_nil]; done)), (by first | rfl | (simp; done) | (simp [*]; done) | (simp [bne_nil]; done)), H', ⟨by have := HK1.out; have := HJ2.out; omega⟩, ⟨by (with_reducible repeat (first | apply Kd.R_alloc | apply Kd.R_drewN | apply Kd.R_drew)); first | exact HO103.out | exact own_cut HO103.out⟩, ⟨by repeat (first | (with_reducible first | exact HB.out | apply below_alloc | apply pw_below_drewN | apply below_drew1) | exact HB.out)⟩⟩
         ·
          rw [if_neg c14] at H
          exact absurd H (by simp)
   ·
    rw [if_neg c2] at H
    have c2b0 : decide (x5_1 ≤ (a0.size : Int)) = false := decide_eq_false c2
    clear c2
    obtain rfl := Option.some.inj H
    go_wp2
    go_ret
    exact ⟨_, by first | rfl | (simp [errW_none, errW_some] <;> rfl) | (simp [*, errW_none, errW_some] <;> rfl) | (simp [errW_none, errW_some, bne_nil]; done) | (simp [*, bne_nil]; done) | (simp [bne]; done), by (with_reducible repeat (first | apply Kd.R_alloc | apply Kd.R_drewN | apply Kd.R_drew)); exact HO_3.out, by repeat (first | (with_reducible first | exact HB.out | apply below_alloc | apply pw_below_drewN | apply below_drew1) | exact HB.out)⟩

def linhayref03_Check.l0 : Nat → ByteArray → Int → Option (Int)
  | 0, _, _ => none
  | k + 1, x0, x3 => if x3 < (x0.size : Int) then (if 0 ≤ x3 then (if (bt x0 x3) = 0 then (some 11) else (if (bt x0 x3) = 47 then (some 11) else (linhayref03_Check.l0 k x0 (wrap64 (x3 + 1))))) else (none)) else (if x0.toList = ([46] : List UInt8) then (some 6) else (if x0.toList = ([46, 46] : List UInt8) then (some 6) else (some 0)))
def linhayref03_Check.f (k : Nat) (a0 : ByteArray) : Option (Int) := if (a0.size : Int) = 0 then (some 5) else (if (a0.size : Int) > 64 then (some 11) else (linhayref03_Check.l0 k a0 0))
set_option maxHeartbeats 8000000 in
set_option maxRecDepth 100000 in
theorem linhayref03_Check.calls (k : Nat) (a0 : ByteArray) (r : Int) (w : World) (h : linhayref03_Check.f k a0 = some r) :
  Calls Try.prog 64 #[.string a0] w fun e w' => e = .returned (.int .i64 r) ∧ Drawn0 w w' := by
 have hu75 := Try.underlying75
 have hu76 := Try.underlying76
 have hu89 := Try.underlying89
 have hu97 := Try.underlying97
 have hu108 := Try.underlying108
 have H : (if (a0.size : Int) = 0 then (some 5) else (if (a0.size : Int) > 64 then (some 11) else (linhayref03_Check.l0 k a0 0))) = some r := h
 clear h
 by_cases c2 : (a0.size : Int) = 0
 ·
  rw [if_pos c2] at H
  have c2b0 : ((a0.size : Int) == 0) = true := beq_iff_eq.mpr c2
  have c2b1 : ((a0.size : Int) != 0) = false := bne_eq_false_iff_eq.mpr c2
  clear c2
  obtain rfl := Option.some.inj H
  go_enter Try.func64, Try.ntmps64
  go_wp2
  go_ret
  exact ⟨by first | rfl | (simp; done) | (simp [*]; done), by repeat (first | exact Drawn0.refl _ | apply Drawn0.step)⟩
 ·
  rw [if_neg c2] at H
  have c2b0 : ((a0.size : Int) == 0) = false := beq_eq_false_iff_ne.mpr c2
  have c2b1 : ((a0.size : Int) != 0) = true := bne_iff_ne.mpr c2
  by_cases c3 : (a0.size : Int) > 64
  ·
   rw [if_pos c3] at H
   have c3b0 : decide (64 < (a0.size : Int)) = true := decide_eq_true c3
   have c3b1 : decide (64 < a0.size) = true := decide_eq_true (by omega)
   clear c3
   obtain rfl := Option.some.inj H
   go_enter Try.func64, Try.ntmps64
   go_wp2
   go_ret
   exact ⟨by first | rfl | (simp; done) | (simp [*]; done), by repeat (first | exact Drawn0.refl _ | apply Drawn0.step)⟩
  ·
   rw [if_neg c3] at H
   have c3b0 : decide (64 < (a0.size : Int)) = false := decide_eq_false c3
   have c3b1 : decide (64 < a0.size) = false := decide_eq_false (by omega)
   clear c3
   have H' := Aside0.mk H
   clear H
   go_enter Try.func64, Try.ntmps64
   go_wp2
   go_loopg [3] k (fun kq v3 w' => ∃ (x3_1 : Int), v3 = .int .i64 x3_1 ∧ Aside0 (linhayref03_Check.l0 kq a0 x3_1 = some r) ∧ Aside0 (kq ≤ k) ∧ Drawn0 w w')
   case atStart => exact ⟨(0), (by first | rfl | (simp; done) | (simp [*]; done) | (simp [bne_nil]; done)), H', ⟨Nat.le_refl _⟩, by repeat (first | exact Drawn0.refl _ | apply Drawn0.step)⟩
   case round =>
    clear H'
    try clear c2
    try clear c2b0
    try clear c2b1
    try clear p2
    try clear c3
    try clear c3b0
    try clear c3b1
    obtain ⟨x3_1, rfl, HA, HK1, ⟨m1, rfl⟩⟩ := hrel
    cases gk with
    | zero => exact absurd HA.out (by simp [linhayref03_Check.l0])
    | succ k1 =>
     have H := HA.out
     clear HA
     simp only [linhayref03_Check.l0] at H
     by_cases c4 : x3_1 < (a0.size : Int)
     ·
      rw [if_pos c4] at H
      have c4b0 : decide (x3_1 < (a0.size : Int)) = true := decide_eq_true c4
      clear c4
      by_cases c5 : 0 ≤ x3_1
      ·
       rw [if_pos c5] at H
       have c5b0 : decide (0 ≤ x3_1) = true := decide_eq_true c5
       clear c5
       by_cases c7 : (bt a0 x3_1) = 0
       ·
        rw [if_pos c7] at H
        have c7b0 : ((bt a0 x3_1) == 0) = true := beq_iff_eq.mpr c7
        have c7b1 : ((bt a0 x3_1) != 0) = false := bne_eq_false_iff_eq.mpr c7
        clear c7
        obtain rfl := Option.some.inj H
        have p6 : 0 ≤ (x3_1 : Int) := of_decide_eq_true (by first | (with_reducible assumption) | assumption)
        have q6 : x3_1 < (a0.size : Int) := of_decide_eq_true (by first | (with_reducible assumption) | assumption)
        have hx6 := bt_at a0 x3_1
        replace p6 := eq_true p6
        replace q6 := eq_true q6
        go_wp2
        go_ret
        exact ⟨by first | rfl | (simp; done) | (simp [*]; done), by repeat (first | exact Drawn0.refl _ | apply Drawn0.step)⟩
       ·
        rw [if_neg c7] at H
        have c7b0 : ((bt a0 x3_1) == 0) = false := beq_eq_false_iff_ne.mpr c7
        have c7b1 : ((bt a0 x3_1) != 0) = true := bne_iff_ne.mpr c7
        by_cases c9 : (bt a0 x3_1) = 47
        ·
         rw [if_pos c9] at H
         have c9b0 : ((bt a0 x3_1) == 47) = true := beq_iff_eq.mpr c9
         have c9b1 : ((bt a0 x3_1) != 47) = false := bne_eq_false_iff_eq.mpr c9
         clear c9
         obtain rfl := Option.some.inj H
         have p6 : 0 ≤ (x3_1 : Int) := of_decide_eq_true (by first | (with_reducible assumption) | assumption)
         have q6 : x3_1 < (a0.size : Int) := of_decide_eq_true (by first | (with_reducible assumption) | assumption)
         have hx6 := bt_at a0 x3_1
         replace p6 := eq_true p6
         replace q6 := eq_true q6
         have p8 : 0 ≤ (x3_1 : Int) := of_decide_eq_true (by first | (with_reducible assumption) | assumption)
         have q8 : x3_1 < (a0.size : Int) := of_decide_eq_true (by first | (with_reducible assumption) | assumption)
         have hx8 := bt_at a0 x3_1
         replace p8 := eq_true p8
         replace q8 := eq_true q8
         go_wp2
         go_ret
         exact ⟨by first | rfl | (simp; done) | (simp [*]; done), by repeat (first | exact Drawn0.refl _ | apply Drawn0.step)⟩
        ·
         rw [if_neg c9] at H
         have c9b0 : ((bt a0 x3_1) == 47) = false := beq_eq_false_iff_ne.mpr c9
         have c9b1 : ((bt a0 x3_1) != 47) = true := bne_iff_ne.mpr c9
         have H' := Aside0.mk H
         clear H
         have p6 : 0 ≤ (x3_1 : Int) := of_decide_eq_true (by first | (with_reducible assumption) | assumption)
         have q6 : x3_1 < (a0.size : Int) := of_decide_eq_true (by first | (with_reducible assumption) | assumption)
         have hx6 := bt_at a0 x3_1
         replace p6 := eq_true p6
         replace q6 := eq_true q6
         have p8 : 0 ≤ (x3_1 : Int) := of_decide_eq_true (by first | (with_reducible assumption) | assumption)
         have q8 : x3_1 < (a0.size : Int) := of_decide_eq_true (by first | (with_reducible assumption) | assumption)
         have hx8 := bt_at a0 x3_1
         replace p8 := eq_true p8
         replace q8 := eq_true q8
         go_wp2
         go_roundg k1
         case measure => have := HK1.out; omega
         case rel => exact ⟨(wrap64 (x3_1 + 1)), (by first | rfl | (simp; done) | (simp [*]; done) | (simp [bne_nil]; done)), H', ⟨by have := HK1.out; omega⟩, by repeat (first | exact Drawn0.refl _ | apply Drawn0.step)⟩
      ·
       rw [if_neg c5] at H
       exact absurd H (by simp)
     ·
      rw [if_neg c4] at H
      have c4b0 : decide (x3_1 < (a0.size : Int)) = false := decide_eq_false c4
      clear c4
      by_cases c10 : a0.toList = ([46] : List UInt8)
      ·
       rw [if_pos c10] at H
       have c10b0 : (a0.toList == ([46] : List UInt8)) = true := beq_iff_eq.mpr c10
       have c10b1 : (a0.toList != ([46] : List UInt8)) = false := bne_eq_false_iff_eq.mpr c10
       clear c10
       obtain rfl := Option.some.inj H
       go_wp2
       go_ret
       exact ⟨by first | rfl | (simp; done) | (simp [*]; done), by repeat (first | exact Drawn0.refl _ | apply Drawn0.step)⟩
      ·
       rw [if_neg c10] at H
       have c10b0 : (a0.toList == ([46] : List UInt8)) = false := beq_eq_false_iff_ne.mpr c10
       have c10b1 : (a0.toList != ([46] : List UInt8)) = true := bne_iff_ne.mpr c10
       by_cases c11 : a0.toList = ([46, 46] : List UInt8)
       ·
        rw [if_pos c11] at H
        have c11b0 : (a0.toList == ([46, 46] : List UInt8)) = true := beq_iff_eq.mpr c11
        have c11b1 : (a0.toList != ([46, 46] : List UInt8)) = false := bne_eq_false_iff_eq.mpr c11
        clear c11
        obtain rfl := Option.some.inj H
        go_wp2
        go_ret
        exact ⟨by first | rfl | (simp; done) | (simp [*]; done), by repeat (first | exact Drawn0.refl _ | apply Drawn0.step)⟩
       ·
        rw [if_neg c11] at H
        have c11b0 : (a0.toList == ([46, 46] : List UInt8)) = false := beq_eq_false_iff_ne.mpr c11
        have c11b1 : (a0.toList != ([46, 46] : List UInt8)) = true := bne_iff_ne.mpr c11
        obtain rfl := Option.some.inj H
        go_wp2
        go_ret
        exact ⟨by first | rfl | (simp; done) | (simp [*]; done), by repeat (first | exact Drawn0.refl _ | apply Drawn0.step)⟩

def linhaylaw08_Few.l0 : Nat → List (S89) → Int → Option (Bool)
  | 0, _, _ => none
  | k + 1, x0, x3 => if x3 < (x0.length : Int) then (if 0 ≤ x3 then (if (((rd_T89 x0 x3).f3).size : Int) > 2000 then (some false) else (linhaylaw08_Few.l0 k x0 (wrap64 (x3 + 1)))) else (none)) else (some (decide ((x0.length : Int) ≤ 60)))
def linhaylaw08_Few.f (k : Nat) (l0 : List (S89)) : Option (Bool) := linhaylaw08_Few.l0 k l0 0
set_option maxHeartbeats 8000000 in
set_option maxRecDepth 100000 in
theorem linhaylaw08_Few.calls (k : Nat) (A0 : Option Addr) (c0 : Nat) (l0 : List (S89)) (r : Bool) (w : World) (hr0 : Kd.C k89 w A0 l0.length l0) (hc0 : l0.length ≤ c0) (h : linhaylaw08_Few.f k l0 = some r) :
  Calls Try.prog 10 #[.slice A0 l0.length c0] w fun e w' => e = .returned (.bool r) ∧ Drawn0 w w' := by
 have hu75 := Try.underlying75
 have hu76 := Try.underlying76
 have hu89 := Try.underlying89
 have hu97 := Try.underlying97
 have hu108 := Try.underlying108
 have HR0 := Aside0.mk hr0
 have HC0 := Aside0.mk hc0
 clear hr0 hc0
 have H : (linhaylaw08_Few.l0 k l0 0) = some r := h
 clear h
 have H' := Aside0.mk H
 clear H
 go_enter Try.func10, Try.ntmps10
 go_wp2
 go_loopg [3] k (fun kq v3 w' => ∃ (x3_1 : Int), v3 = .int .i64 x3_1 ∧ Aside0 (linhaylaw08_Few.l0 kq l0 x3_1 = some r) ∧ Aside0 (kq ≤ k) ∧ Drawn0 w w')
 case atStart => exact ⟨(0), (by first | rfl | (simp; done) | (simp [*]; done) | (simp [bne_nil]; done)), H', ⟨Nat.le_refl _⟩, by repeat (first | exact Drawn0.refl _ | apply Drawn0.step)⟩
 case round =>
  clear H'
  try clear c1
  obtain ⟨x3_1, rfl, HA, HK1, ⟨m1, rfl⟩⟩ := hrel
  cases gk with
  | zero => exact absurd HA.out (by simp [linhaylaw08_Few.l0])
  | succ k1 =>
   have H := HA.out
   clear HA
   simp only [linhaylaw08_Few.l0] at H
   by_cases c2 : x3_1 < (l0.length : Int)
   ·
    rw [if_pos c2] at H
    have c2b0 : decide (x3_1 < (l0.length : Int)) = true := decide_eq_true c2
    clear c2
    by_cases c3 : 0 ≤ x3_1
    ·
     rw [if_pos c3] at H
     have c3b0 : decide (0 ≤ x3_1) = true := decide_eq_true c3
     clear c3
     by_cases c4 : (((rd_T89 l0 x3_1).f3).size : Int) > 2000
     ·
      rw [if_pos c4] at H
      have c4b0 : decide (2000 < (((rd_T89 l0 x3_1).f3).size : Int)) = true := decide_eq_true c4
      have c4b1 : decide (2000 < ((rd_T89 l0 x3_1).f3).size) = true := decide_eq_true (by omega)
      clear c4
      obtain rfl := Option.some.inj H
      have p123 : 0 ≤ (x3_1 : Int) := of_decide_eq_true (by first | (with_reducible assumption) | assumption)
      have q123 : x3_1 < (l0.length : Int) := of_decide_eq_true (by first | (with_reducible assumption) | assumption)
      obtain ⟨ad123, e123, hx123_0, hx123_1, hx123_2, hx123_3⟩ := at_T89 HR0.out x3_1 p123 q123
      cases e123
      replace p123 := eq_true p123
      replace q123 := eq_true q123
      go_wp2
      go_ret
      exact ⟨by first | rfl | (simp; done) | (simp [*]; done), by repeat (first | exact Drawn0.refl _ | apply Drawn0.step)⟩
     ·
      rw [if_neg c4] at H
      have c4b0 : decide (2000 < (((rd_T89 l0 x3_1).f3).size : Int)) = false := decide_eq_false c4
      have c4b1 : decide (2000 < ((rd_T89 l0 x3_1).f3).size) = false := decide_eq_false (by omega)
      clear c4
      have H' := Aside0.mk H
      clear H
      have p123 : 0 ≤ (x3_1 : Int) := of_decide_eq_true (by first | (with_reducible assumption) | assumption)
      have q123 : x3_1 < (l0.length : Int) := of_decide_eq_true (by first | (with_reducible assumption) | assumption)
      obtain ⟨ad123, e123, hx123_0, hx123_1, hx123_2, hx123_3⟩ := at_T89 HR0.out x3_1 p123 q123
      cases e123
      replace p123 := eq_true p123
      replace q123 := eq_true q123
      go_wp2
      go_roundg k1
      case measure => have := HK1.out; omega
      case rel => exact ⟨(wrap64 (x3_1 + 1)), (by first | rfl | (simp; done) | (simp [*]; done) | (simp [bne_nil]; done)), H', ⟨by have := HK1.out; omega⟩, by repeat (first | exact Drawn0.refl _ | apply Drawn0.step)⟩
    ·
     rw [if_neg c3] at H
     exact absurd H (by simp)
   ·
    rw [if_neg c2] at H
    have c2b0 : decide (x3_1 < (l0.length : Int)) = false := decide_eq_false c2
    clear c2
    obtain rfl := Option.some.inj H
    go_wp2
    go_ret
    exact ⟨by first | rfl | (simp; done) | (simp [*]; done), by repeat (first | exact Drawn0.refl _ | apply Drawn0.step)⟩

def linhayref07_New.f  : Option ((List (S97)) × Int) := some ((([(⟨1, 1, (⟨#[]⟩ : ByteArray), 1, (⟨#[]⟩ : ByteArray)⟩ : S97)] : List (S97))), 1)
set_option maxHeartbeats 8000000 in
set_option maxRecDepth 100000 in
theorem linhayref07_New.calls  (r1 : List (S97)) (r2 : Int) (w : World) (h : linhayref07_New.f  = some (r1, r2)) :
  Calls Try.prog 43 #[] w fun e w' => ∃ v0_ : Value, e = .returned (.agg #[v0_, .int .i64 r2]) ∧ Kd.R k97 97 w' w.heap.size (fun _ => True) v0_ r1 ∧ Below w.heap.size w w' := by
 have hu75 := Try.underlying75
 have hu76 := Try.underlying76
 have hu89 := Try.underlying89
 have hu108 := Try.underlying108
 have hu28 := Try.underlying28
 have hu97 := Try.underlying97
 have HB := Aside0.mk (Below.refl w.heap.size w)
 have H : (some ((([(⟨1, 1, (⟨#[]⟩ : ByteArray), 1, (⟨#[]⟩ : ByteArray)⟩ : S97)] : List (S97))), 1)) = some (r1, r2) := h
 clear h
 obtain ⟨y125, hy125⟩ : ∃ y_ : List (S97), y_ = (([(⟨1, 1, (⟨#[]⟩ : ByteArray), 1, (⟨#[]⟩ : ByteArray)⟩ : S97)] : List (S97))) := ⟨_, rfl⟩
 replace H : (some (y125, 1)) = some (r1, r2) := by first | (rw [hy125]; with_reducible exact H) | (have H2_ := (Option.bind_some _ _).symm.trans H; rw [hy125]; with_reducible exact H2_) | (have H2_ := (Option.bind_some _ _).symm.trans H; with_reducible exact H2_) | with_reducible exact H | (rw [hy125]; exact H) | exact H
 have Ny125 := Aside0.mk hy125
 clear hy125
 simp only [Option.some.injEq, Prod.mk.injEq] at H
 obtain ⟨rfl, rfl⟩ := H
 go_enter Try.func43, Try.ntmps43
 go_wp2_with (first | ((with_reducible refine gate_dst (N := 0) rfl ?_); refine box_event ?hg (N := 0) ?hd (cs := #[.slice none 0 0, .int .i64 0]) (t := 28) ?hr ?_; (case hd => rfl); (case hg => rfl); (case hr => first | (go_simp; done) | (go_simp; rfl)); intro gb124 hg w1 hbox hb; have n0_ := Aside0.mk (below_step (by repeat (first | (with_reducible first | exact HB.out | apply below_alloc | apply pw_below_drewN | apply below_drew1) | exact HB.out)) hb); have n1_ := Aside0.mk (hbox); have n2_ := Aside0.mk ((by rw [hg]; exact (below_size (by repeat (first | (with_reducible first | exact HB.out | apply below_alloc | apply pw_below_drewN | apply below_drew1) | exact HB.out))) : w.heap.size ≤ gb124)); have n3_ := Aside0.mk ((by rw [hg]; exact (below_size (by repeat (first | (with_reducible first | exact HB.out | apply below_alloc | apply pw_below_drewN | apply below_drew1) | exact HB.out))) : w.heap.size ≤ gb124)); clear HB; have HB := n0_; have BK124 := n1_; have GW124 := n2_; have GE124 := n3_; clear n0_ n1_ n2_ n3_; clear hb hbox hg) | ((with_reducible refine gate_dst (N := 2) rfl ?_); refine Kd.R_lit k97 _ 97 ?hg (N := 2) ?hd (xs := ([(⟨1, 1, (⟨#[]⟩ : ByteArray), 1, (⟨#[]⟩ : ByteArray)⟩ : S97)] : List (S97))) (inner := [.int .i64 1, .int .i64 1, .string (⟨#[]⟩ : ByteArray), .int .i64 1, .string (⟨#[]⟩ : ByteArray)]) (ok := fun _ => True) (okp := fun _ => True) ?hr ?hp (fun _ hk => hk) trivial (Below.refl _ _) (Nat.le_refl _) (by simp) ?_; (case hd => rfl); (case hg => rfl); (case hr => first | (go_simp; done) | (go_simp; rfl)); (case hp => exact (Reps.c5 (show Kd.M k97 _ _ _ (⟨1, 1, (⟨#[]⟩ : ByteArray), 1, (⟨#[]⟩ : ByteArray)⟩ : S97) [.int .i64 1, .int .i64 1, .string (⟨#[]⟩ : ByteArray), .int .i64 1, .string (⟨#[]⟩ : ByteArray)] from (k97_mkM _ _ _ (⟨1, 1, (⟨#[]⟩ : ByteArray), 1, (⟨#[]⟩ : ByteArray)⟩ : S97) )) (Reps.none _ _))); intro v126 w2 ho3 hb hg_ hnew_; clear hg_ hnew_; (first | rw [← Ny125.out] at ho3 | (simp only [Int.reduceToNat] at ho3; rw [← Ny125.out] at ho3)); have n0_ := Aside0.mk (Kd.R_lower ho3 (below_size (by repeat (first | (with_reducible first | exact HB.out | apply below_alloc | apply pw_below_drewN | apply below_drew1 | refine below_set ?_ GE124.out) | exact HB.out)))); have n1_ := Aside0.mk (blk_below (g := gb124) (o := .cells #[.slice none 0 0, .int .i64 0] 28 (0, 0)) (by (with_reducible repeat (first | refine blk_drewN ?_ _ | refine blk_drew ?_ | refine blk_alloc ?_ _)); exact BK124.out) hb); have n2_ := Aside0.mk (below_step (by repeat (first | (with_reducible first | exact HB.out | apply below_alloc | apply pw_below_drewN | apply below_drew1 | refine below_set ?_ GE124.out) | exact HB.out)) hb); clear BK124; clear HB; have HO127 := n0_; have BK124 := n1_; have HB := n2_; clear n0_ n1_ n2_; clear hb ho3; obtain ⟨Ao4, co4, eo4⟩ := Kd.R_slice HO127.out; subst eo4; have hcz5_0 : w2.cell? ⟨gb124, 0, none⟩ = some (.slice none 0 0) := (blk_cell BK124.out 0).trans rfl; have hcz5_1 : w2.cell? ⟨gb124, 1, none⟩ = some (.int .i64 0) := (blk_cell BK124.out 1).trans rfl; have hfz5_0 := blk_frozen BK124.out 0; have hfz5_1 := blk_frozen BK124.out 1))
 refine bodyPost_ret (results_cell_row rfl _ _ gb124 28 #[.slice Ao4 y125.length co4, .int .i64 1] (0, 0) _ rfl (by (with_reducible repeat (first | refine blk_drewN ?_ _ | refine blk_drew ?_ | refine blk_alloc ?_ _)); refine blk_put (cs := #[.slice Ao4 y125.length co4, .int .i64 0]) ?_ 1 _ rfl; (with_reducible repeat (first | refine blk_drewN ?_ _ | refine blk_drew ?_ | refine blk_alloc ?_ _)); refine blk_put (cs := #[.slice none 0 0, .int .i64 0]) ?_ 0 _ rfl; (with_reducible repeat (first | refine blk_drewN ?_ _ | refine blk_drew ?_ | refine blk_alloc ?_ _)); exact BK124.out) Try.underlying28 rfl (by kernel_rfl)) rfl ?_
 exact ⟨_, by first | rfl | (simp [errW_none, errW_some] <;> rfl) | (simp [*, errW_none, errW_some] <;> rfl) | (simp [errW_none, errW_some, bne_nil]; done) | (simp [*, bne_nil]; done) | (simp [bne]; done), by (with_reducible repeat (first | apply Kd.R_alloc | apply Kd.R_drewN | apply Kd.R_drew)); exact Kd.R_mono (Kd.R_far (p := ⟨gb124, 1, none⟩) (Kd.R_far (p := ⟨gb124, 0, none⟩) (Kd.R_types HO127.out BK124.out (by decide)) (fun _ hk => hk.2) (.slice Ao4 y125.length co4)) (fun _ hk => hk.2) (.int .i64 1)) (fun _ hk => trivial), by repeat (first | (with_reducible first | exact HB.out | apply below_alloc | apply pw_below_drewN | apply below_drew1 | refine below_set ?_ GE124.out) | exact HB.out)⟩

def linhayref07_In.l0 : Nat → Int → ByteArray → Int → List (S97) → Int → Option (Int)
  | 0, _, _, _, _, _ => none
  | k + 1, x1, x2, x7, x129000, x129001 => if x7 < (x129000.length : Int) then (if 0 ≤ x7 then (if ((rd_T97 x129000 x7).f1) = x1 then (if ((rd_T97 x129000 x7).f2).toList = x2.toList then (if ((rd_T97 x129000 x7).f0) = 1 then (linhayref07_In.l0 k x1 x2 (wrap64 (x7 + 1)) x129000 x129001) else (some ((rd_T97 x129000 x7).f0))) else (linhayref07_In.l0 k x1 x2 (wrap64 (x7 + 1)) x129000 x129001)) else (linhayref07_In.l0 k x1 x2 (wrap64 (x7 + 1)) x129000 x129001)) else (none)) else (some 0)
def linhayref07_In.f (k : Nat) (l0_0 : List (S97)) (a0_1 : Int) (a1 : Int) (a2 : ByteArray) : Option (Int) := linhayref07_In.l0 k a1 a2 0 l0_0 a0_1
set_option maxHeartbeats 8000000 in
set_option maxRecDepth 100000 in
theorem linhayref07_In.calls (k : Nat) (A0_0 : Option Addr) (c0_0 : Nat) (l0_0 : List (S97)) (a0_1 : Int) (a1 : Int) (a2 : ByteArray) (r : Int) (w : World) (hr0_0 : Kd.C k97 w A0_0 l0_0.length l0_0) (hc0_0 : l0_0.length ≤ c0_0) (h : linhayref07_In.f k l0_0 a0_1 a1 a2 = some r) :
  Calls Try.prog 70 #[.agg #[.slice A0_0 l0_0.length c0_0, .int .i64 a0_1], .int .i64 a1, .string a2] w fun e w' => e = .returned (.int .i64 r) ∧ Below w.heap.size w w' := by
 have hu75 := Try.underlying75
 have hu76 := Try.underlying76
 have hu89 := Try.underlying89
 have hu97 := Try.underlying97
 have hu108 := Try.underlying108
 have hu28 := Try.underlying28
 have HR0_0 := Aside0.mk hr0_0
 have HC0_0 := Aside0.mk hc0_0
 clear hr0_0 hc0_0
 have HB := Aside0.mk (Below.refl w.heap.size w)
 have H : (linhayref07_In.l0 k a1 a2 0 l0_0 a0_1) = some r := h
 clear h
 have H' := Aside0.mk H
 clear H
 go_enter Try.func70, Try.ntmps70
 go_wp2_with (first | ((with_reducible refine gate_dst (N := 3) rfl ?_); refine box_event ?hg (N := 3) ?hd (cs := #[.slice A0_0 l0_0.length c0_0, .int .i64 a0_1]) (t := 28) ?hr ?_; (case hd => rfl); (case hg => rfl); (case hr => first | (go_simp; done) | (go_simp; rfl)); intro gb128 hg w4 hbox hb; have n0_ := Aside0.mk (below_step (by repeat (first | (with_reducible first | exact HB.out | apply below_alloc | apply pw_below_drewN | apply below_drew1) | exact HB.out)) hb); have n1_ := Aside0.mk (hbox); have n2_ := Aside0.mk ((by rw [hg]; exact (below_size (by repeat (first | (with_reducible first | exact HB.out | apply below_alloc | apply pw_below_drewN | apply below_drew1) | exact HB.out))) : w.heap.size ≤ gb128)); have n3_ := Aside0.mk ((by rw [hg]; exact (below_size (by repeat (first | (with_reducible first | exact HB.out | apply below_alloc | apply pw_below_drewN | apply below_drew1) | exact HB.out))) : w.heap.size ≤ gb128)); clear HB; have HB := n0_; have BK128 := n1_; have GW128 := n2_; have GE128 := n3_; clear n0_ n1_ n2_ n3_; clear hb hbox hg))
 go_loopg [7] k (fun kq v7 w' => ∃ (x7_1 : Int), v7 = .int .i64 x7_1 ∧ Aside0 (linhayref07_In.l0 kq a1 a2 x7_1 l0_0 a0_1 = some r) ∧ Aside0 (kq ≤ k) ∧ Aside0 (w'.heap[gb128]? = some (.cells #[(.slice A0_0 l0_0.length c0_0), .int .i64 a0_1] 28 (0, 0))) ∧ Aside0 (Below w.heap.size w w'))
 case atStart => exact ⟨(0), (by first | rfl | (simp; done) | (simp [*]; done) | (simp [bne_nil]; done)), H', ⟨Nat.le_refl _⟩, ⟨by (with_reducible repeat (first | refine blk_drewN ?_ _ | refine blk_drew ?_ | refine blk_alloc ?_ _)); exact BK128.out⟩, ⟨by repeat (first | (with_reducible first | exact HB.out | apply below_alloc | apply pw_below_drewN | apply below_drew1 | refine below_set ?_ GE128.out) | exact HB.out)⟩⟩
 case round =>
  clear H'
  try clear p2
  obtain ⟨x7_1, rfl, HA, HK1, BK128, HB⟩ := hrel
  cases gk with
  | zero => exact absurd HA.out (by simp [linhayref07_In.l0])
  | succ k1 =>
   have H := HA.out
   clear HA
   simp only [linhayref07_In.l0] at H
   by_cases c5 : x7_1 < (l0_0.length : Int)
   ·
    rw [if_pos c5] at H
    have c5b0 : decide (x7_1 < (l0_0.length : Int)) = true := decide_eq_true c5
    clear c5
    by_cases c6 : 0 ≤ x7_1
    ·
     rw [if_pos c6] at H
     have c6b0 : decide (0 ≤ x7_1) = true := decide_eq_true c6
     clear c6
     by_cases c7 : ((rd_T97 l0_0 x7_1).f1) = a1
     ·
      rw [if_pos c7] at H
      have c7b0 : (((rd_T97 l0_0 x7_1).f1) == a1) = true := beq_iff_eq.mpr c7
      have c7b1 : (((rd_T97 l0_0 x7_1).f1) != a1) = false := bne_eq_false_iff_eq.mpr c7
      clear c7
      by_cases c8 : ((rd_T97 l0_0 x7_1).f2).toList = a2.toList
      ·
       rw [if_pos c8] at H
       have c8b0 : (((rd_T97 l0_0 x7_1).f2).toList == a2.toList) = true := beq_iff_eq.mpr c8
       have c8b1 : (((rd_T97 l0_0 x7_1).f2).toList != a2.toList) = false := bne_eq_false_iff_eq.mpr c8
       clear c8
       by_cases c9 : ((rd_T97 l0_0 x7_1).f0) = 1
       ·
        rw [if_pos c9] at H
        have c9b0 : (((rd_T97 l0_0 x7_1).f0) == 1) = true := beq_iff_eq.mpr c9
        have c9b1 : (((rd_T97 l0_0 x7_1).f0) != 1) = false := bne_eq_false_iff_eq.mpr c9
        clear c9
        have H' := Aside0.mk H
        clear H
        have hcz10_0 : wr.cell? ⟨gb128, 0, none⟩ = some (.slice A0_0 l0_0.length c0_0) := (blk_cell BK128.out 0).trans rfl
        have hcz10_1 : wr.cell? ⟨gb128, 1, none⟩ = some (.int .i64 a0_1) := (blk_cell BK128.out 1).trans rfl
        have hfz10_0 := blk_frozen BK128.out 0
        have hfz10_1 := blk_frozen BK128.out 1
        have p129 : 0 ≤ (x7_1 : Int) := of_decide_eq_true (by first | (with_reducible assumption) | assumption)
        have q129 : x7_1 < (l0_0.length : Int) := of_decide_eq_true (by first | (with_reducible assumption) | assumption)
        obtain ⟨ad129, e129, hx129_0, hx129_1, hx129_2, hx129_3, hx129_4⟩ := at_T97 HR0_0.out x7_1 p129 q129
        cases e129
        replace hx129_0 := (HB.out.cell (World.block_lt_of_cell? w _ hx129_0)).trans hx129_0
        replace hx129_1 := (HB.out.cell (World.block_lt_of_cell? w _ hx129_1)).trans hx129_1
        replace hx129_2 := (HB.out.cell (World.block_lt_of_cell? w _ hx129_2)).trans hx129_2
        replace hx129_3 := (HB.out.cell (World.block_lt_of_cell? w _ hx129_3)).trans hx129_3
        replace hx129_4 := (HB.out.cell (World.block_lt_of_cell? w _ hx129_4)).trans hx129_4
        replace p129 := eq_true p129
        replace q129 := eq_true q129
        have p130 : 0 ≤ (x7_1 : Int) := of_decide_eq_true (by first | (with_reducible assumption) | assumption)
        have q130 : x7_1 < (l0_0.length : Int) := of_decide_eq_true (by first | (with_reducible assumption) | assumption)
        obtain ⟨ad130, e130, hx130_0, hx130_1, hx130_2, hx130_3, hx130_4⟩ := at_T97 HR0_0.out x7_1 p130 q130
        obtain rfl : ad129 = ad130 := (by injection e130)
        replace hx130_0 := (HB.out.cell (World.block_lt_of_cell? w _ hx130_0)).trans hx130_0
        replace hx130_1 := (HB.out.cell (World.block_lt_of_cell? w _ hx130_1)).trans hx130_1
        replace hx130_2 := (HB.out.cell (World.block_lt_of_cell? w _ hx130_2)).trans hx130_2
        replace hx130_3 := (HB.out.cell (World.block_lt_of_cell? w _ hx130_3)).trans hx130_3
        replace hx130_4 := (HB.out.cell (World.block_lt_of_cell? w _ hx130_4)).trans hx130_4
        replace p130 := eq_true p130
        replace q130 := eq_true q130
        have p131 : 0 ≤ (x7_1 : Int) := of_decide_eq_true (by first | (with_reducible assumption) | assumption)
        have q131 : x7_1 < (l0_0.length : Int) := of_decide_eq_true (by first | (with_reducible assumption) | assumption)
        obtain ⟨ad131, e131, hx131_0, hx131_1, hx131_2, hx131_3, hx131_4⟩ := at_T97 HR0_0.out x7_1 p131 q131
        obtain rfl : ad129 = ad131 := (by injection e131)
        replace hx131_0 := (HB.out.cell (World.block_lt_of_cell? w _ hx131_0)).trans hx131_0
        replace hx131_1 := (HB.out.cell (World.block_lt_of_cell? w _ hx131_1)).trans hx131_1
        replace hx131_2 := (HB.out.cell (World.block_lt_of_cell? w _ hx131_2)).trans hx131_2
        replace hx131_3 := (HB.out.cell (World.block_lt_of_cell? w _ hx131_3)).trans hx131_3
        replace hx131_4 := (HB.out.cell (World.block_lt_of_cell? w _ hx131_4)).trans hx131_4
        replace p131 := eq_true p131
        replace q131 := eq_true q131
        go_wp2
        go_roundg k1
        case measure => have := HK1.out; omega
        case rel => exact ⟨(wrap64 (x7_1 + 1)), (by first | rfl | (simp; done) | (simp [*]; done) | (simp [bne_nil]; done)), H', ⟨by have := HK1.out; omega⟩, ⟨by (with_reducible repeat (first | refine blk_drewN ?_ _ | refine blk_drew ?_ | refine blk_alloc ?_ _)); exact BK128.out⟩, ⟨by repeat (first | (with_reducible first | exact HB.out | apply below_alloc | apply pw_below_drewN | apply below_drew1 | refine below_set ?_ GE128.out) | exact HB.out)⟩⟩
       ·
        rw [if_neg c9] at H
        have c9b0 : (((rd_T97 l0_0 x7_1).f0) == 1) = false := beq_eq_false_iff_ne.mpr c9
        have c9b1 : (((rd_T97 l0_0 x7_1).f0) != 1) = true := bne_iff_ne.mpr c9
        obtain rfl := Option.some.inj H
        have hcz11_0 : wr.cell? ⟨gb128, 0, none⟩ = some (.slice A0_0 l0_0.length c0_0) := (blk_cell BK128.out 0).trans rfl
        have hcz11_1 : wr.cell? ⟨gb128, 1, none⟩ = some (.int .i64 a0_1) := (blk_cell BK128.out 1).trans rfl
        have hfz11_0 := blk_frozen BK128.out 0
        have hfz11_1 := blk_frozen BK128.out 1
        have p129 : 0 ≤ (x7_1 : Int) := of_decide_eq_true (by first | (with_reducible assumption) | assumption)
        have q129 : x7_1 < (l0_0.length : Int) := of_decide_eq_true (by first | (with_reducible assumption) | assumption)
        obtain ⟨ad129, e129, hx129_0, hx129_1, hx129_2, hx129_3, hx129_4⟩ := at_T97 HR0_0.out x7_1 p129 q129
        cases e129
        replace hx129_0 := (HB.out.cell (World.block_lt_of_cell? w _ hx129_0)).trans hx129_0
        replace hx129_1 := (HB.out.cell (World.block_lt_of_cell? w _ hx129_1)).trans hx129_1
        replace hx129_2 := (HB.out.cell (World.block_lt_of_cell? w _ hx129_2)).trans hx129_2
        replace hx129_3 := (HB.out.cell (World.block_lt_of_cell? w _ hx129_3)).trans hx129_3
        replace hx129_4 := (HB.out.cell (World.block_lt_of_cell? w _ hx129_4)).trans hx129_4
        replace p129 := eq_true p129
        replace q129 := eq_true q129
        have p130 : 0 ≤ (x7_1 : Int) := of_decide_eq_true (by first | (with_reducible assumption) | assumption)
        have q130 : x7_1 < (l0_0.length : Int) := of_decide_eq_true (by first | (with_reducible assumption) | assumption)
        obtain ⟨ad130, e130, hx130_0, hx130_1, hx130_2, hx130_3, hx130_4⟩ := at_T97 HR0_0.out x7_1 p130 q130
        obtain rfl : ad129 = ad130 := (by injection e130)
        replace hx130_0 := (HB.out.cell (World.block_lt_of_cell? w _ hx130_0)).trans hx130_0
        replace hx130_1 := (HB.out.cell (World.block_lt_of_cell? w _ hx130_1)).trans hx130_1
        replace hx130_2 := (HB.out.cell (World.block_lt_of_cell? w _ hx130_2)).trans hx130_2
        replace hx130_3 := (HB.out.cell (World.block_lt_of_cell? w _ hx130_3)).trans hx130_3
        replace hx130_4 := (HB.out.cell (World.block_lt_of_cell? w _ hx130_4)).trans hx130_4
        replace p130 := eq_true p130
        replace q130 := eq_true q130
        have p131 : 0 ≤ (x7_1 : Int) := of_decide_eq_true (by first | (with_reducible assumption) | assumption)
        have q131 : x7_1 < (l0_0.length : Int) := of_decide_eq_true (by first | (with_reducible assumption) | assumption)
        obtain ⟨ad131, e131, hx131_0, hx131_1, hx131_2, hx131_3, hx131_4⟩ := at_T97 HR0_0.out x7_1 p131 q131
        obtain rfl : ad129 = ad131 := (by injection e131)
        replace hx131_0 := (HB.out.cell (World.block_lt_of_cell? w _ hx131_0)).trans hx131_0
        replace hx131_1 := (HB.out.cell (World.block_lt_of_cell? w _ hx131_1)).trans hx131_1
        replace hx131_2 := (HB.out.cell (World.block_lt_of_cell? w _ hx131_2)).trans hx131_2
        replace hx131_3 := (HB.out.cell (World.block_lt_of_cell? w _ hx131_3)).trans hx131_3
        replace hx131_4 := (HB.out.cell (World.block_lt_of_cell? w _ hx131_4)).trans hx131_4
        replace p131 := eq_true p131
        replace q131 := eq_true q131
        have p132 : 0 ≤ (x7_1 : Int) := of_decide_eq_true (by first | (with_reducible assumption) | assumption)
        have q132 : x7_1 < (l0_0.length : Int) := of_decide_eq_true (by first | (with_reducible assumption) | assumption)
        obtain ⟨ad132, e132, hx132_0, hx132_1, hx132_2, hx132_3, hx132_4⟩ := at_T97 HR0_0.out x7_1 p132 q132
        obtain rfl : ad129 = ad132 := (by injection e132)
        replace hx132_0 := (HB.out.cell (World.block_lt_of_cell? w _ hx132_0)).trans hx132_0
        replace hx132_1 := (HB.out.cell (World.block_lt_of_cell? w _ hx132_1)).trans hx132_1
        replace hx132_2 := (HB.out.cell (World.block_lt_of_cell? w _ hx132_2)).trans hx132_2
        replace hx132_3 := (HB.out.cell (World.block_lt_of_cell? w _ hx132_3)).trans hx132_3
        replace hx132_4 := (HB.out.cell (World.block_lt_of_cell? w _ hx132_4)).trans hx132_4
        replace p132 := eq_true p132
        replace q132 := eq_true q132
        go_wp2
        go_ret
        exact ⟨by first | rfl | (simp [errW_none, errW_some] <;> rfl) | (simp [*, errW_none, errW_some] <;> rfl) | (simp [errW_none, errW_some, bne_nil]; done) | (simp [*, bne_nil]; done) | (simp [bne]; done), by repeat (first | (with_reducible first | exact HB.out | apply below_alloc | apply pw_below_drewN | apply below_drew1 | refine below_set ?_ GE128.out) | exact HB.out)⟩
      ·
       rw [if_neg c8] at H
       have c8b0 : (((rd_T97 l0_0 x7_1).f2).toList == a2.toList) = false := beq_eq_false_iff_ne.mpr c8
       have c8b1 : (((rd_T97 l0_0 x7_1).f2).toList != a2.toList) = true := bne_iff_ne.mpr c8
       have H' := Aside0.mk H
       clear H
       have hcz12_0 : wr.cell? ⟨gb128, 0, none⟩ = some (.slice A0_0 l0_0.length c0_0) := (blk_cell BK128.out 0).trans rfl
       have hcz12_1 : wr.cell? ⟨gb128, 1, none⟩ = some (.int .i64 a0_1) := (blk_cell BK128.out 1).trans rfl
       have hfz12_0 := blk_frozen BK128.out 0
       have hfz12_1 := blk_frozen BK128.out 1
       have p129 : 0 ≤ (x7_1 : Int) := of_decide_eq_true (by first | (with_reducible assumption) | assumption)
       have q129 : x7_1 < (l0_0.length : Int) := of_decide_eq_true (by first | (with_reducible assumption) | assumption)
       obtain ⟨ad129, e129, hx129_0, hx129_1, hx129_2, hx129_3, hx129_4⟩ := at_T97 HR0_0.out x7_1 p129 q129
       cases e129
       replace hx129_0 := (HB.out.cell (World.block_lt_of_cell? w _ hx129_0)).trans hx129_0
       replace hx129_1 := (HB.out.cell (World.block_lt_of_cell? w _ hx129_1)).trans hx129_1
       replace hx129_2 := (HB.out.cell (World.block_lt_of_cell? w _ hx129_2)).trans hx129_2
       replace hx129_3 := (HB.out.cell (World.block_lt_of_cell? w _ hx129_3)).trans hx129_3
       replace hx129_4 := (HB.out.cell (World.block_lt_of_cell? w _ hx129_4)).trans hx129_4
       replace p129 := eq_true p129
       replace q129 := eq_true q129
       have p130 : 0 ≤ (x7_1 : Int) := of_decide_eq_true (by first | (with_reducible assumption) | assumption)
       have q130 : x7_1 < (l0_0.length : Int) := of_decide_eq_true (by first | (with_reducible assumption) | assumption)
       obtain ⟨ad130, e130, hx130_0, hx130_1, hx130_2, hx130_3, hx130_4⟩ := at_T97 HR0_0.out x7_1 p130 q130
       obtain rfl : ad129 = ad130 := (by injection e130)
       replace hx130_0 := (HB.out.cell (World.block_lt_of_cell? w _ hx130_0)).trans hx130_0
       replace hx130_1 := (HB.out.cell (World.block_lt_of_cell? w _ hx130_1)).trans hx130_1
       replace hx130_2 := (HB.out.cell (World.block_lt_of_cell? w _ hx130_2)).trans hx130_2
       replace hx130_3 := (HB.out.cell (World.block_lt_of_cell? w _ hx130_3)).trans hx130_3
       replace hx130_4 := (HB.out.cell (World.block_lt_of_cell? w _ hx130_4)).trans hx130_4
       replace p130 := eq_true p130
       replace q130 := eq_true q130
       go_wp2
       go_roundg k1
       case measure => have := HK1.out; omega
       case rel => exact ⟨(wrap64 (x7_1 + 1)), (by first | rfl | (simp; done) | (simp [*]; done) | (simp [bne_nil]; done)), H', ⟨by have := HK1.out; omega⟩, ⟨by (with_reducible repeat (first | refine blk_drewN ?_ _ | refine blk_drew ?_ | refine blk_alloc ?_ _)); exact BK128.out⟩, ⟨by repeat (first | (with_reducible first | exact HB.out | apply below_alloc | apply pw_below_drewN | apply below_drew1 | refine below_set ?_ GE128.out) | exact HB.out)⟩⟩
     ·
      rw [if_neg c7] at H
      have c7b0 : (((rd_T97 l0_0 x7_1).f1) == a1) = false := beq_eq_false_iff_ne.mpr c7
      have c7b1 : (((rd_T97 l0_0 x7_1).f1) != a1) = true := bne_iff_ne.mpr c7
      have H' := Aside0.mk H
      clear H
      have hcz13_0 : wr.cell? ⟨gb128, 0, none⟩ = some (.slice A0_0 l0_0.length c0_0) := (blk_cell BK128.out 0).trans rfl
      have hcz13_1 : wr.cell? ⟨gb128, 1, none⟩ = some (.int .i64 a0_1) := (blk_cell BK128.out 1).trans rfl
      have hfz13_0 := blk_frozen BK128.out 0
      have hfz13_1 := blk_frozen BK128.out 1
      have p129 : 0 ≤ (x7_1 : Int) := of_decide_eq_true (by first | (with_reducible assumption) | assumption)
      have q129 : x7_1 < (l0_0.length : Int) := of_decide_eq_true (by first | (with_reducible assumption) | assumption)
      obtain ⟨ad129, e129, hx129_0, hx129_1, hx129_2, hx129_3, hx129_4⟩ := at_T97 HR0_0.out x7_1 p129 q129
      cases e129
      replace hx129_0 := (HB.out.cell (World.block_lt_of_cell? w _ hx129_0)).trans hx129_0
      replace hx129_1 := (HB.out.cell (World.block_lt_of_cell? w _ hx129_1)).trans hx129_1
      replace hx129_2 := (HB.out.cell (World.block_lt_of_cell? w _ hx129_2)).trans hx129_2
      replace hx129_3 := (HB.out.cell (World.block_lt_of_cell? w _ hx129_3)).trans hx129_3
      replace hx129_4 := (HB.out.cell (World.block_lt_of_cell? w _ hx129_4)).trans hx129_4
      replace p129 := eq_true p129
      replace q129 := eq_true q129
      go_wp2
      go_roundg k1
      case measure => have := HK1.out; omega
      case rel => exact ⟨(wrap64 (x7_1 + 1)), (by first | rfl | (simp; done) | (simp [*]; done) | (simp [bne_nil]; done)), H', ⟨by have := HK1.out; omega⟩, ⟨by (with_reducible repeat (first | refine blk_drewN ?_ _ | refine blk_drew ?_ | refine blk_alloc ?_ _)); exact BK128.out⟩, ⟨by repeat (first | (with_reducible first | exact HB.out | apply below_alloc | apply pw_below_drewN | apply below_drew1 | refine below_set ?_ GE128.out) | exact HB.out)⟩⟩
    ·
     rw [if_neg c6] at H
     exact absurd H (by simp)
   ·
    rw [if_neg c5] at H
    have c5b0 : decide (x7_1 < (l0_0.length : Int)) = false := decide_eq_false c5
    clear c5
    obtain rfl := Option.some.inj H
    have hcz14_0 : wr.cell? ⟨gb128, 0, none⟩ = some (.slice A0_0 l0_0.length c0_0) := (blk_cell BK128.out 0).trans rfl
    have hcz14_1 : wr.cell? ⟨gb128, 1, none⟩ = some (.int .i64 a0_1) := (blk_cell BK128.out 1).trans rfl
    have hfz14_0 := blk_frozen BK128.out 0
    have hfz14_1 := blk_frozen BK128.out 1
    go_wp2
    go_ret
    exact ⟨by first | rfl | (simp [errW_none, errW_some] <;> rfl) | (simp [*, errW_none, errW_some] <;> rfl) | (simp [errW_none, errW_some, bne_nil]; done) | (simp [*, bne_nil]; done) | (simp [bne]; done), by repeat (first | (with_reducible first | exact HB.out | apply below_alloc | apply pw_below_drewN | apply below_drew1 | refine below_set ?_ GE128.out) | exact HB.out)⟩

end Go.Proofs.Ytjfigngmpagloaa.X

namespace Go.Proofs.Ytjfigngmpagloaa.Pu
open Go Go.RowKit Go.Proofs Go.Proofs.Ytjfigngmpagloaa Go.Proofs.YtjfigngmpagloaaW.PrintWords Go.Proofs.Ytjfigngmpagloaa.Ext Go.Proofs.Ytjfigngmpagloaa.X
set_option linter.unusedVariables false
set_option linter.unusedSimpArgs false

theorem r04_parts_l0 (s : ByteArray) (hs : s.size < 4294967296) : ∀ (d i : Nat) (out : List (List UInt8)) (now : List UInt8), i + d = s.size → out.length ≤ i → now.length ≤ i →
    Ev (fun k => linhayref04_Parts.l0 k s (bs out) (Sp.mk now) (i : Int)) (bs (out ++ Sp.go now (s.data.toList.drop i))) := by
  have fin : ∀ out now, Ev (fun k => linhayref04_Parts.l0 k s out now ((s.size + 1 : Nat) : Int)) out := fun out now => by
    refine Ev.step (fun k => by rw [linhayref04_Parts.l0]) ?_
    exact ev_neg (by omega) (Ev.now _)
  have last : ∀ (i : Nat) (out : List (List UInt8)) (now : List UInt8) (R : List ByteArray), i ≤ s.size → out.length ≤ i →
      Ev (fun k => linhayref04_Parts.l0 k s (bs (out ++ Sp.keep now [])) (Sp.mk []) ((i + 1 : Nat) : Int)) R →
      Ev (fun k => linhayref04_Parts.j1 k s (bs out) (Sp.mk now) (i : Int) false) R := fun i out now R hi ho hn => by
    refine Ev.step (fun k => by rw [linhayref04_Parts.j1]) ?_
    refine ev_neg (by simp) ?_
    rw [toList_mk]
    by_cases h1 : now = []
    · refine ev_pos h1 ?_
      rw [w1 (by omega)]
      simpa [Sp.keep, h1, Sp.mk] using hn
    · refine ev_neg h1 ?_
      by_cases h2 : now = [46]
      · refine ev_pos h2 ?_
        rw [w1 (by omega)]
        simpa [Sp.keep, h2, Sp.mk] using hn
      · refine ev_neg h2 (ev_pos (by rw [bs_len]; omega) ?_)
        rw [w1 (by omega)]
        simpa [Sp.keep, h1, h2, bs, Sp.mk] using hn
  intro d
  induction d with
  | zero =>
    intro i out now hi ho hn
    obtain rfl : i = s.size := by omega
    refine Ev.step (fun k => by rw [linhayref04_Parts.l0]) ?_
    refine ev_pos (by omega) (ev_neg (by omega) ?_)
    have e : s.data.toList.drop s.size = [] := by rw [Sp.size_eq]; simp
    rw [e, Sp.go]
    exact last s.size out now _ (by omega) ho (fin _ _)
  | succ d ih =>
    intro i out now hi ho hn
    have hlt : i < s.size := by omega
    obtain ⟨c, hc, hd⟩ := get_at s hlt
    refine Ev.step (fun k => by rw [linhayref04_Parts.l0]) ?_
    refine ev_pos (by omega) (ev_pos (by omega) (ev_pos (by omega) ?_))
    rw [bt_nat hc, hd, Sp.go]
    by_cases h47 : c = 47
    · rw [if_pos h47]
      have e : ((c.toNat : Int) != 47) = false := by subst h47; rfl
      rw [e, Sp.keep_app, ← List.append_assoc]
      refine last i out now _ (by omega) ho ?_
      refine ih (i + 1) (out ++ Sp.keep now []) [] (by omega) ?_ (by simp)
      have := Sp.keep_one now
      rw [List.length_append]
      omega
    · rw [if_neg h47]
      have e : ((c.toNat : Int) != 47) = true := u8_ne.2 h47
      rw [e]
      refine Ev.step (fun k => by rw [linhayref04_Parts.j1]) ?_
      refine ev_pos rfl (ev_pos (by omega) ?_)
      rw [w1 (by omega)]
      refine ev_pos (by omega) (ev_pos (by omega) ?_)
      rw [Int.toNat_natCast, Int.toNat_natCast, ex1 hc]
      refine ev_pos (by rw [Sp.mk_size, Sp.mk_size]; simp; omega) ?_
      rw [app_mk]
      exact ih (i + 1) out (now ++ [c]) (by omega) (by omega) (by simp; omega)
theorem r04_parts (s : ByteArray) (hs : s.size < 4294967296) : Ev (fun k => linhayref04_Parts.f k s) (bs (Sp.parts s.data.toList)) := by
  have h := r04_parts_l0 s hs s.size 0 [] [] (by omega) (by simp) (by simp)
  simpa [bs, Sp.mk, Sp.parts, linhayref04_Parts.f] using h

end Go.Proofs.Ytjfigngmpagloaa.Pu

namespace Go.Proofs.Ytjfigngmpagloaa.Pu
open Go Go.RowKit Go.Proofs Go.Proofs.Ytjfigngmpagloaa Go.Proofs.YtjfigngmpagloaaW.PrintWords Go.Proofs.Ytjfigngmpagloaa.Ext Go.Proofs.Ytjfigngmpagloaa.X
set_option linter.unusedVariables false
set_option linter.unusedSimpArgs false

def Up (x : List UInt8) : Prop := x ≠ [46, 46]
theorem r03_check_l0 (s : ByteArray) (hs : s.size ≤ 64) : ∀ (d i : Nat), i + d = s.size → (47 ∉ s.data.toList.take i ∧ 0 ∉ s.data.toList.take i) →
    Ev (fun k => linhayref03_Check.l0 k s (i : Int)) (if 47 ∈ s.data.toList ∨ 0 ∈ s.data.toList then 11 else if s.data.toList = [46] ∨ s.data.toList = [46, 46] then 6 else 0) := by
  intro d
  induction d with
  | zero =>
    intro i hi hn
    have e : s.data.toList.take i = s.data.toList := List.take_of_length_le (by rw [← Sp.size_eq]; omega)
    rw [e] at hn
    refine Ev.step (fun k => by rw [linhayref03_Check.l0]) (ev_neg (by omega) ?_)
    rw [toL]
    have hx : ¬ (47 ∈ s.data.toList ∨ 0 ∈ s.data.toList) := fun h => h.elim hn.1 hn.2
    by_cases h1 : s.data.toList = [46]
    · refine ev_pos h1 ?_
      rw [if_neg hx, if_pos (.inl h1)]
      exact Ev.now _
    · refine ev_neg h1 ?_
      by_cases h2 : s.data.toList = [46, 46]
      · refine ev_pos h2 ?_
        rw [if_neg hx, if_pos (.inr h2)]
        exact Ev.now _
      · refine ev_neg h2 ?_
        rw [if_neg hx, if_neg (fun h => h.elim h1 h2)]
        exact Ev.now _
  | succ d ih =>
    intro i hi hn
    have hlt : i < s.size := by omega
    obtain ⟨c, hc, hd⟩ := get_at s hlt
    have hm : c ∈ s.data.toList := List.mem_of_getElem? hc
    refine Ev.step (fun k => by rw [linhayref03_Check.l0]) (ev_pos (by omega) (ev_pos (by omega) ?_))
    rw [bt_nat hc, w1 (by omega)]
    by_cases h0 : c = 0
    · subst h0
      rw [if_pos (.inr hm)]
      exact ev_pos rfl (Ev.now _)
    · refine ev_neg (fun h => h0 (UInt8.toNat_inj.1 (by simpa using h))) ?_
      by_cases h47 : c = 47
      · subst h47
        rw [if_pos (.inl hm)]
        exact ev_pos rfl (Ev.now _)
      · refine ev_neg (fun h => h47 (UInt8.toNat_inj.1 (by have : ((47 : UInt8).toNat : Int) = 47 := rfl; omega))) (ih (i + 1) (by omega) ?_)
        have hl : i < s.data.toList.length := by rw [← Sp.size_eq]; exact hlt
        have e : s.data.toList[i] = c := by rw [List.getElem?_eq_getElem hl] at hc; exact Option.some.inj hc
        rw [List.take_succ_eq_append_getElem hl, e]
        simp only [List.mem_append, List.mem_singleton, not_or]
        exact ⟨⟨hn.1, fun h => h47 h.symm⟩, hn.2, fun h => h0 h.symm⟩
theorem r03_check (s : ByteArray) : Ev (fun k => linhayref03_Check.f k s) (Sp.check s.data.toList) := by
  unfold linhayref03_Check.f Sp.check
  by_cases h0 : s.size = 0
  · have : s.data.toList = [] := List.eq_nil_of_length_eq_zero (by rw [← Sp.size_eq]; exact h0)
    rw [if_pos this]
    exact ev_pos (by omega) (Ev.now _)
  · have : s.data.toList ≠ [] := fun h => h0 (by rw [Sp.size_eq, h]; rfl)
    rw [if_neg this, ← Sp.size_eq]
    refine ev_neg (by omega) ?_
    by_cases h1 : 64 < s.size
    · rw [if_pos (.inl h1)]
      exact ev_pos (by omega) (Ev.now _)
    · refine ev_neg (by omega) ?_
      have h := r03_check_l0 s (by omega) _ 0 (Nat.zero_add _) (by simp)
      have e : (64 < s.size ∨ (47 ∈ s.data.toList ∨ 0 ∈ s.data.toList)) = (47 ∈ s.data.toList ∨ 0 ∈ s.data.toList) := propext ⟨fun x => x.elim (fun y => absurd y h1) id, .inr⟩
      simp only [e]
      exact h
end Go.Proofs.Ytjfigngmpagloaa.Pu

namespace Go.Proofs.Ytjfigngmpagloaa.Ext
end Go.Proofs.Ytjfigngmpagloaa.Ext
namespace Go.Proofs.Ytjfigngmpagloaa.X
open Go.RowKit Go.Proofs.YtjfigngmpagloaaW.PrintWords Go.Proofs.YtjfigngmpagloaaW.PrintLast Go.Proofs.YtjfigngmpagloaaW.PrintMore Go.Proofs.Ytjfigngmpagloaa.Ext
attribute [local go_sem] max2_int min2_int max_two min_two max_three min_three max_four min_four   -- for this text's walks alone
set_option linter.unusedVariables false
set_option linter.unusedSimpArgs false

def linhayref07_At.l0 : Nat → Int → Int → List (S97) → Int → Option (Int × Int × ByteArray × Int × ByteArray)
  | 0, _, _, _, _ => none
  | k + 1, x1, x5, x134000, x134001 => if x5 < (x134000.length : Int) then (if 0 ≤ x5 then (if ((rd_T97 x134000 x5).f0) = x1 then (some ((rd_T97 x134000 x5).f0, (rd_T97 x134000 x5).f1, (rd_T97 x134000 x5).f2, (rd_T97 x134000 x5).f3, (rd_T97 x134000 x5).f4)) else (linhayref07_At.l0 k x1 (wrap64 (x5 + 1)) x134000 x134001)) else (none)) else (some (0, 0, (⟨#[]⟩ : ByteArray), 0, (⟨#[]⟩ : ByteArray)))
def linhayref07_At.f (k : Nat) (l0_0 : List (S97)) (a0_1 : Int) (a1 : Int) : Option (Int × Int × ByteArray × Int × ByteArray) := linhayref07_At.l0 k a1 0 l0_0 a0_1
set_option maxHeartbeats 8000000 in
set_option maxRecDepth 100000 in
theorem linhayref07_At.calls (k : Nat) (A0_0 : Option Addr) (c0_0 : Nat) (l0_0 : List (S97)) (a0_1 : Int) (a1 : Int) (r1 : Int) (r2 : Int) (r3 : ByteArray) (r4 : Int) (r5 : ByteArray) (w : World) (hr0_0 : Kd.C k97 w A0_0 l0_0.length l0_0) (hc0_0 : l0_0.length ≤ c0_0) (h : linhayref07_At.f k l0_0 a0_1 a1 = some (r1, r2, r3, r4, r5)) :
  Calls Try.prog 49 #[.agg #[.slice A0_0 l0_0.length c0_0, .int .i64 a0_1], .int .i64 a1] w fun e w' => e = .returned (.agg #[.int .i64 r1, .int .i64 r2, .string r3, .int .i64 r4, .string r5]) ∧ Below w.heap.size w w' := by
 have hu75 := Try.underlying75
 have hu76 := Try.underlying76
 have hu89 := Try.underlying89
 have hu108 := Try.underlying108
 have hu28 := Try.underlying28
 have hu97 := Try.underlying97
 have HR0_0 := Aside0.mk hr0_0
 have HC0_0 := Aside0.mk hc0_0
 clear hr0_0 hc0_0
 have HB := Aside0.mk (Below.refl w.heap.size w)
 have H : (linhayref07_At.l0 k a1 0 l0_0 a0_1) = some (r1, r2, r3, r4, r5) := h
 clear h
 have H' := Aside0.mk H
 clear H
 go_enter Try.func49, Try.ntmps49
 go_wp2_with (first | ((with_reducible refine gate_dst (N := 2) rfl ?_); refine box_event ?hg (N := 2) ?hd (cs := #[.slice A0_0 l0_0.length c0_0, .int .i64 a0_1]) (t := 28) ?hr ?_; (case hd => rfl); (case hg => rfl); (case hr => first | (go_simp; done) | (go_simp; rfl)); intro gb133 hg w3 hbox hb; have n0_ := Aside0.mk (below_step (by repeat (first | (with_reducible first | exact HB.out | apply below_alloc | apply pw_below_drewN | apply below_drew1) | exact HB.out)) hb); have n1_ := Aside0.mk (hbox); have n2_ := Aside0.mk ((by rw [hg]; exact (below_size (by repeat (first | (with_reducible first | exact HB.out | apply below_alloc | apply pw_below_drewN | apply below_drew1) | exact HB.out))) : w.heap.size ≤ gb133)); have n3_ := Aside0.mk ((by rw [hg]; exact (below_size (by repeat (first | (with_reducible first | exact HB.out | apply below_alloc | apply pw_below_drewN | apply below_drew1) | exact HB.out))) : w.heap.size ≤ gb133)); clear HB; have HB := n0_; have BK133 := n1_; have GW133 := n2_; have GE133 := n3_; clear n0_ n1_ n2_ n3_; clear hb hbox hg) | ((with_reducible refine gate_dst (N := 4) rfl ?_); refine box_event ?hg (N := 4) ?hd (cs := #[.int .i64 0, .int .i64 0, .string (⟨#[]⟩ : ByteArray), .int .i64 0, .string (⟨#[]⟩ : ByteArray)]) (t := 97) ?hr ?_; (case hd => rfl); (case hg => rfl); (case hr => first | (go_simp; done) | (go_simp; rfl)); intro gb134 hg w4 hbox hb; have n0_ := Aside0.mk (blk_below (g := gb133) (o := .cells #[.slice A0_0 l0_0.length c0_0, .int .i64 a0_1] 28 (0, 0)) (by (with_reducible repeat (first | refine blk_drewN ?_ _ | refine blk_drew ?_ | refine blk_alloc ?_ _)); exact BK133.out) hb); have n1_ := Aside0.mk (below_step (by repeat (first | (with_reducible first | exact HB.out | apply below_alloc | apply pw_below_drewN | apply below_drew1 | refine below_set ?_ GE133.out) | exact HB.out)) hb); have n2_ := Aside0.mk (hbox); have n3_ := Aside0.mk ((by rw [hg]; exact (below_size (by repeat (first | (with_reducible first | exact HB.out | apply below_alloc | apply pw_below_drewN | apply below_drew1 | refine below_set ?_ GE133.out) | exact HB.out))) : w.heap.size ≤ gb134)); have n4_ := Aside0.mk ((by rw [hg]; exact (below_size (by repeat (first | (with_reducible first | exact HB.out | apply below_alloc | apply pw_below_drewN | apply below_drew1 | refine below_set ?_ GE133.out) | exact HB.out))) : w.heap.size ≤ gb134)); have n5_ := Aside0.mk ((by rw [hg]; exact Nat.ne_of_lt (blk_lt (g := gb133) (o := .cells #[.slice A0_0 l0_0.length c0_0, .int .i64 a0_1] 28 (0, 0)) (by (with_reducible repeat (first | refine blk_drewN ?_ _ | refine blk_drew ?_ | refine blk_alloc ?_ _)); exact BK133.out)) : gb133 ≠ gb134)); have n6_ := Aside0.mk ((by rw [hg]; exact Nat.ne_of_gt (blk_lt (g := gb133) (o := .cells #[.slice A0_0 l0_0.length c0_0, .int .i64 a0_1] 28 (0, 0)) (by (with_reducible repeat (first | refine blk_drewN ?_ _ | refine blk_drew ?_ | refine blk_alloc ?_ _)); exact BK133.out)) : gb134 ≠ gb133)); clear BK133; clear HB; have BK133 := n0_; have HB := n1_; have BK134 := n2_; have GW134 := n3_; have GE134 := n4_; have NB133_134 := n5_; have NB134_133 := n6_; clear n0_ n1_ n2_ n3_ n4_ n5_ n6_; clear hb hbox hg))
 go_loopg [5] k (fun kq v5 w' => ∃ (x5_1 : Int) (x135000_1 : Int) (x135001_1 : Int) (x135002_1 : ByteArray) (x135003_1 : Int) (x135004_1 : ByteArray), v5 = .int .i64 x5_1 ∧ Aside0 (linhayref07_At.l0 kq a1 x5_1 l0_0 a0_1 = some (r1, r2, r3, r4, r5)) ∧ Aside0 (kq ≤ k) ∧ Aside0 (w'.heap[gb133]? = some (.cells #[(.slice A0_0 l0_0.length c0_0), .int .i64 a0_1] 28 (0, 0))) ∧ Aside0 (w'.heap[gb134]? = some (.cells #[.int .i64 x135000_1, .int .i64 x135001_1, .string x135002_1, .int .i64 x135003_1, .string x135004_1] 97 (0, 0))) ∧ Aside0 (Below w.heap.size w w'))
 case atStart => exact ⟨(0), (0), (0), ((⟨#[]⟩ : ByteArray)), (0), ((⟨#[]⟩ : ByteArray)), (by first | rfl | (simp; done) | (simp [*]; done) | (simp [bne_nil]; done)), H', ⟨Nat.le_refl _⟩, ⟨by (with_reducible repeat (first | refine blk_drewN ?_ _ | refine blk_drew ?_ | refine blk_alloc ?_ _)); exact BK133.out⟩, ⟨by (with_reducible repeat (first | refine blk_drewN ?_ _ | refine blk_drew ?_ | refine blk_alloc ?_ _)); exact BK134.out⟩, ⟨by repeat (first | (with_reducible first | exact HB.out | apply below_alloc | apply pw_below_drewN | apply below_drew1 | refine below_set ?_ GE133.out | refine below_set ?_ GE134.out) | exact HB.out)⟩⟩
 case round =>
  clear H'
  try clear p2
  try clear c4
  obtain ⟨x5_1, x135000_1, x135001_1, x135002_1, x135003_1, x135004_1, rfl, HA, HK1, BK133, BK134, HB⟩ := hrel
  cases gk with
  | zero => exact absurd HA.out (by simp [linhayref07_At.l0])
  | succ k1 =>
   have H := HA.out
   clear HA
   simp only [linhayref07_At.l0] at H
   by_cases c5 : x5_1 < (l0_0.length : Int)
   ·
    rw [if_pos c5] at H
    have c5b0 : decide (x5_1 < (l0_0.length : Int)) = true := decide_eq_true c5
    clear c5
    by_cases c6 : 0 ≤ x5_1
    ·
     rw [if_pos c6] at H
     have c6b0 : decide (0 ≤ x5_1) = true := decide_eq_true c6
     clear c6
     by_cases c7 : ((rd_T97 l0_0 x5_1).f0) = a1
     ·
      rw [if_pos c7] at H
      have c7b0 : (((rd_T97 l0_0 x5_1).f0) == a1) = true := beq_iff_eq.mpr c7
      have c7b1 : (((rd_T97 l0_0 x5_1).f0) != a1) = false := bne_eq_false_iff_eq.mpr c7
      clear c7
      simp only [Option.some.injEq, Prod.mk.injEq] at H
      obtain ⟨rfl, rfl, rfl, rfl, rfl⟩ := H
      have hnb8 := NB133_134.out
      have hnc8 := NB134_133.out
      have hcz9_0 : wr.cell? ⟨gb133, 0, none⟩ = some (.slice A0_0 l0_0.length c0_0) := (blk_cell BK133.out 0).trans rfl
      have hcz9_1 : wr.cell? ⟨gb133, 1, none⟩ = some (.int .i64 a0_1) := (blk_cell BK133.out 1).trans rfl
      have hfz9_0 := blk_frozen BK133.out 0
      have hfz9_1 := blk_frozen BK133.out 1
      have p135 : 0 ≤ (x5_1 : Int) := of_decide_eq_true (by first | (with_reducible assumption) | assumption)
      have q135 : x5_1 < (l0_0.length : Int) := of_decide_eq_true (by first | (with_reducible assumption) | assumption)
      obtain ⟨ad135, e135, hx135_0, hx135_1, hx135_2, hx135_3, hx135_4⟩ := at_T97 HR0_0.out x5_1 p135 q135
      cases e135
      replace hx135_0 := (HB.out.cell (World.block_lt_of_cell? w _ hx135_0)).trans hx135_0
      replace hx135_1 := (HB.out.cell (World.block_lt_of_cell? w _ hx135_1)).trans hx135_1
      replace hx135_2 := (HB.out.cell (World.block_lt_of_cell? w _ hx135_2)).trans hx135_2
      replace hx135_3 := (HB.out.cell (World.block_lt_of_cell? w _ hx135_3)).trans hx135_3
      replace hx135_4 := (HB.out.cell (World.block_lt_of_cell? w _ hx135_4)).trans hx135_4
      replace p135 := eq_true p135
      replace q135 := eq_true q135
      have p136 : 0 ≤ (x5_1 : Int) := of_decide_eq_true (by first | (with_reducible assumption) | assumption)
      have q136 : x5_1 < (l0_0.length : Int) := of_decide_eq_true (by first | (with_reducible assumption) | assumption)
      obtain ⟨ad136, e136, hx136_0, hx136_1, hx136_2, hx136_3, hx136_4⟩ := at_T97 HR0_0.out x5_1 p136 q136
      obtain rfl : ad135 = ad136 := (by injection e136)
      replace hx136_0 := (HB.out.cell (World.block_lt_of_cell? w _ hx136_0)).trans hx136_0
      replace hx136_1 := (HB.out.cell (World.block_lt_of_cell? w _ hx136_1)).trans hx136_1
      replace hx136_2 := (HB.out.cell (World.block_lt_of_cell? w _ hx136_2)).trans hx136_2
      replace hx136_3 := (HB.out.cell (World.block_lt_of_cell? w _ hx136_3)).trans hx136_3
      replace hx136_4 := (HB.out.cell (World.block_lt_of_cell? w _ hx136_4)).trans hx136_4
      replace p136 := eq_true p136
      replace q136 := eq_true q136
      have hcz10_0 : wr.cell? ⟨gb134, 0, none⟩ = some (.int .i64 x135000_1) := (blk_cell BK134.out 0).trans rfl
      have hcz10_1 : wr.cell? ⟨gb134, 1, none⟩ = some (.int .i64 x135001_1) := (blk_cell BK134.out 1).trans rfl
      have hcz10_2 : wr.cell? ⟨gb134, 2, none⟩ = some (.string x135002_1) := (blk_cell BK134.out 2).trans rfl
      have hcz10_3 : wr.cell? ⟨gb134, 3, none⟩ = some (.int .i64 x135003_1) := (blk_cell BK134.out 3).trans rfl
      have hcz10_4 : wr.cell? ⟨gb134, 4, none⟩ = some (.string x135004_1) := (blk_cell BK134.out 4).trans rfl
      have hfz10_0 := blk_frozen BK134.out 0
      have hfz10_1 := blk_frozen BK134.out 1
      have hfz10_2 := blk_frozen BK134.out 2
      have hfz10_3 := blk_frozen BK134.out 3
      have hfz10_4 := blk_frozen BK134.out 4
      go_wp2
      refine bodyPost_ret (results_cell_row rfl _ _ gb134 97 #[.int .i64 ((rd_T97 l0_0 x5_1).f0), .int .i64 ((rd_T97 l0_0 x5_1).f1), .string ((rd_T97 l0_0 x5_1).f2), .int .i64 ((rd_T97 l0_0 x5_1).f3), .string ((rd_T97 l0_0 x5_1).f4)] (0, 0) _ rfl (by (with_reducible repeat (first | refine blk_drewN ?_ _ | refine blk_drew ?_ | refine blk_alloc ?_ _)); refine blk_put (cs := #[.int .i64 ((rd_T97 l0_0 x5_1).f0), .int .i64 ((rd_T97 l0_0 x5_1).f1), .string ((rd_T97 l0_0 x5_1).f2), .int .i64 ((rd_T97 l0_0 x5_1).f3), .string x135004_1]) ?_ 4 _ rfl; (with_reducible repeat (first | refine blk_drewN ?_ _ | refine blk_drew ?_ | refine blk_alloc ?_ _)); refine blk_put (cs := #[.int .i64 ((rd_T97 l0_0 x5_1).f0), .int .i64 ((rd_T97 l0_0 x5_1).f1), .string ((rd_T97 l0_0 x5_1).f2), .int .i64 x135003_1, .string x135004_1]) ?_ 3 _ rfl; (with_reducible repeat (first | refine blk_drewN ?_ _ | refine blk_drew ?_ | refine blk_alloc ?_ _)); refine blk_put (cs := #[.int .i64 ((rd_T97 l0_0 x5_1).f0), .int .i64 ((rd_T97 l0_0 x5_1).f1), .string x135002_1, .int .i64 x135003_1, .string x135004_1]) ?_ 2 _ rfl; (with_reducible repeat (first | refine blk_drewN ?_ _ | refine blk_drew ?_ | refine blk_alloc ?_ _)); refine blk_put (cs := #[.int .i64 ((rd_T97 l0_0 x5_1).f0), .int .i64 x135001_1, .string x135002_1, .int .i64 x135003_1, .string x135004_1]) ?_ 1 _ rfl; (with_reducible repeat (first | refine blk_drewN ?_ _ | refine blk_drew ?_ | refine blk_alloc ?_ _)); refine blk_put (cs := #[.int .i64 x135000_1, .int .i64 x135001_1, .string x135002_1, .int .i64 x135003_1, .string x135004_1]) ?_ 0 _ rfl; (with_reducible repeat (first | refine blk_drewN ?_ _ | refine blk_drew ?_ | refine blk_alloc ?_ _)); exact BK134.out) Try.underlying97 rfl (by kernel_rfl)) rfl ?_
      exact ⟨by first | rfl | (simp [errW_none, errW_some] <;> rfl) | (simp [*, errW_none, errW_some] <;> rfl) | (simp [errW_none, errW_some, bne_nil]; done) | (simp [*, bne_nil]; done) | (simp [bne]; done), by repeat (first | (with_reducible first | exact HB.out | apply below_alloc | apply pw_below_drewN | apply below_drew1 | refine below_set ?_ GE133.out | refine below_set ?_ GE134.out) | exact HB.out)⟩
     ·
      rw [if_neg c7] at H
      have c7b0 : (((rd_T97 l0_0 x5_1).f0) == a1) = false := beq_eq_false_iff_ne.mpr c7
      have c7b1 : (((rd_T97 l0_0 x5_1).f0) != a1) = true := bne_iff_ne.mpr c7
      have H' := Aside0.mk H
      clear H
      have hnb11 := NB133_134.out
      have hnc11 := NB134_133.out
      have hcz12_0 : wr.cell? ⟨gb133, 0, none⟩ = some (.slice A0_0 l0_0.length c0_0) := (blk_cell BK133.out 0).trans rfl
      have hcz12_1 : wr.cell? ⟨gb133, 1, none⟩ = some (.int .i64 a0_1) := (blk_cell BK133.out 1).trans rfl
      have hfz12_0 := blk_frozen BK133.out 0
      have hfz12_1 := blk_frozen BK133.out 1
      have p135 : 0 ≤ (x5_1 : Int) := of_decide_eq_true (by first | (with_reducible assumption) | assumption)
      have q135 : x5_1 < (l0_0.length : Int) := of_decide_eq_true (by first | (with_reducible assumption) | assumption)
      obtain ⟨ad135, e135, hx135_0, hx135_1, hx135_2, hx135_3, hx135_4⟩ := at_T97 HR0_0.out x5_1 p135 q135
      cases e135
      replace hx135_0 := (HB.out.cell (World.block_lt_of_cell? w _ hx135_0)).trans hx135_0
      replace hx135_1 := (HB.out.cell (World.block_lt_of_cell? w _ hx135_1)).trans hx135_1
      replace hx135_2 := (HB.out.cell (World.block_lt_of_cell? w _ hx135_2)).trans hx135_2
      replace hx135_3 := (HB.out.cell (World.block_lt_of_cell? w _ hx135_3)).trans hx135_3
      replace hx135_4 := (HB.out.cell (World.block_lt_of_cell? w _ hx135_4)).trans hx135_4
      replace p135 := eq_true p135
      replace q135 := eq_true q135
      go_wp2
      go_roundg k1
      case measure => have := HK1.out; omega
      case rel => exact ⟨(wrap64 (x5_1 + 1)), (x135000_1), (x135001_1), (x135002_1), (x135003_1), (x135004_1), (by first | rfl | (simp; done) | (simp [*]; done) | (simp [bne_nil]; done)), H', ⟨by have := HK1.out; omega⟩, ⟨by (with_reducible repeat (first | refine blk_drewN ?_ _ | refine blk_drew ?_ | refine blk_alloc ?_ _)); exact BK133.out⟩, ⟨by (with_reducible repeat (first | refine blk_drewN ?_ _ | refine blk_drew ?_ | refine blk_alloc ?_ _)); exact BK134.out⟩, ⟨by repeat (first | (with_reducible first | exact HB.out | apply below_alloc | apply pw_below_drewN | apply below_drew1 | refine below_set ?_ GE133.out | refine below_set ?_ GE134.out) | exact HB.out)⟩⟩
    ·
     rw [if_neg c6] at H
     exact absurd H (by simp)
   ·
    rw [if_neg c5] at H
    have c5b0 : decide (x5_1 < (l0_0.length : Int)) = false := decide_eq_false c5
    clear c5
    simp only [Option.some.injEq, Prod.mk.injEq] at H
    obtain ⟨rfl, rfl, rfl, rfl, rfl⟩ := H
    have hnb13 := NB133_134.out
    have hnc13 := NB134_133.out
    have hcz14_0 : wr.cell? ⟨gb133, 0, none⟩ = some (.slice A0_0 l0_0.length c0_0) := (blk_cell BK133.out 0).trans rfl
    have hcz14_1 : wr.cell? ⟨gb133, 1, none⟩ = some (.int .i64 a0_1) := (blk_cell BK133.out 1).trans rfl
    have hfz14_0 := blk_frozen BK133.out 0
    have hfz14_1 := blk_frozen BK133.out 1
    have hcz15_0 : wr.cell? ⟨gb134, 0, none⟩ = some (.int .i64 x135000_1) := (blk_cell BK134.out 0).trans rfl
    have hcz15_1 : wr.cell? ⟨gb134, 1, none⟩ = some (.int .i64 x135001_1) := (blk_cell BK134.out 1).trans rfl
    have hcz15_2 : wr.cell? ⟨gb134, 2, none⟩ = some (.string x135002_1) := (blk_cell BK134.out 2).trans rfl
    have hcz15_3 : wr.cell? ⟨gb134, 3, none⟩ = some (.int .i64 x135003_1) := (blk_cell BK134.out 3).trans rfl
    have hcz15_4 : wr.cell? ⟨gb134, 4, none⟩ = some (.string x135004_1) := (blk_cell BK134.out 4).trans rfl
    have hfz15_0 := blk_frozen BK134.out 0
    have hfz15_1 := blk_frozen BK134.out 1
    have hfz15_2 := blk_frozen BK134.out 2
    have hfz15_3 := blk_frozen BK134.out 3
    have hfz15_4 := blk_frozen BK134.out 4
    go_wp2
    refine bodyPost_ret (results_cell_row rfl _ _ gb134 97 #[.int .i64 0, .int .i64 0, .string (⟨#[]⟩ : ByteArray), .int .i64 0, .string (⟨#[]⟩ : ByteArray)] (0, 0) _ rfl (by (with_reducible repeat (first | refine blk_drewN ?_ _ | refine blk_drew ?_ | refine blk_alloc ?_ _)); refine blk_put (cs := #[.int .i64 0, .int .i64 0, .string (⟨#[]⟩ : ByteArray), .int .i64 0, .string x135004_1]) ?_ 4 _ rfl; (with_reducible repeat (first | refine blk_drewN ?_ _ | refine blk_drew ?_ | refine blk_alloc ?_ _)); refine blk_put (cs := #[.int .i64 0, .int .i64 0, .string (⟨#[]⟩ : ByteArray), .int .i64 x135003_1, .string x135004_1]) ?_ 3 _ rfl; (with_reducible repeat (first | refine blk_drewN ?_ _ | refine blk_drew ?_ | refine blk_alloc ?_ _)); refine blk_put (cs := #[.int .i64 0, .int .i64 0, .string x135002_1, .int .i64 x135003_1, .string x135004_1]) ?_ 2 _ rfl; (with_reducible repeat (first | refine blk_drewN ?_ _ | refine blk_drew ?_ | refine blk_alloc ?_ _)); refine blk_put (cs := #[.int .i64 0, .int .i64 x135001_1, .string x135002_1, .int .i64 x135003_1, .string x135004_1]) ?_ 1 _ rfl; (with_reducible repeat (first | refine blk_drewN ?_ _ | refine blk_drew ?_ | refine blk_alloc ?_ _)); refine blk_put (cs := #[.int .i64 x135000_1, .int .i64 x135001_1, .string x135002_1, .int .i64 x135003_1, .string x135004_1]) ?_ 0 _ rfl; (with_reducible repeat (first | refine blk_drewN ?_ _ | refine blk_drew ?_ | refine blk_alloc ?_ _)); exact BK134.out) Try.underlying97 rfl (by kernel_rfl)) rfl ?_
    exact ⟨by first | rfl | (simp [errW_none, errW_some] <;> rfl) | (simp [*, errW_none, errW_some] <;> rfl) | (simp [errW_none, errW_some, bne_nil]; done) | (simp [*, bne_nil]; done) | (simp [bne]; done), by repeat (first | (with_reducible first | exact HB.out | apply below_alloc | apply pw_below_drewN | apply below_drew1 | refine below_set ?_ GE133.out | refine below_set ?_ GE134.out) | exact HB.out)⟩

end Go.Proofs.Ytjfigngmpagloaa.X

namespace Go.Proofs.Ytjfigngmpagloaa.Ext
end Go.Proofs.Ytjfigngmpagloaa.Ext
namespace Go.Proofs.Ytjfigngmpagloaa.X
open Go.RowKit Go.Proofs.YtjfigngmpagloaaW.PrintWords Go.Proofs.YtjfigngmpagloaaW.PrintLast Go.Proofs.YtjfigngmpagloaaW.PrintMore Go.Proofs.Ytjfigngmpagloaa.Ext
attribute [local go_sem] max2_int min2_int max_two min_two max_three min_three max_four min_four   -- for this text's walks alone
set_option linter.unusedVariables false
set_option linter.unusedSimpArgs false

def linhayref07_dir.f (k : Nat) (l0_0 : List (S97)) (a0_1 : Int) (a1 : Int) : Option (Int) := (linhayref07_At.f k l0_0 a0_1 a1).bind fun bt138 => (if bt138.2.2.2.1 = 0 then (some 5) else (if bt138.2.2.2.1 = 1 then (some 0) else (some 7)))
set_option maxHeartbeats 8000000 in
set_option maxRecDepth 100000 in
theorem linhayref07_dir.calls (k : Nat) (A0_0 : Option Addr) (c0_0 : Nat) (l0_0 : List (S97)) (a0_1 : Int) (a1 : Int) (r : Int) (w : World) (hr0_0 : Kd.C k97 w A0_0 l0_0.length l0_0) (hc0_0 : l0_0.length ≤ c0_0) (h : linhayref07_dir.f k l0_0 a0_1 a1 = some r) :
  Calls Try.prog 93 #[.agg #[.slice A0_0 l0_0.length c0_0, .int .i64 a0_1], .int .i64 a1] w fun e w' => e = .returned (.int .i64 r) ∧ Below w.heap.size w w' := by
 have hu75 := Try.underlying75
 have hu76 := Try.underlying76
 have hu89 := Try.underlying89
 have hu97 := Try.underlying97
 have hu108 := Try.underlying108
 have hu28 := Try.underlying28
 have HR0_0 := Aside0.mk hr0_0
 have HC0_0 := Aside0.mk hc0_0
 clear hr0_0 hc0_0
 have HB := Aside0.mk (Below.refl w.heap.size w)
 have H : ((linhayref07_At.f k l0_0 a0_1 a1).bind fun bt138 => (if bt138.2.2.2.1 = 0 then (some 5) else (if bt138.2.2.2.1 = 1 then (some 0) else (some 7)))) = some r := h
 clear h
 replace H := Option.bind_eq_some_iff.mp H
 obtain ⟨⟨t138, t139, t140, t141, t142⟩, A30, H⟩ := H
 replace H : (if t141 = 0 then (some 5) else (if t141 = 1 then (some 0) else (some 7))) = some r := H
 have A3 := Aside0.mk A30
 clear A30
 by_cases c4 : t141 = 0
 ·
  rw [if_pos c4] at H
  have c4b0 : (t141 == 0) = true := beq_iff_eq.mpr c4
  have c4b1 : (t141 != 0) = false := bne_eq_false_iff_eq.mpr c4
  clear c4
  obtain rfl := Option.some.inj H
  go_enter Try.func93, Try.ntmps93
  go_wp2_with (first | ((with_reducible refine gate_dst (N := 2) rfl ?_); refine box_event ?hg (N := 2) ?hd (cs := #[.slice A0_0 l0_0.length c0_0, .int .i64 a0_1]) (t := 28) ?hr ?_; (case hd => rfl); (case hg => rfl); (case hr => first | (go_simp; done) | (go_simp; rfl)); intro gb137 hg w5 hbox hb; have n0_ := Aside0.mk (below_step (by repeat (first | (with_reducible first | exact HB.out | apply below_alloc | apply pw_below_drewN | apply below_drew1) | exact HB.out)) hb); have n1_ := Aside0.mk (hbox); have n2_ := Aside0.mk ((by rw [hg]; exact (below_size (by repeat (first | (with_reducible first | exact HB.out | apply below_alloc | apply pw_below_drewN | apply below_drew1) | exact HB.out))) : w.heap.size ≤ gb137)); have n3_ := Aside0.mk ((by rw [hg]; exact (below_size (by repeat (first | (with_reducible first | exact HB.out | apply below_alloc | apply pw_below_drewN | apply below_drew1) | exact HB.out))) : w.heap.size ≤ gb137)); clear HB; have HB := n0_; have BK137 := n1_; have GW137 := n2_; have GE137 := n3_; clear n0_ n1_ n2_ n3_; clear hb hbox hg; have hcz6_0 : w5.cell? ⟨gb137, 0, none⟩ = some (.slice A0_0 l0_0.length c0_0) := (blk_cell BK137.out 0).trans rfl; have hcz6_1 : w5.cell? ⟨gb137, 1, none⟩ = some (.int .i64 a0_1) := (blk_cell BK137.out 1).trans rfl; have hfz6_0 := blk_frozen BK137.out 0; have hfz6_1 := blk_frozen BK137.out 1) | ((with_reducible refine gate_callee (f := 49) rfl ?_); refine goesL_ (some 8) rfl rfl Try.func49 (by kernel_rfl) rfl #[.agg #[.slice A0_0 l0_0.length c0_0, .int .i64 a0_1], .int .i64 a1] rfl (by (try simp only [List.map_toArray, List.map_cons, List.map_nil]); first | done | rfl | (simp only [List.length_drop, List.length_take]; rfl)) ?_; (with_reducible refine (linhayref07_At.calls k _ _ l0_0 a0_1 a1 t138 t139 t140 t141 t142 _ ?side1 ?side2 A3.out).mono ?_); (case side1 => repeat (first | exact (Kd.C_below HR0_0.out HB.out) | (with_reducible refine Kd.C_alloc ?_ _) | (with_reducible refine Kd.C_drewN ?_ _) | (with_reducible refine Kd.C_drew ?_))); (case side2 => exact HC0_0.out); rintro e w7 ⟨rfl, hb⟩; refine ⟨_, rfl, ?_⟩; have n0_ := Aside0.mk (blk_below (g := gb137) (o := .cells #[.slice A0_0 l0_0.length c0_0, .int .i64 a0_1] 28 (0, 0)) (by (with_reducible repeat (first | refine blk_drewN ?_ _ | refine blk_drew ?_ | refine blk_alloc ?_ _)); exact BK137.out) hb); have n1_ := Aside0.mk (below_step (by repeat (first | (with_reducible first | exact HB.out | apply below_alloc | apply pw_below_drewN | apply below_drew1 | refine below_set ?_ GE137.out) | exact HB.out)) hb); clear BK137; clear HB; have BK137 := n0_; have HB := n1_; clear n0_ n1_; (try clear hb); (try clear hb2); (try clear hk); (try clear hi)))
  go_ret
  exact ⟨by first | rfl | (simp [errW_none, errW_some] <;> rfl) | (simp [*, errW_none, errW_some] <;> rfl) | (simp [errW_none, errW_some, bne_nil]; done) | (simp [*, bne_nil]; done) | (simp [bne]; done), by repeat (first | (with_reducible first | exact HB.out | apply below_alloc | apply pw_below_drewN | apply below_drew1 | refine below_set ?_ GE137.out) | exact HB.out)⟩
 ·
  rw [if_neg c4] at H
  have c4b0 : (t141 == 0) = false := beq_eq_false_iff_ne.mpr c4
  have c4b1 : (t141 != 0) = true := bne_iff_ne.mpr c4
  by_cases c8 : t141 = 1
  ·
   rw [if_pos c8] at H
   have c8b0 : (t141 == 1) = true := beq_iff_eq.mpr c8
   have c8b1 : (t141 != 1) = false := bne_eq_false_iff_eq.mpr c8
   clear c8
   obtain rfl := Option.some.inj H
   go_enter Try.func93, Try.ntmps93
   go_wp2_with (first | ((with_reducible refine gate_dst (N := 2) rfl ?_); refine box_event ?hg (N := 2) ?hd (cs := #[.slice A0_0 l0_0.length c0_0, .int .i64 a0_1]) (t := 28) ?hr ?_; (case hd => rfl); (case hg => rfl); (case hr => first | (go_simp; done) | (go_simp; rfl)); intro gb137 hg w9 hbox hb; have n0_ := Aside0.mk (below_step (by repeat (first | (with_reducible first | exact HB.out | apply below_alloc | apply pw_below_drewN | apply below_drew1) | exact HB.out)) hb); have n1_ := Aside0.mk (hbox); have n2_ := Aside0.mk ((by rw [hg]; exact (below_size (by repeat (first | (with_reducible first | exact HB.out | apply below_alloc | apply pw_below_drewN | apply below_drew1) | exact HB.out))) : w.heap.size ≤ gb137)); have n3_ := Aside0.mk ((by rw [hg]; exact (below_size (by repeat (first | (with_reducible first | exact HB.out | apply below_alloc | apply pw_below_drewN | apply below_drew1) | exact HB.out))) : w.heap.size ≤ gb137)); clear HB; have HB := n0_; have BK137 := n1_; have GW137 := n2_; have GE137 := n3_; clear n0_ n1_ n2_ n3_; clear hb hbox hg; have hcz10_0 : w9.cell? ⟨gb137, 0, none⟩ = some (.slice A0_0 l0_0.length c0_0) := (blk_cell BK137.out 0).trans rfl; have hcz10_1 : w9.cell? ⟨gb137, 1, none⟩ = some (.int .i64 a0_1) := (blk_cell BK137.out 1).trans rfl; have hfz10_0 := blk_frozen BK137.out 0; have hfz10_1 := blk_frozen BK137.out 1) | ((with_reducible refine gate_callee (f := 49) rfl ?_); refine goesL_ (some 8) rfl rfl Try.func49 (by kernel_rfl) rfl #[.agg #[.slice A0_0 l0_0.length c0_0, .int .i64 a0_1], .int .i64 a1] rfl (by (try simp only [List.map_toArray, List.map_cons, List.map_nil]); first | done | rfl | (simp only [List.length_drop, List.length_take]; rfl)) ?_; (with_reducible refine (linhayref07_At.calls k _ _ l0_0 a0_1 a1 t138 t139 t140 t141 t142 _ ?side1 ?side2 A3.out).mono ?_); (case side1 => repeat (first | exact (Kd.C_below HR0_0.out HB.out) | (with_reducible refine Kd.C_alloc ?_ _) | (with_reducible refine Kd.C_drewN ?_ _) | (with_reducible refine Kd.C_drew ?_))); (case side2 => exact HC0_0.out); rintro e w11 ⟨rfl, hb⟩; refine ⟨_, rfl, ?_⟩; have n0_ := Aside0.mk (blk_below (g := gb137) (o := .cells #[.slice A0_0 l0_0.length c0_0, .int .i64 a0_1] 28 (0, 0)) (by (with_reducible repeat (first | refine blk_drewN ?_ _ | refine blk_drew ?_ | refine blk_alloc ?_ _)); exact BK137.out) hb); have n1_ := Aside0.mk (below_step (by repeat (first | (with_reducible first | exact HB.out | apply below_alloc | apply pw_below_drewN | apply below_drew1 | refine below_set ?_ GE137.out) | exact HB.out)) hb); clear BK137; clear HB; have BK137 := n0_; have HB := n1_; clear n0_ n1_; (try clear hb); (try clear hb2); (try clear hk); (try clear hi)))
   go_ret
   exact ⟨by first | rfl | (simp [errW_none, errW_some] <;> rfl) | (simp [*, errW_none, errW_some] <;> rfl) | (simp [errW_none, errW_some, bne_nil]; done) | (simp [*, bne_nil]; done) | (simp [bne]; done), by repeat (first | (with_reducible first | exact HB.out | apply below_alloc | apply pw_below_drewN | apply below_drew1 | refine below_set ?_ GE137.out) | exact HB.out)⟩
  ·
   rw [if_neg c8] at H
   have c8b0 : (t141 == 1) = false := beq_eq_false_iff_ne.mpr c8
   have c8b1 : (t141 != 1) = true := bne_iff_ne.mpr c8
   obtain rfl := Option.some.inj H
   go_enter Try.func93, Try.ntmps93
   go_wp2_with (first | ((with_reducible refine gate_dst (N := 2) rfl ?_); refine box_event ?hg (N := 2) ?hd (cs := #[.slice A0_0 l0_0.length c0_0, .int .i64 a0_1]) (t := 28) ?hr ?_; (case hd => rfl); (case hg => rfl); (case hr => first | (go_simp; done) | (go_simp; rfl)); intro gb137 hg w12 hbox hb; have n0_ := Aside0.mk (below_step (by repeat (first | (with_reducible first | exact HB.out | apply below_alloc | apply pw_below_drewN | apply below_drew1) | exact HB.out)) hb); have n1_ := Aside0.mk (hbox); have n2_ := Aside0.mk ((by rw [hg]; exact (below_size (by repeat (first | (with_reducible first | exact HB.out | apply below_alloc | apply pw_below_drewN | apply below_drew1) | exact HB.out))) : w.heap.size ≤ gb137)); have n3_ := Aside0.mk ((by rw [hg]; exact (below_size (by repeat (first | (with_reducible first | exact HB.out | apply below_alloc | apply pw_below_drewN | apply below_drew1) | exact HB.out))) : w.heap.size ≤ gb137)); clear HB; have HB := n0_; have BK137 := n1_; have GW137 := n2_; have GE137 := n3_; clear n0_ n1_ n2_ n3_; clear hb hbox hg; have hcz13_0 : w12.cell? ⟨gb137, 0, none⟩ = some (.slice A0_0 l0_0.length c0_0) := (blk_cell BK137.out 0).trans rfl; have hcz13_1 : w12.cell? ⟨gb137, 1, none⟩ = some (.int .i64 a0_1) := (blk_cell BK137.out 1).trans rfl; have hfz13_0 := blk_frozen BK137.out 0; have hfz13_1 := blk_frozen BK137.out 1) | ((with_reducible refine gate_callee (f := 49) rfl ?_); refine goesL_ (some 8) rfl rfl Try.func49 (by kernel_rfl) rfl #[.agg #[.slice A0_0 l0_0.length c0_0, .int .i64 a0_1], .int .i64 a1] rfl (by (try simp only [List.map_toArray, List.map_cons, List.map_nil]); first | done | rfl | (simp only [List.length_drop, List.length_take]; rfl)) ?_; (with_reducible refine (linhayref07_At.calls k _ _ l0_0 a0_1 a1 t138 t139 t140 t141 t142 _ ?side1 ?side2 A3.out).mono ?_); (case side1 => repeat (first | exact (Kd.C_below HR0_0.out HB.out) | (with_reducible refine Kd.C_alloc ?_ _) | (with_reducible refine Kd.C_drewN ?_ _) | (with_reducible refine Kd.C_drew ?_))); (case side2 => exact HC0_0.out); rintro e w14 ⟨rfl, hb⟩; refine ⟨_, rfl, ?_⟩; have n0_ := Aside0.mk (blk_below (g := gb137) (o := .cells #[.slice A0_0 l0_0.length c0_0, .int .i64 a0_1] 28 (0, 0)) (by (with_reducible repeat (first | refine blk_drewN ?_ _ | refine blk_drew ?_ | refine blk_alloc ?_ _)); exact BK137.out) hb); have n1_ := Aside0.mk (below_step (by repeat (first | (with_reducible first | exact HB.out | apply below_alloc | apply pw_below_drewN | apply below_drew1 | refine below_set ?_ GE137.out) | exact HB.out)) hb); clear BK137; clear HB; have BK137 := n0_; have HB := n1_; clear n0_ n1_; (try clear hb); (try clear hb2); (try clear hk); (try clear hi)))
   go_ret
   exact ⟨by first | rfl | (simp [errW_none, errW_some] <;> rfl) | (simp [*, errW_none, errW_some] <;> rfl) | (simp [errW_none, errW_some, bne_nil]; done) | (simp [*, bne_nil]; done) | (simp [bne]; done), by repeat (first | (with_reducible first | exact HB.out | apply below_alloc | apply pw_below_drewN | apply below_drew1 | refine below_set ?_ GE137.out) | exact HB.out)⟩

end Go.Proofs.Ytjfigngmpagloaa.X

namespace Go.Proofs.Ytjfigngmpagloaa.Ext
end Go.Proofs.Ytjfigngmpagloaa.Ext
namespace Go.Proofs.Ytjfigngmpagloaa.X
open Go.RowKit Go.Proofs.YtjfigngmpagloaaW.PrintWords Go.Proofs.YtjfigngmpagloaaW.PrintLast Go.Proofs.YtjfigngmpagloaaW.PrintMore Go.Proofs.Ytjfigngmpagloaa.Ext
attribute [local go_sem] max2_int min2_int max_two min_two max_three min_three max_four min_four   -- for this text's walks alone
set_option linter.unusedVariables false
set_option linter.unusedSimpArgs false

mutual
def linhayref07_may.j0 : Nat → Int → ByteArray → Bool → Option (Int)
  | 0, _, _, _ => none
  | k + 1, x0, x1, x10 => if x10 = true then (some 2) else (if x0 = 1 then (if x1.toList = ([] : List UInt8) then (if x0 = 3 then (linhayref07_may.j1 k x1 (x1.toList == ([] : List UInt8))) else (linhayref07_may.j1 k x1 false)) else (linhayref07_may.j1 k x1 true)) else (if x0 = 3 then (linhayref07_may.j1 k x1 (x1.toList == ([] : List UInt8))) else (linhayref07_may.j1 k x1 false)))
def linhayref07_may.j1 : Nat → ByteArray → Bool → Option (Int)
  | 0, _, _ => none
  | k + 1, x1, x24 => if x24 = true then (some 3) else (if (x1.size : Int) > 65536 then (some 4) else (some 0))
end
def linhayref07_may.f (k : Nat) (a0 : Int) (a1 : ByteArray) : Option (Int) := if a0 < 1 then (linhayref07_may.j0 k a0 a1 true) else (linhayref07_may.j0 k a0 a1 (decide (a0 > 3)))
set_option maxHeartbeats 8000000 in
set_option maxRecDepth 100000 in
theorem linhayref07_may.calls (k : Nat) (a0 : Int) (a1 : ByteArray) (r : Int) (w : World) (h : linhayref07_may.f k a0 a1 = some r) :
  Calls Try.prog 94 #[.int .i64 a0, .string a1] w fun e w' => e = .returned (.int .i64 r) ∧ Drawn0 w w' := by
 have hu75 := Try.underlying75
 have hu76 := Try.underlying76
 have hu89 := Try.underlying89
 have hu97 := Try.underlying97
 have hu108 := Try.underlying108
 have H : (if a0 < 1 then (linhayref07_may.j0 k a0 a1 true) else (linhayref07_may.j0 k a0 a1 (decide (a0 > 3)))) = some r := h
 clear h
 have HC3 := Aside0.mk H
 clear H
 go_enter Try.func94, Try.ntmps94
 go_upto_region 1 with (fail)
 go_cut [10] (fun v10 wc => ∃ (kq : Nat) (x10_2 : Bool), v10 = .bool x10_2 ∧ Aside0 (linhayref07_may.j0 kq a0 a1 x10_2 = some r) ∧ Aside0 (kq ≤ k) ∧ Drawn0 w wc)
 case first =>
  have H := HC3.out
  clear HC3
  by_cases c4 : a0 < 1
  ·
   rw [if_pos c4] at H
   have c4b0 : decide (a0 < 1) = true := decide_eq_true c4
   clear c4
   (first | rw [c4b0] | (simp only [i64_w, i32_w]; rw [c4b0]) | skip)
   have H' := Aside0.mk H
   clear H
   go_wp2
   go_meet
   case rel => exact ⟨_, (true), (by first | rfl | (simp; done) | (simp [*]; done) | (simp [bne_nil]; done)), H', ⟨by first | omega | exact Nat.le_refl _⟩, by repeat (first | exact Drawn0.refl _ | apply Drawn0.step)⟩
  ·
   rw [if_neg c4] at H
   have c4b0 : decide (a0 < 1) = false := decide_eq_false c4
   clear c4
   (first | rw [c4b0] | (simp only [i64_w, i32_w]; rw [c4b0]) | skip)
   have H' := Aside0.mk H
   clear H
   go_wp2
   go_meet
   case rel => exact ⟨_, (decide (a0 > 3)), (by first | rfl | (simp; done) | (simp [*]; done) | (simp [bne_nil]; done)), H', ⟨by first | omega | exact Nat.le_refl _⟩, by repeat (first | exact Drawn0.refl _ | apply Drawn0.step)⟩
 case rest =>
  clear HC3
  try clear p2
  try clear c4
  try clear c4b0
  obtain ⟨kq, x10_2, rfl, HA, HJ2, ⟨mc2, rfl⟩⟩ := hcut
  cases kq with
  | zero => exact absurd HA.out (by simp [linhayref07_may.j0])
  | succ kj2 =>
   have H := HA.out
   clear HA
   simp only [linhayref07_may.j0] at H
   by_cases c5 : x10_2 = true
   ·
    subst c5
    have H1 : (some 2) = some r := by rw [if_pos rfl] at H; exact H
    clear H
    have H := H1
    clear H1
    obtain rfl := Option.some.inj H
    go_wp2
    go_ret
    exact ⟨by first | rfl | (simp; done) | (simp [*]; done), by repeat (first | exact Drawn0.refl _ | apply Drawn0.step)⟩
   ·
    replace c5 := Bool.eq_false_iff.mpr c5
    subst c5
    have H1 : (if a0 = 1 then (if a1.toList = ([] : List UInt8) then (if a0 = 3 then (linhayref07_may.j1 kj2 a1 (a1.toList == ([] : List UInt8))) else (linhayref07_may.j1 kj2 a1 false)) else (linhayref07_may.j1 kj2 a1 true)) else (if a0 = 3 then (linhayref07_may.j1 kj2 a1 (a1.toList == ([] : List UInt8))) else (linhayref07_may.j1 kj2 a1 false))) = some r := by rw [if_neg (show ¬ (false = true) by decide)] at H; exact H
    clear H
    have H := H1
    clear H1
    have HC6 := Aside0.mk H
    clear H
    go_upto_region 3 with (fail)
    go_cut [24] (fun v24 wc => ∃ (kq : Nat) (x24_5 : Bool), v24 = .bool x24_5 ∧ Aside0 (linhayref07_may.j1 kq a1 x24_5 = some r) ∧ Aside0 (kq ≤ kj2) ∧ Drawn0 w wc)
    case first =>
     have H := HC6.out
     clear HC6
     by_cases c7 : a0 = 1
     ·
      rw [if_pos c7] at H
      have c7b0 : (a0 == 1) = true := beq_iff_eq.mpr c7
      have c7b1 : (a0 != 1) = false := bne_eq_false_iff_eq.mpr c7
      clear c7
      (first | rw [c7b0] | (simp only [i64_w, i32_w]; rw [c7b0]) | skip)
      by_cases c8 : a1.toList = ([] : List UInt8)
      ·
       rw [if_pos c8] at H
       have c8b0 : (a1.toList == ([] : List UInt8)) = true := beq_iff_eq.mpr c8
       have c8b1 : (a1.toList != ([] : List UInt8)) = false := bne_eq_false_iff_eq.mpr c8
       clear c8
       by_cases c9 : a0 = 3
       ·
        rw [if_pos c9] at H
        have c9b0 : (a0 == 3) = true := beq_iff_eq.mpr c9
        have c9b1 : (a0 != 3) = false := bne_eq_false_iff_eq.mpr c9
        clear c9
        have H' := Aside0.mk H
        clear H
        go_wp2
        go_meet
        case rel => exact ⟨_, ((a1.toList == ([] : List UInt8))), (by first | rfl | (simp; done) | (simp [*]; done) | (simp [bne_nil]; done)), H', ⟨by have := HJ2.out; first | omega | exact Nat.le_refl _⟩, by repeat (first | exact Drawn0.refl _ | apply Drawn0.step)⟩
       ·
        rw [if_neg c9] at H
        have c9b0 : (a0 == 3) = false := beq_eq_false_iff_ne.mpr c9
        have c9b1 : (a0 != 3) = true := bne_iff_ne.mpr c9
        have H' := Aside0.mk H
        clear H
        go_wp2
        go_meet
        case rel => exact ⟨_, (false), (by first | rfl | (simp; done) | (simp [*]; done) | (simp [bne_nil]; done)), H', ⟨by have := HJ2.out; first | omega | exact Nat.le_refl _⟩, by repeat (first | exact Drawn0.refl _ | apply Drawn0.step)⟩
      ·
       rw [if_neg c8] at H
       have c8b0 : (a1.toList == ([] : List UInt8)) = false := beq_eq_false_iff_ne.mpr c8
       have c8b1 : (a1.toList != ([] : List UInt8)) = true := bne_iff_ne.mpr c8
       have H' := Aside0.mk H
       clear H
       go_wp2
       go_meet
       case rel => exact ⟨_, (true), (by first | rfl | (simp; done) | (simp [*]; done) | (simp [bne_nil]; done)), H', ⟨by have := HJ2.out; first | omega | exact Nat.le_refl _⟩, by repeat (first | exact Drawn0.refl _ | apply Drawn0.step)⟩
     ·
      rw [if_neg c7] at H
      have c7b0 : (a0 == 1) = false := beq_eq_false_iff_ne.mpr c7
      have c7b1 : (a0 != 1) = true := bne_iff_ne.mpr c7
      (first | rw [c7b0] | (simp only [i64_w, i32_w]; rw [c7b0]) | skip)
      by_cases c10 : a0 = 3
      ·
       rw [if_pos c10] at H
       have c10b0 : (a0 == 3) = true := beq_iff_eq.mpr c10
       have c10b1 : (a0 != 3) = false := bne_eq_false_iff_eq.mpr c10
       clear c10
       have H' := Aside0.mk H
       clear H
       go_wp2
       go_meet
       case rel => exact ⟨_, ((a1.toList == ([] : List UInt8))), (by first | rfl | (simp; done) | (simp [*]; done) | (simp [bne_nil]; done)), H', ⟨by have := HJ2.out; first | omega | exact Nat.le_refl _⟩, by repeat (first | exact Drawn0.refl _ | apply Drawn0.step)⟩
      ·
       rw [if_neg c10] at H
       have c10b0 : (a0 == 3) = false := beq_eq_false_iff_ne.mpr c10
       have c10b1 : (a0 != 3) = true := bne_iff_ne.mpr c10
       have H' := Aside0.mk H
       clear H
       go_wp2
       go_meet
       case rel => exact ⟨_, (false), (by first | rfl | (simp; done) | (simp [*]; done) | (simp [bne_nil]; done)), H', ⟨by have := HJ2.out; first | omega | exact Nat.le_refl _⟩, by repeat (first | exact Drawn0.refl _ | apply Drawn0.step)⟩
    case rest =>
     clear HC6
     try clear c1
     try clear c2
     try clear p2
     try clear c4
     try clear c4b0
     try clear c5
     try clear c7
     try clear c7b0
     try clear c7b1
     try clear c8
     try clear c8b0
     try clear c8b1
     try clear c9
     try clear c9b0
     try clear c9b1
     try clear c10
     try clear c10b0
     try clear c10b1
     try clear p2
     obtain ⟨kq, x24_5, rfl, HA, HJ5, ⟨mc5, rfl⟩⟩ := hcut
     cases kq with
     | zero => exact absurd HA.out (by simp [linhayref07_may.j1])
     | succ kj5 =>
      have H := HA.out
      clear HA
      simp only [linhayref07_may.j1] at H
      by_cases c11 : x24_5 = true
      ·
       subst c11
       have H1 : (some 3) = some r := by rw [if_pos rfl] at H; exact H
       clear H
       have H := H1
       clear H1
       obtain rfl := Option.some.inj H
       go_wp2
       go_ret
       exact ⟨by first | rfl | (simp; done) | (simp [*]; done), by repeat (first | exact Drawn0.refl _ | apply Drawn0.step)⟩
      ·
       replace c11 := Bool.eq_false_iff.mpr c11
       subst c11
       have H1 : (if (a1.size : Int) > 65536 then (some 4) else (some 0)) = some r := by rw [if_neg (show ¬ (false = true) by decide)] at H; exact H
       clear H
       have H := H1
       clear H1
       by_cases c12 : (a1.size : Int) > 65536
       ·
        rw [if_pos c12] at H
        have c12b0 : decide (65536 < (a1.size : Int)) = true := decide_eq_true c12
        have c12b1 : decide (65536 < a1.size) = true := decide_eq_true (by omega)
        clear c12
        obtain rfl := Option.some.inj H
        go_wp2
        go_ret
        exact ⟨by first | rfl | (simp; done) | (simp [*]; done), by repeat (first | exact Drawn0.refl _ | apply Drawn0.step)⟩
       ·
        rw [if_neg c12] at H
        have c12b0 : decide (65536 < (a1.size : Int)) = false := decide_eq_false c12
        have c12b1 : decide (65536 < a1.size) = false := decide_eq_false (by omega)
        clear c12
        obtain rfl := Option.some.inj H
        go_wp2
        go_ret
        exact ⟨by first | rfl | (simp; done) | (simp [*]; done), by repeat (first | exact Drawn0.refl _ | apply Drawn0.step)⟩

-- NOT PRINTED: function 47 (linhayref07_Put)

end Go.Proofs.Ytjfigngmpagloaa.X

namespace Go.Proofs.Ytjfigngmpagloaa.Tw
open Go Go.RowKit Go.Shelf Go.Proofs Go.Proofs.Ytjfigngmpagloaa Go.Proofs.YtjfigngmpagloaaW.PrintWords Go.Proofs.Ytjfigngmpagloaa.Ext Go.Proofs.Ytjfigngmpagloaa.X Go.Proofs.Ytjfigngmpagloaa.Pu
set_option linter.unusedVariables false
set_option linter.unusedSimpArgs false
abbrev RN := S97
def zR : RN := ⟨0, 0, ⟨#[]⟩, 0, ⟨#[]⟩⟩
def atR (L : List RN) (n : Int) : RN := (L.find? (fun r => r.f0 == n)).getD zR
def inQ (d : Int) (s : ByteArray) (r : RN) : Bool := r.f1 == d && (r.f2.toList == s.toList && !(r.f0 == 1))
def inR (L : List RN) (d : Int) (s : ByteArray) : Int := match L.find? (inQ d s) with | some r => r.f0 | none => 0
theorem rd_get {l : List RN} {i : Nat} (h : i < l.length) : rd_T97 l (i : Int) = l[i] := by simp [rd_T97, h]
theorem atR_pos {a : RN} {l : List RN} {n : Int} (h : a.f0 = n) : atR (a :: l) n = a := by
  unfold atR; rw [List.find?_cons, show (a.f0 == n) = true by simp [h]]; rfl
theorem atR_neg {a : RN} {l : List RN} {n : Int} (h : ¬ a.f0 = n) : atR (a :: l) n = atR l n := by
  unfold atR; rw [List.find?_cons, show (a.f0 == n) = false by simp [h]]
theorem r07_at (L : List RN) (n last : Int) (hl : L.length < 4294967296) : Ev (fun k => linhayref07_At.f k L last n) ((atR L n).f0, (atR L n).f1, (atR L n).f2, (atR L n).f3, (atR L n).f4) := by
  have key : ∀ (d i : Nat), i + d = L.length → Ev (fun k => linhayref07_At.l0 k n (i : Int) L last) ((atR (L.drop i) n).f0, (atR (L.drop i) n).f1, (atR (L.drop i) n).f2, (atR (L.drop i) n).f3, (atR (L.drop i) n).f4) := by
    intro d
    induction d with
    | zero =>
      intro i hi
      rw [List.drop_eq_nil_of_le (by omega)]
      refine Ev.step (fun k => by rw [linhayref07_At.l0]) ?_
      exact ev_neg (by omega) (Ev.now _)
    | succ d ih =>
      intro i hi
      have hlt : i < L.length := by omega
      refine Ev.step (fun k => by rw [linhayref07_At.l0]) (ev_pos (by omega) (ev_pos (by omega) ?_))
      rw [rd_get hlt, w1 (by omega), List.drop_eq_getElem_cons hlt]
      by_cases e : L[i].f0 = n
      · have e2 : atR (L[i] :: L.drop (i + 1)) n = L[i] := atR_pos e
        rw [e2]
        exact ev_pos e (Ev.now _)
      · have e2 : atR (L[i] :: L.drop (i + 1)) n = atR (L.drop (i + 1)) n := atR_neg e
        rw [e2]
        exact ev_neg e (ih (i + 1) (by omega))
  have := key L.length 0 (by omega)
  rw [List.drop_zero] at this
  exact this
theorem r07_in (L : List RN) (d last : Int) (s : ByteArray) (hl : L.length < 4294967296) : Ev (fun k => linhayref07_In.f k L last d s) (inR L d s) := by
  have key : ∀ (m i : Nat), i + m = L.length → Ev (fun k => linhayref07_In.l0 k d s (i : Int) L last) (inR (L.drop i) d s) := by
    intro m
    induction m with
    | zero =>
      intro i hi
      rw [List.drop_eq_nil_of_le (by omega)]
      refine Ev.step (fun k => by rw [linhayref07_In.l0]) ?_
      exact ev_neg (by omega) (Ev.now _)
    | succ m ih =>
      intro i hi
      have hlt : i < L.length := by omega
      refine Ev.step (fun k => by rw [linhayref07_In.l0]) (ev_pos (by omega) (ev_pos (by omega) ?_))
      rw [rd_get hlt, w1 (by omega), List.drop_eq_getElem_cons hlt]
      have hF : inQ d s L[i] = false → inR (L[i] :: L.drop (i + 1)) d s = inR (L.drop (i + 1)) d s := by
        intro h; unfold inR; rw [List.find?_cons, h]
      by_cases e : L[i].f1 = d
      · by_cases e2 : L[i].f2.toList = s.toList
        · by_cases e3 : L[i].f0 = 1
          · rw [hF (by simp [inQ, e3])]
            exact ev_pos e (ev_pos e2 (ev_pos e3 (ih (i + 1) (by omega))))
          · have : inR (L[i] :: L.drop (i + 1)) d s = L[i].f0 := by
              unfold inR; rw [List.find?_cons, show inQ d s L[i] = true by simp [inQ, e, e2, e3]]
            rw [this]
            exact ev_pos e (ev_pos e2 (ev_neg e3 (Ev.now _)))
        · rw [hF (by simp [inQ, e2])]
          exact ev_pos e (ev_neg e2 (ih (i + 1) (by omega)))
      · rw [hF (by simp [inQ, e])]
        exact ev_neg e (ih (i + 1) (by omega))
  have := key L.length 0 (by omega)
  rw [List.drop_zero] at this
  exact this
theorem r07_dir (L : List RN) (n last : Int) (hl : L.length < 4294967296) : Ev (fun k => linhayref07_dir.f k L last n) (dirE (atR L n).f3) := by
  unfold linhayref07_dir.f dirE
  refine Ev.bind (r07_at L n last hl) ?_
  show Ev (fun _ => if (atR L n).f3 = 0 then some 5 else if (atR L n).f3 = 1 then some 0 else some 7) _
  generalize (atR L n).f3 = k
  by_cases h0 : k = 0
  · simp only [if_pos h0]; exact Ev.now _
  · by_cases h1 : k = 1
    · simp only [if_neg h0, if_pos h1]; exact Ev.now _
    · simp only [if_neg h0, if_neg h1]; exact Ev.now _
end Go.Proofs.Ytjfigngmpagloaa.Tw

namespace Go.Proofs.Ytjfigngmpagloaa.Tw
open Go Go.RowKit Go.Shelf Go.Proofs Go.Proofs.Ytjfigngmpagloaa Go.Proofs.YtjfigngmpagloaaW.PrintWords Go.Proofs.Ytjfigngmpagloaa.Ext Go.Proofs.Ytjfigngmpagloaa.X Go.Proofs.Ytjfigngmpagloaa.Pu
set_option linter.unusedVariables false
set_option linter.unusedSimpArgs false
def isIn (n : Int) (r : RN) : Bool := r.f1 == n && !(r.f0 == 1)
def stepE (n : Int) (l : List En) (r : RN) : List En := if isIn n r = true then insE l ⟨r.f2, r.f0⟩ else l
def entsOf (L : List RN) (n : Int) : List En := L.foldl (stepE n) []
def ndOf (L : List RN) (r : RN) : Nd := ⟨r.f3, r.f1, r.f4, entsOf L r.f0⟩
def trOf (L : List RN) (last : Int) : Tr := ⟨fun n => (L.find? (fun r => r.f0 == n)).map (ndOf L), L.length, last⟩
theorem isIn_iff {n : Int} {r : RN} : isIn n r = true ↔ r.f1 = n ∧ r.f0 ≠ 1 := by simp [isIn]
theorem entsOf_snoc (L : List RN) (x : RN) (n : Int) : entsOf (L ++ [x]) n = if isIn n x = true then insE (entsOf L n) ⟨x.f2, x.f0⟩ else entsOf L n := by
  unfold entsOf; rw [List.foldl_append]; rfl
theorem fold_mem (n : Int) (e : En) : ∀ (L : List RN) (acc : List En), e ∈ L.foldl (stepE n) acc ↔ e ∈ acc ∨ ∃ r ∈ L, isIn n r = true ∧ e = ⟨r.f2, r.f0⟩
  | [], acc => by simp
  | a :: L, acc => by
    rw [List.foldl_cons, fold_mem n e L]
    unfold stepE
    split
    · rename_i h
      rw [insE_mem]
      constructor
      · rintro ((h1 | h1) | ⟨r, h1, h2⟩)
        · exact .inr ⟨a, List.mem_cons_self, h, h1⟩
        · exact .inl h1
        · exact .inr ⟨r, List.mem_cons_of_mem _ h1, h2⟩
      · rintro (h1 | ⟨r, h1, h2, h3⟩)
        · exact .inl (.inr h1)
        · rcases List.mem_cons.1 h1 with rfl | h1
          · exact .inl (.inl h3)
          · exact .inr ⟨r, h1, h2, h3⟩
    · rename_i h
      constructor
      · rintro (h1 | ⟨r, h1, h2⟩)
        · exact .inl h1
        · exact .inr ⟨r, List.mem_cons_of_mem _ h1, h2⟩
      · rintro (h1 | ⟨r, h1, h2, h3⟩)
        · exact .inl h1
        · rcases List.mem_cons.1 h1 with rfl | h1
          · exact absurd h2 h
          · exact .inr ⟨r, h1, h2, h3⟩
theorem mem_ents {L : List RN} {n : Int} {e : En} : e ∈ entsOf L n ↔ ∃ r ∈ L, isIn n r = true ∧ e = ⟨r.f2, r.f0⟩ := by
  unfold entsOf; rw [fold_mem]; simp
theorem fold_len (n : Int) : ∀ (L : List RN) (acc : List En), (L.foldl (stepE n) acc).length ≤ acc.length + L.length
  | [], acc => by simp
  | a :: L, acc => by
    rw [List.foldl_cons]
    have h := fold_len n L (stepE n acc a)
    have h2 : (stepE n acc a).length ≤ acc.length + 1 := by
      unfold stepE
      split
      · rw [insE_len]; exact Nat.le_refl _
      · omega
    simp only [List.length_cons]
    omega
theorem ents_len (L : List RN) (n : Int) : (entsOf L n).length ≤ L.length := by
  have := fold_len n L []
  simpa [entsOf] using this
theorem fold_rt (n : Int) : ∀ (L : List RN) (acc : List En), Rt acc → (∀ e ∈ acc, ∀ r ∈ L, isIn n r = true → e.f0 ≠ r.f2) → L.Pairwise (fun a b => a.f1 = b.f1 → a.f0 ≠ 1 → b.f0 ≠ 1 → a.f2 ≠ b.f2) → Rt (L.foldl (stepE n) acc)
  | [], acc, h, _, _ => h
  | a :: L, acc, h, hn, hp => by
    rw [List.foldl_cons]
    obtain ⟨h1, h2⟩ := List.pairwise_cons.1 hp
    refine fold_rt n L _ ?_ ?_ h2
    · unfold stepE
      split
      · rename_i hi
        exact insE_rt _ _ h (fun e he => hn e he a List.mem_cons_self hi)
      · exact h
    · intro e he r hr hi
      unfold stepE at he
      split at he
      · rename_i hj
        rcases (insE_mem _ _ _).1 he with rfl | he
        · obtain ⟨i1, i2⟩ := isIn_iff.1 hi
          obtain ⟨j1, j2⟩ := isIn_iff.1 hj
          exact h1 r hr (j1.trans i1.symm) j2 i2
        · exact hn e he r (List.mem_cons_of_mem _ hr) hi
      · exact hn e he r (List.mem_cons_of_mem _ hr) hi
structure GoodL (L : List RN) (last : Int) : Prop where
  len : L.length ≤ 4096
  num : ∀ r ∈ L, 1 ≤ r.f0 ∧ r.f0 ≤ last
  uniq : L.Pairwise (fun a b => a.f0 ≠ b.f0)
  names : L.Pairwise (fun a b => a.f1 = b.f1 → a.f0 ≠ 1 → b.f0 ≠ 1 → a.f2 ≠ b.f2)
  data : ∀ r ∈ L, r.f4.size ≤ 65536
  up : ∀ r ∈ L, (atR L r.f1).f3 = 1
  root : ∃ r ∈ L, r.f0 = 1 ∧ r.f1 = 1 ∧ r.f3 = 1
theorem GoodL.rt {L : List RN} {last : Int} (h : GoodL L last) (n : Int) : Rt (entsOf L n) := fold_rt n L [] List.Pairwise.nil (by simp) h.names
theorem find_num {L : List RN} {r : RN} (hu : L.Pairwise (fun a b => a.f0 ≠ b.f0)) (hr : r ∈ L) : L.find? (fun q => q.f0 == r.f0) = some r := by
  induction L with
  | nil => cases hr
  | cons a L ih =>
    obtain ⟨h1, h2⟩ := List.pairwise_cons.1 hu
    rw [List.find?_cons]
    rcases List.mem_cons.1 hr with rfl | hr
    · simp
    · have := h1 r hr
      rw [show (a.f0 == r.f0) = false by simpa using this]
      exact ih h2 hr
theorem at_mem {L : List RN} {last : Int} (h : GoodL L last) {r : RN} (hr : r ∈ L) : atR L r.f0 = r := by
  unfold atR; rw [find_num h.uniq hr]; rfl
theorem at_kind {L : List RN} {n : Int} (h : (atR L n).f3 ≠ 0) : ∃ r ∈ L, r.f0 = n ∧ atR L n = r := by
  unfold atR at h ⊢
  cases hf : L.find? (fun r => r.f0 == n) with
  | none => rw [hf] at h; exact absurd rfl h
  | some r =>
    refine ⟨r, List.mem_of_find?_eq_some hf, ?_, rfl⟩
    have := List.find?_some hf
    simpa using this
theorem GoodL.noEnts {L : List RN} {last : Int} (h : GoodL L last) {n : Int} (hn : L.find? (fun r => r.f0 == n) = none) : entsOf L n = [] := by
  cases he : entsOf L n with
  | nil => rfl
  | cons e l =>
    obtain ⟨r, hr, hi, _⟩ := mem_ents.1 (show e ∈ entsOf L n by rw [he]; exact List.mem_cons_self)
    obtain ⟨i1, i2⟩ := isIn_iff.1 hi
    have hk := h.up r hr
    rw [i1] at hk
    unfold atR at hk
    rw [hn] at hk
    cases hk
theorem node_of {L : List RN} {last : Int} (h : GoodL L last) (n : Int) : (trOf L last).node n = ⟨(atR L n).f3, (atR L n).f1, (atR L n).f4, entsOf L n⟩ := by
  unfold Tr.node trOf atR
  cases hf : L.find? (fun r => r.f0 == n) with
  | none => simp only [hf, Option.map_none, Option.getD_none, h.noEnts hf]; rfl
  | some r =>
    have := List.find?_some hf
    have : r.f0 = n := by simpa using this
    simp only [hf, Option.map_some, Option.getD_some, ndOf, this]
theorem find_ents {L : List RN} {last : Int} (h : GoodL L last) (n : Int) (s : ByteArray) : findE (entsOf L n) s = (inR L n s, decide (0 < inR L n s)) := by
  have hq : ∀ r : RN, inQ n s r = true ↔ isIn n r = true ∧ r.f2 = s := by
    intro r
    rw [isIn_iff]
    simp only [inQ, Bool.and_eq_true, beq_iff_eq, Bool.not_eq_true', beq_eq_false_iff_ne, toL_inj]
    constructor
    · rintro ⟨a, b, c⟩; exact ⟨⟨a, c⟩, b⟩
    · rintro ⟨⟨a, c⟩, b⟩; exact ⟨a, b, c⟩
  unfold findE inR
  cases hf : L.find? (inQ n s) with
  | none =>
    have : (entsOf L n).find? (fun e => e.f0.toList == s.toList) = none := by
      rw [List.find?_eq_none]
      intro e he
      obtain ⟨r, hr, hi, rfl⟩ := mem_ents.1 he
      have := List.find?_eq_none.1 hf r hr
      rw [hq] at this
      simp only [beq_iff_eq, toL_inj]
      exact fun e => this ⟨hi, e⟩
    rw [this]; rfl
  | some r =>
    have hr := List.mem_of_find?_eq_some hf
    have hrq := (hq r).1 (List.find?_some hf)
    have hm : (⟨r.f2, r.f0⟩ : En) ∈ entsOf L n := mem_ents.2 ⟨r, hr, hrq.1, rfl⟩
    cases hg : (entsOf L n).find? (fun e => e.f0.toList == s.toList) with
    | none =>
      have := List.find?_eq_none.1 hg _ hm
      simp [hrq.2] at this
    | some e =>
      have he := List.mem_of_find?_eq_some hg
      have hes := List.find?_some hg
      have hes : e.f0 = s := by simpa [toL_inj] using hes
      have hpos := (h.num r hr).1
      have : e = ⟨r.f2, r.f0⟩ := by
        apply Classical.byContradiction
        intro hne
        have hrt := h.rt n
        have key : bl e.f0 r.f2 = true ∨ bl r.f2 e.f0 = true := by
          obtain ⟨i, hi, rfl⟩ := List.getElem_of_mem he
          obtain ⟨j, hj, hj2⟩ := List.getElem_of_mem hm
          rcases Nat.lt_trichotomy i j with hlt | rfl | hgt
          · have := List.pairwise_iff_getElem.1 hrt i j hi hj hlt
            rw [hj2] at this; exact .inl this
          · exact absurd hj2 hne
          · have := List.pairwise_iff_getElem.1 hrt j i hj hi hgt
            rw [hj2] at this; exact .inr this
        rw [hes, hrq.2, bl_irr] at key
        rcases key with h | h <;> cases h
      subst this
      simp only []
      rw [decide_eq_true (by omega)]
end Go.Proofs.Ytjfigngmpagloaa.Tw

namespace Go.Proofs.Ytjfigngmpagloaa.Tw
open Go Go.RowKit Go.Shelf Go.Proofs Go.Proofs.Ytjfigngmpagloaa Go.Proofs.YtjfigngmpagloaaW.PrintWords Go.Proofs.Ytjfigngmpagloaa.Ext Go.Proofs.Ytjfigngmpagloaa.X Go.Proofs.Ytjfigngmpagloaa.Pu
set_option linter.unusedVariables false
set_option linter.unusedSimpArgs false
set_option maxRecDepth 1000000 in
theorem r07_may (kind : Int) (data : ByteArray) : linhayref07_may.f 5 kind data = some (mayE kind data) := by
  have hz : (data.toList = ([] : List UInt8)) ↔ data.size = 0 := by
    rw [toL]
    constructor
    · intro h
      have := congrArg List.length h
      exact this
    · intro h
      exact List.eq_nil_of_length_eq_zero h
  have hb : ∀ q : Bool, (data.toList == ([] : List UInt8)) = q → decide (data.size = 0) = q := by
    intro q h
    rw [← h]
    by_cases e : data.size = 0
    · rw [hz.2 e, decide_eq_true e]; rfl
    · rw [decide_eq_false e]
      symm
      rw [beq_eq_false_iff_ne]
      exact fun h => e (hz.1 h)
  have hb := hb _ rfl
  unfold mayE linhayref07_may.f
  by_cases a1 : kind < 1
  · rw [if_pos a1, if_pos (.inl a1)]; rfl
  · rw [if_neg a1]
    by_cases a2 : kind > 3
    · rw [decide_eq_true a2, if_pos (.inr a2)]; rfl
    · have J1 : linhayref07_may.j1 4 data false = (if (data.size : Int) > 65536 then some 4 else some 0) := rfl
      rw [decide_eq_false a2, if_neg (show ¬ (kind < 1 ∨ kind > 3) by omega),
        show linhayref07_may.j0 5 kind data false = (if kind = 1 then (if data.toList = ([] : List UInt8) then (if kind = 3 then linhayref07_may.j1 4 data (data.toList == ([] : List UInt8)) else linhayref07_may.j1 4 data false) else linhayref07_may.j1 4 data true) else (if kind = 3 then linhayref07_may.j1 4 data (data.toList == ([] : List UInt8)) else linhayref07_may.j1 4 data false)) from rfl]
      by_cases a3 : kind = 1
      · rw [if_pos a3]
        by_cases e : data.size = 0
        · rw [if_pos (hz.2 e), if_neg (show ¬ (kind = 3) by omega), if_neg (show ¬ ((kind = 1 ∧ data.size ≠ 0) ∨ (kind = 3 ∧ data.size = 0)) by omega), J1, if_neg (by omega), if_neg (by omega)]
        · rw [if_neg (fun h => e (hz.1 h)), if_pos (.inl ⟨a3, e⟩)]; rfl
      · rw [if_neg a3]
        by_cases a4 : kind = 3
        · rw [if_pos a4]
          by_cases e : data.size = 0
          · rw [decide_eq_true e] at hb
            rw [← hb, if_pos (.inr ⟨a4, e⟩)]; rfl
          · rw [decide_eq_false e] at hb
            rw [← hb, if_neg (show ¬ ((kind = 1 ∧ data.size ≠ 0) ∨ (kind = 3 ∧ data.size = 0)) by omega), J1]
            by_cases f : data.size > 65536
            · rw [if_pos f, if_pos (by omega)]
            · rw [if_neg f, if_neg (by omega)]
        · rw [if_neg a4, if_neg (show ¬ ((kind = 1 ∧ data.size ≠ 0) ∨ (kind = 3 ∧ data.size = 0)) by omega), J1]
          by_cases f : data.size > 65536
          · rw [if_pos f, if_pos (by omega)]
          · rw [if_neg f, if_neg (by omega)]
def putRE (L : List RN) (d : Int) (s : ByteArray) (kind : Int) (data : ByteArray) : Int :=
  if dirE (atR L d).f3 ≠ 0 then dirE (atR L d).f3 else if Sp.check s.data.toList ≠ 0 then Sp.check s.data.toList else
    if 0 < inR L d s then 6 else if mayE kind data ≠ 0 then mayE kind data else if 4096 ≤ L.length then 12 else 0
def RAt (w : World) (v : Value) (L : List RN) (last : Int) : Prop := ∃ A c, v = .agg #[.slice A L.length c, .int .i64 last] ∧ L.length ≤ c ∧ Kd.C k97 w A L.length L
theorem RAt.below {w w' : World} {v : Value} {L : List RN} {last : Int} (h : RAt w v L last) (hb : Below w.heap.size w w') : RAt w' v L last := by
  obtain ⟨A, c, e, h1, h2⟩ := h
  exact ⟨A, c, e, h1, Kd.C_below h2 hb⟩
structure PB (w : World) (b : Nat) (A : Option Addr) (n c : Nat) (last : Int) : Prop where
  x : w.heap[b]? = some (.cells #[.slice A n c, .int .i64 last] 28 (0, 0))
  r : w.heap[b + 1]? = some (.cells #[.slice none 0 0, .int .i64 0] 28 (0, 0))
theorem PB.below {w w' : World} {b n c : Nat} {A : Option Addr} {last : Int} (h : PB w b A n c last) (hb : Below w.heap.size w w') : PB w' b A n c last :=
  ⟨(hb.block _ (blk_lt h.x)).trans h.x, (hb.block _ (blk_lt h.r)).trans h.r⟩
theorem PB.all {w : World} {b n c : Nat} {A : Option Addr} {last : Int} (h : PB w b A n c last) :
    w.cell? ⟨b, 0, none⟩ = some (.slice A n c) ∧ w.cell? ⟨b, 1, none⟩ = some (.int .i64 last) ∧ w.cell? ⟨b + 1, 0, none⟩ = some (.slice none 0 0) ∧ w.cell? ⟨b + 1, 1, none⟩ = some (.int .i64 0) ∧ w.frozen? ⟨b + 1, 0, none⟩ = false ∧ w.frozen? ⟨b + 1, 1, none⟩ = false :=
  ⟨by rw [blk_cell h.x]; rfl, by rw [blk_cell h.x]; rfl, by rw [blk_cell h.r]; rfl, by rw [blk_cell h.r]; rfl, blk_frozen h.r 0, blk_frozen h.r 1⟩
theorem PB.mk0 (w : World) (A : Option Addr) (n c : Nat) (last : Int) : PB ((w.alloc (.cells #[.slice A n c, .int .i64 last] 28)).alloc (.cells #[.slice none 0 0, .int .i64 0] 28)) w.heap.size A n c last := by
  refine ⟨?_, ?_⟩
  · exact (((Below.refl _ (w.alloc (.cells #[.slice A n c, .int .i64 last] 28))).alloc (Nat.le_refl _) (.cells #[.slice none 0 0, .int .i64 0] 28)).block w.heap.size (by simp)).trans (heap_alloc_new w _)
  · have := heap_alloc_new (w.alloc (.cells #[.slice A n c, .int .i64 last] 28)) (.cells #[.slice none 0 0, .int .i64 0] 28)
    simpa using this
theorem below_two (w : World) (o1 o2 : Obj) : Below w.heap.size w ((w.alloc o1).alloc o2) := ((Below.refl _ w).alloc (Nat.le_refl _) _).alloc (by simp) _
theorem put_cells {w w2 : World} {n c : Nat} {A : Option Addr} {last : Int} {v0 v1 : Value} (h : PB w2 w.heap.size A n c last) (hb : Below w.heap.size w w2) :
    ((w2.setCell ⟨w.heap.size + 1, 0, none⟩ v0).setCell ⟨w.heap.size + 1, 1, none⟩ v1).cell? ⟨w.heap.size + 1, 0, none⟩ = some v0 ∧ ((w2.setCell ⟨w.heap.size + 1, 0, none⟩ v0).setCell ⟨w.heap.size + 1, 1, none⟩ v1).cell? ⟨w.heap.size + 1, 1, none⟩ = some v1 ∧
      Below w.heap.size w ((w2.setCell ⟨w.heap.size + 1, 0, none⟩ v0).setCell ⟨w.heap.size + 1, 1, none⟩ v1) := by
  have e1 := setCell_eq_setRow w2 (w.heap.size + 1) 0 _ _ _ v0 h.r
  have k1 : (w2.setCell ⟨w.heap.size + 1, 0, none⟩ v0).heap[w.heap.size + 1]? = some (.cells #[v0, .int .i64 0] 28 (0, 0)) := by rw [e1, setRow_heap w2 _ _ _ _ _ h.r]; rfl
  have e2 := setCell_eq_setRow _ (w.heap.size + 1) 1 _ _ _ v1 k1
  have k2 : ((w2.setCell ⟨w.heap.size + 1, 0, none⟩ v0).setCell ⟨w.heap.size + 1, 1, none⟩ v1).heap[w.heap.size + 1]? = some (.cells #[v0, v1] 28 (0, 0)) := by rw [e2, setRow_heap _ _ _ _ _ _ k1]; rfl
  exact ⟨by rw [blk_cell k2]; rfl, by rw [blk_cell k2]; rfl, (hb.setCell (by simp) _).setCell (by simp) _⟩
set_option maxHeartbeats 1000000 in
set_option maxRecDepth 1000000 in
theorem rput_err (L : List RN) (last : Int) (v : Value) (d : Int) (s : ByteArray) (kind : Int) (data : ByteArray) (w : World) (h : RAt w v L last) (hl : L.length < 4294967296) (he : putRE L d s kind data ≠ 0) :
    Calls Try.prog 47 #[v, .int .i64 d, .string s, .int .i64 kind, .string data] w fun e w' => e = .returned (.tuple #[v, .int .i64 0, .int .i64 (putRE L d s kind data)]) ∧ Below w.heap.size w w' := by
  obtain ⟨A, c, rfl, hle, hC⟩ := h
  obtain ⟨k1, hk1⟩ := (r07_dir L d last hl).rounds
  obtain ⟨k2, hk2⟩ := (r03_check s).rounds
  obtain ⟨k3, hk3⟩ := (r07_in L d last s hl).rounds
  have HD := Lib.hid (fun W h h2 => linhayref07_dir.calls k1 A c L last d _ W h h2 hk1)
  have HC := Lib.hid (fun W => linhayref03_Check.calls k2 s _ W hk2)
  have HI := Lib.hid (fun W h h2 => linhayref07_In.calls k3 A c L last d s _ W h h2 hk3)
  have HM := Lib.hid (fun W => linhayref07_may.calls 5 kind data (mayE kind data) W (r07_may kind data))
  have HL := Lib.hid hC
  have HLE := Lib.hid hle
  clear hk1 hk2 hk3 hle hl hC
  unfold putRE at he ⊢
  generalize dirE (atR L d).f3 = q1 at *
  generalize Sp.check s.data.toList = q2 at *
  generalize inR L d s = q3 at *
  generalize mayE kind data = q4 at *
  generalize hn : L.length = n at *
  have P1 := Lib.hid (PB.mk0 w A n c last)
  have hb1 := below_two w (.cells #[.slice A n c, .int .i64 last] 28) (.cells #[.slice none 0 0, .int .i64 0] 28)
  have HL1 := Lib.hid (Kd.C_below HL.out hb1)
  obtain ⟨x0_1, x1_1, r0_1, r1_1, f0_1, f1_1⟩ := P1.out.all
  have HB1 := Lib.hid hb1
  clear hb1
  by_cases h1 : q1 = 0
  · subst h1
    rw [if_neg (by simp)] at he ⊢
    by_cases h2 : q2 = 0
    · subst h2
      rw [if_neg (by simp)] at he ⊢
      by_cases h3 : 0 < q3
      · rw [if_pos h3]
        clear he
        go_enter Try.func47, Try.ntmps47
        go_wp2_with (first | (go_at_call 93; refine (HD.out _ HL1.out HLE.out).mono ?_; rintro e w2 ⟨rfl, hb2⟩; have P2 := Aside0.mk (P1.out.below hb2); have HL2 := Aside0.mk (Kd.C_below HL1.out hb2); obtain ⟨x0_2, x1_2, r0_2, r1_2, f0_2, f1_2⟩ := P2.out.all) | (go_at_call 64; refine (HC.out _).mono ?_; rintro e w3 ⟨rfl, hd3⟩; have hb3 := hd3.below; have P3 := Aside0.mk (P2.out.below hb3); have HL3 := Aside0.mk (Kd.C_below HL2.out hb3); obtain ⟨x0_3, x1_3, r0_3, r1_3, f0_3, f1_3⟩ := P3.out.all) | (go_at_call 70; refine (HI.out _ HL3.out HLE.out).mono ?_; rintro e w4 ⟨rfl, hb4⟩; have P4 := Aside0.mk (P3.out.below hb4); have HL4 := Aside0.mk (Kd.C_below HL3.out hb4); obtain ⟨x0_4, x1_4, r0_4, r1_4, f0_4, f1_4⟩ := P4.out.all) | (go_at_call 94; refine (HM.out _).mono ?_; rintro e w5 ⟨rfl, hd5⟩; have hb5 := hd5.below; have P5 := Aside0.mk (P4.out.below hb5); have HL5 := Aside0.mk (Kd.C_below HL4.out hb5); obtain ⟨x0_5, x1_5, r0_5, r1_5, f0_5, f1_5⟩ := P5.out.all))
        have hB := ((HB1.out.trans (hb2.mono (HB1.out.size))).trans (hb3.mono (Nat.le_trans (HB1.out.size) hb2.size))).trans (hb4.mono (Nat.le_trans (Nat.le_trans (HB1.out.size) hb2.size) hb3.size))
        obtain ⟨c0, c1, hB3⟩ := put_cells (v0 := .slice A n c) (v1 := .int .i64 last) P4.out hB
        generalize (w4.setCell ⟨w.heap.size + 1, 0, none⟩ (.slice A n c)).setCell ⟨w.heap.size + 1, 1, none⟩ (.int .i64 last) = w9 at c0 c1 hB3 ⊢
        have hu := Try.underlying28
        refine bodyPost_ret (v := .tuple #[.agg #[.slice A n c, .int .i64 last], .int .i64 0, .int .i64 6]) (by simp [results, Try.results47, go_sem, c0, c1, hu]) rfl ⟨rfl, hB3⟩
      · rw [if_neg h3] at he ⊢
        by_cases h4 : q4 = 0
        · subst h4
          rw [if_neg (by simp)] at he ⊢
          by_cases h5 : 4096 ≤ n
          · rw [if_pos h5]
            have h5' : (4096 : Int) ≤ (n : Int) := by omega
            clear he
            go_enter Try.func47, Try.ntmps47
            go_wp2_with (first | (go_at_call 93; refine (HD.out _ HL1.out HLE.out).mono ?_; rintro e w2 ⟨rfl, hb2⟩; have P2 := Aside0.mk (P1.out.below hb2); have HL2 := Aside0.mk (Kd.C_below HL1.out hb2); obtain ⟨x0_2, x1_2, r0_2, r1_2, f0_2, f1_2⟩ := P2.out.all) | (go_at_call 64; refine (HC.out _).mono ?_; rintro e w3 ⟨rfl, hd3⟩; have hb3 := hd3.below; have P3 := Aside0.mk (P2.out.below hb3); have HL3 := Aside0.mk (Kd.C_below HL2.out hb3); obtain ⟨x0_3, x1_3, r0_3, r1_3, f0_3, f1_3⟩ := P3.out.all) | (go_at_call 70; refine (HI.out _ HL3.out HLE.out).mono ?_; rintro e w4 ⟨rfl, hb4⟩; have P4 := Aside0.mk (P3.out.below hb4); have HL4 := Aside0.mk (Kd.C_below HL3.out hb4); obtain ⟨x0_4, x1_4, r0_4, r1_4, f0_4, f1_4⟩ := P4.out.all) | (go_at_call 94; refine (HM.out _).mono ?_; rintro e w5 ⟨rfl, hd5⟩; have hb5 := hd5.below; have P5 := Aside0.mk (P4.out.below hb5); have HL5 := Aside0.mk (Kd.C_below HL4.out hb5); obtain ⟨x0_5, x1_5, r0_5, r1_5, f0_5, f1_5⟩ := P5.out.all))
            have hB := (((HB1.out.trans (hb2.mono (HB1.out.size))).trans (hb3.mono (Nat.le_trans (HB1.out.size) hb2.size))).trans (hb4.mono (Nat.le_trans (Nat.le_trans (HB1.out.size) hb2.size) hb3.size))).trans (hb5.mono (Nat.le_trans (Nat.le_trans (Nat.le_trans (HB1.out.size) hb2.size) hb3.size) hb4.size))
            obtain ⟨c0, c1, hB3⟩ := put_cells (v0 := .slice A n c) (v1 := .int .i64 last) P5.out hB
            generalize (w5.setCell ⟨w.heap.size + 1, 0, none⟩ (.slice A n c)).setCell ⟨w.heap.size + 1, 1, none⟩ (.int .i64 last) = w9 at c0 c1 hB3 ⊢
            have hu := Try.underlying28
            refine bodyPost_ret (v := .tuple #[.agg #[.slice A n c, .int .i64 last], .int .i64 0, .int .i64 12]) (by simp [results, Try.results47, go_sem, c0, c1, hu]) rfl ⟨rfl, hB3⟩
          · rw [if_neg h5] at he
            exact absurd rfl he
        · rw [if_pos h4]
          clear he
          go_enter Try.func47, Try.ntmps47
          go_wp2_with (first | (go_at_call 93; refine (HD.out _ HL1.out HLE.out).mono ?_; rintro e w2 ⟨rfl, hb2⟩; have P2 := Aside0.mk (P1.out.below hb2); have HL2 := Aside0.mk (Kd.C_below HL1.out hb2); obtain ⟨x0_2, x1_2, r0_2, r1_2, f0_2, f1_2⟩ := P2.out.all) | (go_at_call 64; refine (HC.out _).mono ?_; rintro e w3 ⟨rfl, hd3⟩; have hb3 := hd3.below; have P3 := Aside0.mk (P2.out.below hb3); have HL3 := Aside0.mk (Kd.C_below HL2.out hb3); obtain ⟨x0_3, x1_3, r0_3, r1_3, f0_3, f1_3⟩ := P3.out.all) | (go_at_call 70; refine (HI.out _ HL3.out HLE.out).mono ?_; rintro e w4 ⟨rfl, hb4⟩; have P4 := Aside0.mk (P3.out.below hb4); have HL4 := Aside0.mk (Kd.C_below HL3.out hb4); obtain ⟨x0_4, x1_4, r0_4, r1_4, f0_4, f1_4⟩ := P4.out.all) | (go_at_call 94; refine (HM.out _).mono ?_; rintro e w5 ⟨rfl, hd5⟩; have hb5 := hd5.below; have P5 := Aside0.mk (P4.out.below hb5); have HL5 := Aside0.mk (Kd.C_below HL4.out hb5); obtain ⟨x0_5, x1_5, r0_5, r1_5, f0_5, f1_5⟩ := P5.out.all))
          have hB := (((HB1.out.trans (hb2.mono (HB1.out.size))).trans (hb3.mono (Nat.le_trans (HB1.out.size) hb2.size))).trans (hb4.mono (Nat.le_trans (Nat.le_trans (HB1.out.size) hb2.size) hb3.size))).trans (hb5.mono (Nat.le_trans (Nat.le_trans (Nat.le_trans (HB1.out.size) hb2.size) hb3.size) hb4.size))
          obtain ⟨c0, c1, hB3⟩ := put_cells (v0 := .slice A n c) (v1 := .int .i64 last) P5.out hB
          generalize (w5.setCell ⟨w.heap.size + 1, 0, none⟩ (.slice A n c)).setCell ⟨w.heap.size + 1, 1, none⟩ (.int .i64 last) = w9 at c0 c1 hB3 ⊢
          have hu := Try.underlying28
          refine bodyPost_ret (v := .tuple #[.agg #[.slice A n c, .int .i64 last], .int .i64 0, .int .i64 q4]) (by simp [results, Try.results47, go_sem, c0, c1, hu]) rfl ⟨rfl, hB3⟩
    · rw [if_pos h2]
      clear he
      go_enter Try.func47, Try.ntmps47
      go_wp2_with (first | (go_at_call 93; refine (HD.out _ HL1.out HLE.out).mono ?_; rintro e w2 ⟨rfl, hb2⟩; have P2 := Aside0.mk (P1.out.below hb2); have HL2 := Aside0.mk (Kd.C_below HL1.out hb2); obtain ⟨x0_2, x1_2, r0_2, r1_2, f0_2, f1_2⟩ := P2.out.all) | (go_at_call 64; refine (HC.out _).mono ?_; rintro e w3 ⟨rfl, hd3⟩; have hb3 := hd3.below; have P3 := Aside0.mk (P2.out.below hb3); have HL3 := Aside0.mk (Kd.C_below HL2.out hb3); obtain ⟨x0_3, x1_3, r0_3, r1_3, f0_3, f1_3⟩ := P3.out.all) | (go_at_call 70; refine (HI.out _ HL3.out HLE.out).mono ?_; rintro e w4 ⟨rfl, hb4⟩; have P4 := Aside0.mk (P3.out.below hb4); have HL4 := Aside0.mk (Kd.C_below HL3.out hb4); obtain ⟨x0_4, x1_4, r0_4, r1_4, f0_4, f1_4⟩ := P4.out.all) | (go_at_call 94; refine (HM.out _).mono ?_; rintro e w5 ⟨rfl, hd5⟩; have hb5 := hd5.below; have P5 := Aside0.mk (P4.out.below hb5); have HL5 := Aside0.mk (Kd.C_below HL4.out hb5); obtain ⟨x0_5, x1_5, r0_5, r1_5, f0_5, f1_5⟩ := P5.out.all))
      have hB := (HB1.out.trans (hb2.mono (HB1.out.size))).trans (hb3.mono (Nat.le_trans (HB1.out.size) hb2.size))
      obtain ⟨c0, c1, hB3⟩ := put_cells (v0 := .slice A n c) (v1 := .int .i64 last) P3.out hB
      generalize (w3.setCell ⟨w.heap.size + 1, 0, none⟩ (.slice A n c)).setCell ⟨w.heap.size + 1, 1, none⟩ (.int .i64 last) = w9 at c0 c1 hB3 ⊢
      have hu := Try.underlying28
      refine bodyPost_ret (v := .tuple #[.agg #[.slice A n c, .int .i64 last], .int .i64 0, .int .i64 q2]) (by simp [results, Try.results47, go_sem, c0, c1, hu]) rfl ⟨rfl, hB3⟩
  · rw [if_pos h1]
    clear he
    go_enter Try.func47, Try.ntmps47
    go_wp2_with (first | (go_at_call 93; refine (HD.out _ HL1.out HLE.out).mono ?_; rintro e w2 ⟨rfl, hb2⟩; have P2 := Aside0.mk (P1.out.below hb2); have HL2 := Aside0.mk (Kd.C_below HL1.out hb2); obtain ⟨x0_2, x1_2, r0_2, r1_2, f0_2, f1_2⟩ := P2.out.all) | (go_at_call 64; refine (HC.out _).mono ?_; rintro e w3 ⟨rfl, hd3⟩; have hb3 := hd3.below; have P3 := Aside0.mk (P2.out.below hb3); have HL3 := Aside0.mk (Kd.C_below HL2.out hb3); obtain ⟨x0_3, x1_3, r0_3, r1_3, f0_3, f1_3⟩ := P3.out.all) | (go_at_call 70; refine (HI.out _ HL3.out HLE.out).mono ?_; rintro e w4 ⟨rfl, hb4⟩; have P4 := Aside0.mk (P3.out.below hb4); have HL4 := Aside0.mk (Kd.C_below HL3.out hb4); obtain ⟨x0_4, x1_4, r0_4, r1_4, f0_4, f1_4⟩ := P4.out.all) | (go_at_call 94; refine (HM.out _).mono ?_; rintro e w5 ⟨rfl, hd5⟩; have hb5 := hd5.below; have P5 := Aside0.mk (P4.out.below hb5); have HL5 := Aside0.mk (Kd.C_below HL4.out hb5); obtain ⟨x0_5, x1_5, r0_5, r1_5, f0_5, f1_5⟩ := P5.out.all))
    have hB := HB1.out.trans (hb2.mono (HB1.out.size))
    obtain ⟨c0, c1, hB3⟩ := put_cells (v0 := .slice A n c) (v1 := .int .i64 last) P2.out hB
    generalize (w2.setCell ⟨w.heap.size + 1, 0, none⟩ (.slice A n c)).setCell ⟨w.heap.size + 1, 1, none⟩ (.int .i64 last) = w9 at c0 c1 hB3 ⊢
    have hu := Try.underlying28
    refine bodyPost_ret (v := .tuple #[.agg #[.slice A n c, .int .i64 last], .int .i64 0, .int .i64 q1]) (by simp [results, Try.results47, go_sem, c0, c1, hu]) rfl ⟨rfl, hB3⟩
end Go.Proofs.Ytjfigngmpagloaa.Tw

namespace Go.Proofs.Ytjfigngmpagloaa.Tw
open Go Go.RowKit Go.Shelf Go.Proofs Go.Proofs.Ytjfigngmpagloaa Go.Proofs.YtjfigngmpagloaaW.PrintWords Go.Proofs.Ytjfigngmpagloaa.Ext Go.Proofs.Ytjfigngmpagloaa.X Go.Proofs.Ytjfigngmpagloaa.Pu
set_option linter.unusedVariables false
set_option linter.unusedSimpArgs false
theorem putRE_zero {L : List RN} {d : Int} {s : ByteArray} {kind : Int} {data : ByteArray} (h : putRE L d s kind data = 0) :
    dirE (atR L d).f3 = 0 ∧ Sp.check s.data.toList = 0 ∧ ¬ (0 < inR L d s) ∧ mayE kind data = 0 ∧ L.length < 4096 := by
  unfold putRE at h
  split at h
  · rename_i g; exact absurd h g
  · rename_i g1
    split at h
    · rename_i g; exact absurd h g
    · rename_i g2
      split at h
      · cases h
      · rename_i g3
        split at h
        · rename_i g; exact absurd h g
        · rename_i g4
          split at h
          · cases h
          · rename_i g5
            exact ⟨Decidable.byContradiction fun e => g1 e, Decidable.byContradiction fun e => g2 e, g3, Decidable.byContradiction fun e => g4 e, by omega⟩
theorem rfar2 {w : World} {base b : Nat} {v u u' : Value} {l : List RN} (h : Kd.R k97 97 w base (fun _ => True) v l) (hb : b < base) :
    Kd.R k97 97 ((w.setCell ⟨b, 0, none⟩ u).setCell ⟨b, 1, none⟩ u') base (fun _ => True) v l := by
  have h1 := Kd.R_mono (Kd.R_bound h) (ok' := fun k => k ≠ b) (fun k hk => by have := hk.2.1; omega)
  exact Kd.R_mono (Kd.R_far (p := ⟨b, 1, none⟩) (Kd.R_far (p := ⟨b, 0, none⟩) h1 (fun k hk => hk) u) (fun k hk => hk) u') (fun _ _ => trivial)
theorem rat_fin {w : World} {n c7 : Nat} {A7 : Option Addr} {L : List RN} {x : RN} {last : Int} (hn : L.length = n) (h : ∃ A c, Value.slice A7 ([] ++ L ++ [x]).length c7 = .slice A ([] ++ L ++ [x]).length c ∧ ([] ++ L ++ [x]).length ≤ c ∧ Kd.C k97 w A ([] ++ L ++ [x]).length ([] ++ L ++ [x])) :
    RAt w.drew (.agg #[.slice A7 (n + 1) c7, .int .i64 last]) (L ++ [x]) last := by
  obtain ⟨A, c, e, h1, h2⟩ := h
  cases e
  exact ⟨A7, c7, by simp [hn], h1, Kd.C_drew h2⟩
theorem alloc_below (w : World) (o : Obj) (w' : World) (h : Below (w.heap.size + 1) (w.drew.alloc o) w') : Below w.heap.size w w' :=
  (((Below.refl w.heap.size w).drew).alloc (Nat.le_refl _) o).trans (h.mono (Nat.le_succ _))
theorem oneR {w w' : World} {b : Nat} {x : RN} (h : w'.heap[b]? = w.heap[b]?) (hv : w.heap[b]? = some (.cells #[.int .i64 x.f0, .int .i64 x.f1, .string x.f2, .int .i64 x.f3, .string x.f4] 97 (0, 0))) : Kd.C k97 w' (some ⟨b, 0, none⟩) 1 [x] := by
  have hv := h.trans hv
  refine ⟨rfl, by omega, fun _ => ⟨_, rfl, fun j p hj => ?_⟩⟩
  obtain ⟨hl, rfl⟩ := List.getElem?_eq_some_iff.1 hj
  have : j = 0 := by simp at hl; exact hl
  subst this
  refine ⟨[.int .i64 x.f0, .int .i64 x.f1, .string x.f2, .int .i64 x.f3, .string x.f4], rfl, k97_mk w' x, fun i u hu => ?_⟩
  rw [show (⟨b, 0, none⟩ : Addr).add (0 * k97.sz + i) = ⟨b, i, none⟩ by rw [Addr.add_lit]; congr 1; omega]
  rw [cell_of_row w' b _ _ _ (0, 0) hv]
  simpa using hu
set_option maxHeartbeats 4000000 in
set_option maxRecDepth 1000000 in
theorem rput_ok (L : List RN) (last : Int) (v : Value) (d : Int) (s : ByteArray) (kind : Int) (data : ByteArray) (w : World) (h : RAt w v L last) (hla : 0 ≤ last ∧ last < 1000000) (he : putRE L d s kind data = 0) :
    Calls Try.prog 47 #[v, .int .i64 d, .string s, .int .i64 kind, .string data] w fun e w' => ∃ v', e = .returned (.tuple #[v', .int .i64 (last + 1), .int .i64 0]) ∧ RAt w' v' (L ++ [⟨last + 1, d, s, kind, data⟩]) (last + 1) ∧ Below w.heap.size w w' := by
  obtain ⟨A, c, rfl, hle, hC⟩ := h
  obtain ⟨z1, z2, z3, z4, z5⟩ := putRE_zero he
  have hl : L.length < 4294967296 := by omega
  obtain ⟨k1, hk1⟩ := (r07_dir L d last hl).rounds
  obtain ⟨k2, hk2⟩ := (r03_check s).rounds
  obtain ⟨k3, hk3⟩ := (r07_in L d last s hl).rounds
  have HD := Lib.hid (fun W h h2 => linhayref07_dir.calls k1 A c L last d _ W h h2 hk1)
  have HC := Lib.hid (fun W => linhayref03_Check.calls k2 s _ W hk2)
  have HI := Lib.hid (fun W h h2 => linhayref07_In.calls k3 A c L last d s _ W h h2 hk3)
  have HM := Lib.hid (fun W => linhayref07_may.calls 5 kind data (mayE kind data) W (r07_may kind data))
  have HL := Lib.hid hC
  have HLE := Lib.hid hle
  have HZ5 := Lib.hid z5
  have hw1 : IntKind.i64.wrap (last + 1) = last + 1 := by obtain ⟨a, b⟩ := hla; rw [IntKind.wrap_i64]; omega
  rw [z1] at HD
  rw [z2] at HC
  rw [z4] at HM
  have h5' : ¬ ((4096 : Int) ≤ (L.length : Int)) := by omega
  have h5'' : (L.length : Int) < 4096 := by omega
  clear hk1 hk2 hk3 hle hl hC z1 z2 z4 z5 he hla
  generalize inR L d s = q3 at *
  generalize hn : L.length = n at *
  have P1 := Lib.hid (PB.mk0 w A n c last)
  have hb1 := below_two w (.cells #[.slice A n c, .int .i64 last] 28) (.cells #[.slice none 0 0, .int .i64 0] 28)
  have HL1 := Lib.hid (Kd.C_below HL.out hb1)
  obtain ⟨x0_1, x1_1, r0_1, r1_1, f0_1, f1_1⟩ := P1.out.all
  have HB1 := Lib.hid hb1
  clear hb1
  go_enter Try.func47, Try.ntmps47
  go_wp2_with (first | (go_at_call 93; refine (HD.out _ HL1.out HLE.out).mono ?_; rintro e w2 ⟨rfl, hb2⟩; have P2 := Aside0.mk (P1.out.below hb2); have HL2 := Aside0.mk (Kd.C_below HL1.out hb2); obtain ⟨x0_2, x1_2, r0_2, r1_2, f0_2, f1_2⟩ := P2.out.all) | (go_at_call 64; refine (HC.out _).mono ?_; rintro e w3 ⟨rfl, hd3⟩; have hb3 := hd3.below; have P3 := Aside0.mk (P2.out.below hb3); have HL3 := Aside0.mk (Kd.C_below HL2.out hb3); obtain ⟨x0_3, x1_3, r0_3, r1_3, f0_3, f1_3⟩ := P3.out.all) | (go_at_call 70; refine (HI.out _ HL3.out HLE.out).mono ?_; rintro e w4 ⟨rfl, hb4⟩; have P4 := Aside0.mk (P3.out.below hb4); have HL4 := Aside0.mk (Kd.C_below HL3.out hb4); obtain ⟨x0_4, x1_4, r0_4, r1_4, f0_4, f1_4⟩ := P4.out.all) | (go_at_call 94; refine (HM.out _).mono ?_; rintro e w5 ⟨rfl, hd5⟩; have hb5 := hd5.below; have P5 := Aside0.mk (P4.out.below hb5); have HL5 := Aside0.mk (Kd.C_below HL4.out hb5); obtain ⟨x0_5, x1_5, r0_5, r1_5, f0_5, f1_5⟩ := P5.out.all))
  have HB5 := Aside0.mk ((((HB1.out.trans (hb2.mono (HB1.out.size))).trans (hb3.mono (Nat.le_trans (HB1.out.size) hb2.size))).trans (hb4.mono (Nat.le_trans (Nat.le_trans (HB1.out.size) hb2.size) hb3.size))).trans (hb5.mono (Nat.le_trans (Nat.le_trans (Nat.le_trans (HB1.out.size) hb2.size) hb3.size) hb4.size)))
  have PD := Aside0.mk (P5.out.below (below_drew (Below.refl _ w5)))
  have HLD := Aside0.mk (Kd.C_drew HL5.out)
  clear hb2 hb3 hb4 hb5 x0_1 x1_1 r0_1 r1_1 f0_1 f1_1 x0_2 x1_2 r0_2 r1_2 f0_2 f1_2 x0_3 x1_3 r0_3 r1_3 f0_3 f1_3 x0_4 x1_4 r0_4 r1_4 f0_4 f1_4 x0_5 x1_5 r0_5 r1_5 f0_5 f1_5 HL1 HL2 HL3 HL4 P1 P2 P3 P4 HD HC HI HM HB1
  have hlt5 := Aside0.mk (blk_lt P5.out.r)
  obtain ⟨x0, x1, -, -, -, -⟩ := PD.out.all
  obtain ⟨xA0, xA1, -, -, -, -⟩ := (P5.out.below (below_drew (((Below.refl _ w5).alloc (Nat.le_refl _) (.cells #[.int .i64 (last + 1), .int .i64 d, .string s, .int .i64 kind, .string data] 97))))).all
  go_region_law (first | (refine Kd.R_append_rows_step k97 (w0 := w5) w5.heap.size (by simp [Region.wanted]) (.const (.slice none 0 0)) (.tmp 49) 26 97 _ 56 rfl Try.underlying26 info97 rfl (by decide) (by omega) _ [] L A n c (fun _ => True) (fun _ => False) (by rfl) (by rfl) (Kd.R_nil _ _ _ _ _) HLD.out (fun _ _ h => by obtain rfl := k97_open h; exact k97_mkM _ _ _ _) (fun _ h => h.elim) (fun _ _ => trivial) (below_drew (Below.refl _ _)) (by simp) (by have := HZ5.out; simp; omega) ?_; intro v6 w6 ho6 hb6 hg6 hat6; have P6 := Aside0.mk (P5.out.below hb6); have x6 := P6.out.all.1; have y6 := P6.out.all.2.1) | (refine Kd.R_append_rows_step k97 (w0 := (w5.alloc (.cells #[.int .i64 (last + 1), .int .i64 d, .string s, .int .i64 kind, .string data] 97)).drew) (w5.heap.size + 1) (by simp [Region.wanted]) (.const (.slice none 0 0)) (.tmp 49) 26 97 _ 56 rfl Try.underlying26 info97 rfl (by decide) (by omega) _ [] L A n c (fun _ => True) (fun _ => False) (by rfl) (by rfl) (Kd.R_nil _ _ _ _ _) (Kd.C_drew (Kd.C_alloc HL5.out _)) (fun _ _ h => by obtain rfl := k97_open h; exact k97_mkM _ _ _ _) (fun _ h => h.elim) (fun _ _ => trivial) (Below.refl _ _) (by simp) (by have := HZ5.out; simp; omega) ?_; intro v6 w6 ho6 hb6' hg6 hat6; have hb6 := alloc_below w5 (.cells #[.int .i64 (last + 1), .int .i64 d, .string s, .int .i64 kind, .string data] 97) w6 hb6'; have HV6 := Aside0.mk (oneR (x := ⟨last + 1, d, s, kind, data⟩) (hb6'.block w5.heap.size (by simp)) (heap_alloc_new w5 _)); have P6 := Aside0.mk (P5.out.below hb6); have x6 := P6.out.all.1; have y6 := P6.out.all.2.1) | (refine Kd.R_append_step k97 (w0 := w5) w5.heap.size (by simp [Region.wanted]) (.tmp 50) (.tmp 59) 26 97 _ 56 rfl Try.underlying26 info97 rfl (by decide) (by omega) v6 ([] ++ L) ⟨last + 1, d, s, kind, data⟩ _ (fun _ => True) (fun _ => False) (by rfl) (by rfl) (k97_mkM _ _ _ _) (fun _ h => h.elim) (fun _ _ => trivial) ho6 hb6 hb6.size (by have := HZ5.out; simp; omega) ?_; intro v7 w7 ho7 hbb7 hg7 hat7; obtain ⟨A7, c7, rfl, hle7, hC7⟩ := Kd.R_reads ho7; have P7 := Aside0.mk (P5.out.below hbb7); obtain ⟨x7, y7, r7, s7, f7, g7⟩ := P7.out.all; have HL7 := Aside0.mk (And.intro hle7 hC7); have HB7 := Aside0.mk hbb7) | (refine Kd.R_append_rows_step k97 (w0 := w6) (w5.heap.size + 1) (by simp [Region.wanted]) (.tmp 50) (.tmp 59) 26 97 _ 56 rfl Try.underlying26 info97 rfl (by decide) (by omega) v6 ([] ++ L) [⟨last + 1, d, s, kind, data⟩] _ 1 1 (fun _ => True) (fun _ => False) (by rfl) (by rfl) ho6 HV6.out (fun _ _ h => by obtain rfl := k97_open h; exact k97_mkM _ _ _ _) (fun _ h => h.elim) (fun _ _ => trivial) (Below.refl _ _) (Nat.le_trans (by simp) hb6'.size) (by have := HZ5.out; simp; omega) ?_; intro v7 w7 ho7 hb7 hg7 hat7; have hbb7 := hb6.trans (hb7.mono (Nat.le_succ _)); obtain ⟨A7, c7, rfl, hle7, hC7⟩ := Kd.R_reads ho7; have P7 := Aside0.mk (P5.out.below hbb7); obtain ⟨x7, y7, r7, s7, f7, g7⟩ := P7.out.all; have HL7 := Aside0.mk (And.intro hle7 hC7); have HB7 := Aside0.mk hbb7))
  all_goals clear x0 x1 xA0 xA1 HLD PD HL5 P5
  all_goals go_wp2
  all_goals go_region
  all_goals go_wp2
  all_goals have hB := HB5.out.trans (HB7.out.mono HB5.out.size)
  all_goals obtain ⟨c0, c1, hB3⟩ := put_cells (v0 := .slice A7 (n + 1) c7) (v1 := .int .i64 (last + 1)) P7.out hB
  all_goals have hR9 := Kd.R_reads (rfar2 (u := .slice A7 (n + 1) c7) (u' := .int .i64 (last + 1)) ho7 (show w.heap.size + 1 < _ by have := hlt5.out; omega))
  all_goals generalize (w7.setCell ⟨w.heap.size + 1, 0, none⟩ (.slice A7 (n + 1) c7)).setCell ⟨w.heap.size + 1, 1, none⟩ (.int .i64 (last + 1)) = w9 at c0 c1 hB3 hR9 ⊢
  all_goals have hu := Try.underlying28
  all_goals refine bodyPost_ret (v := .tuple #[.agg #[.slice A7 (n + 1) c7, .int .i64 (last + 1)], .int .i64 (last + 1), .int .i64 0]) (by simp [results, Try.results47, go_sem, c0, c1, hu, Act.put]) (by simp [Act.put]) ⟨_, rfl, ?_, ?_⟩
  all_goals first | exact rat_fin hn (hR9) | exact (below_drew hB3) | exact hB3
end Go.Proofs.Ytjfigngmpagloaa.Tw

namespace Go.Proofs.Ytjfigngmpagloaa.Tw
open Go Go.RowKit Go.Shelf Go.Proofs Go.Proofs.Ytjfigngmpagloaa Go.Proofs.YtjfigngmpagloaaW.PrintWords Go.Proofs.Ytjfigngmpagloaa.Ext Go.Proofs.Ytjfigngmpagloaa.X Go.Proofs.Ytjfigngmpagloaa.Pu
set_option linter.unusedVariables false
set_option linter.unusedSimpArgs false
theorem putE_eq {L : List RN} {last : Int} (h : GoodL L last) (d : Int) (s : ByteArray) (kind : Int) (data : ByteArray) : putE (trOf L last) d s kind data = putRE L d s kind data := by
  unfold putE putRE
  rw [node_of h d]
  simp only [find_ents h d s, decide_eq_true_eq]
  rfl
theorem find_snoc (L : List RN) (x : RN) (n : Int) : (L ++ [x]).find? (fun r => r.f0 == n) = match L.find? (fun r => r.f0 == n) with | some r => some r | none => if x.f0 = n then some x else none := by
  rw [List.find?_append]
  cases L.find? (fun r => r.f0 == n) with
  | some r => rfl
  | none =>
    by_cases e : x.f0 = n
    · simp [List.find?_cons, e]
    · simp [List.find?_cons, e]
theorem at_snoc {L : List RN} {x : RN} {n : Int} (h : (atR L n).f3 ≠ 0) : atR (L ++ [x]) n = atR L n := by
  unfold atR at h ⊢
  rw [find_snoc]
  cases hf : L.find? (fun r => r.f0 == n) with
  | some r => rfl
  | none => rw [hf] at h; exact absurd rfl h
theorem fresh {L : List RN} {last : Int} (h : GoodL L last) {n : Int} (hn : last < n) : L.find? (fun r => r.f0 == n) = none := by
  rw [List.find?_eq_none]
  intro r hr e
  have := (h.num r hr).2
  have e : r.f0 = n := by simpa using e
  omega
theorem mayE_zero {kind : Int} {data : ByteArray} (h : mayE kind data = 0) : (kind = 1 ∨ kind = 2 ∨ kind = 3) ∧ data.size ≤ 65536 := by
  unfold mayE at h
  split at h
  · cases h
  · split at h
    · cases h
    · split at h
      · cases h
      · rename_i h1 _ h3
        exact ⟨by omega, by omega⟩
theorem inR_none {L : List RN} {last d : Int} {s : ByteArray} (h : GoodL L last) (hn : ¬ 0 < inR L d s) : ∀ r ∈ L, r.f1 = d → r.f0 ≠ 1 → r.f2 ≠ s := by
  intro r hr h1 h2 h3
  apply hn
  unfold inR
  cases hf : L.find? (inQ d s) with
  | none =>
    have := List.find?_eq_none.1 hf r hr
    simp [inQ, h1, h2, h3] at this
  | some q =>
    have := (h.num q (List.mem_of_find?_eq_some hf)).1
    show 0 < q.f0
    omega
theorem GoodL.last1 {L : List RN} {last : Int} (h : GoodL L last) : 1 ≤ last := by
  obtain ⟨r, hr, h1, _⟩ := h.root
  have := (h.num r hr).2
  omega
theorem GoodL.put {L : List RN} {last : Int} (h : GoodL L last) {d : Int} {s : ByteArray} {kind : Int} {data : ByteArray} (he : putRE L d s kind data = 0) : GoodL (L ++ [⟨last + 1, d, s, kind, data⟩]) (last + 1) := by
  obtain ⟨z1, z2, z3, z4, z5⟩ := putRE_zero he
  have hk := dirE_zero z1
  have hla := h.last1
  refine ⟨by simp; omega, ?_, ?_, ?_, ?_, ?_, ?_⟩
  · intro r hr
    rcases List.mem_append.1 hr with hr | hr
    · have := h.num r hr; omega
    · have : r = _ := List.mem_singleton.1 hr
      subst this
      exact ⟨by show 1 ≤ last + 1; omega, Int.le_refl _⟩
  · rw [List.pairwise_append]
    refine ⟨h.uniq, List.pairwise_singleton _ _, ?_⟩
    intro a ha b hb
    have : b = _ := List.mem_singleton.1 hb
    subst this
    have := (h.num a ha).2
    show a.f0 ≠ last + 1
    omega
  · rw [List.pairwise_append]
    refine ⟨h.names, List.pairwise_singleton _ _, ?_⟩
    intro a ha b hb
    have : b = _ := List.mem_singleton.1 hb
    subst this
    intro h1 h2 _
    exact inR_none h z3 a ha h1 h2
  · intro r hr
    rcases List.mem_append.1 hr with hr | hr
    · exact h.data r hr
    · have : r = _ := List.mem_singleton.1 hr
      subst this
      exact (mayE_zero z4).2
  · intro r hr
    rcases List.mem_append.1 hr with hr | hr
    · rw [at_snoc (by rw [h.up r hr]; decide)]; exact h.up r hr
    · have : r = _ := List.mem_singleton.1 hr
      subst this
      show (atR _ d).f3 = 1
      rw [at_snoc (by rw [hk]; decide)]; exact hk
  · obtain ⟨r, hr, q⟩ := h.root
    exact ⟨r, List.mem_append_left _ hr, q⟩
theorem putT_eq {L : List RN} {last : Int} (h : GoodL L last) {d : Int} {s : ByteArray} {kind : Int} {data : ByteArray} (he : putRE L d s kind data = 0) :
    putT (trOf L last) d s kind data = trOf (L ++ [⟨last + 1, d, s, kind, data⟩]) (last + 1) := by
  obtain ⟨z1, z2, z3, z4, z5⟩ := putRE_zero he
  have hk := dirE_zero z1
  have hla := h.last1
  have hk0 : (atR L d).f3 ≠ 0 := by rw [hk]; decide
  obtain ⟨q, hq, hqd, hqe⟩ := at_kind hk0
  have hqn := (h.num q hq).2
  have hdl : d ≠ last + 1 := by omega
  have hnode := node_of h d
  have hf0 := fresh h (show last < last + 1 by omega)
  have hents : ∀ n, entsOf (L ++ [⟨last + 1, d, s, kind, data⟩]) n = if n = d then insE (entsOf L d) ⟨s, last + 1⟩ else entsOf L n := by
    intro n
    rw [entsOf_snoc]
    by_cases e : n = d
    · subst e
      rw [if_pos (show isIn n ⟨last + 1, n, s, kind, data⟩ = true from isIn_iff.2 ⟨rfl, by show last + 1 ≠ 1; omega⟩), if_pos rfl]
    · rw [if_neg (fun hi => e (isIn_iff.1 hi).1.symm), if_neg e]
  unfold putT Tr.enter
  have hn2 : ((trOf L last).bump.set ((trOf L last).last + 1) ⟨kind, d, data, []⟩).node d = (trOf L last).node d := node_set_ne hdl
  rw [hn2, hnode]
  unfold Tr.set Tr.bump trOf
  simp only [Tr.mk.injEq]
  refine ⟨?_, ?_, by trivial⟩
  · funext n
    rw [find_snoc]
    by_cases e : n = d
    · subst e
      rw [if_pos rfl]
      have hfd : L.find? (fun r => r.f0 == n) = some q := by
        have := find_num h.uniq hq
        rw [hqd] at this
        exact this
      rw [hfd, hqe]
      simp only [Option.map_some, ndOf, hqd, hents, if_true]
    · rw [if_neg e]
      by_cases e2 : n = last + 1
      · subst e2
        rw [if_pos rfl, hf0]
        simp only [if_true, Option.map_some, ndOf, hents, if_neg e]
        rw [h.noEnts hf0]
      · rw [if_neg e2]
        cases hf : L.find? (fun r => r.f0 == n) with
        | none =>
          simp only [Option.map_none]
          rw [if_neg (fun e3 => e2 e3.symm)]
          rfl
        | some r =>
          have hrn : r.f0 = n := by simpa using List.find?_some hf
          simp only [Option.map_some, ndOf, hents, hrn, if_neg e]
  · simp only [hf0, Option.map_none, Option.isSome_none]
    have hfd : L.find? (fun r => r.f0 == d) = some q := by
      have := find_num h.uniq hq
      rw [hqd] at this
      exact this
    simp [hdl, hfd]
theorem good0 : GoodL [⟨1, 1, ⟨#[]⟩, 1, ⟨#[]⟩⟩] 1 := by
  refine ⟨by simp, by simp, List.pairwise_singleton _ _, List.pairwise_singleton _ _, (fun r hr => by rw [List.mem_singleton.1 hr]; exact Nat.zero_le _), (fun r hr => by rw [List.mem_singleton.1 hr]; rfl), ⟨_, List.mem_singleton.2 rfl, rfl, rfl, rfl⟩⟩
theorem T0_eq : T0 = trOf [⟨1, 1, ⟨#[]⟩, 1, ⟨#[]⟩⟩] 1 := by
  unfold T0 trOf
  simp only [Tr.mk.injEq]
  refine ⟨?_, by trivial, by trivial⟩
  funext n
  by_cases e : n = 1
  · subst e; rfl
  · rw [if_neg e, List.find?_cons, show ((1 : Int) == n) = false by simpa using (fun h => e h.symm)]; rfl
end Go.Proofs.Ytjfigngmpagloaa.Tw

namespace Go.Proofs.Ytjfigngmpagloaa.Tw
open Go Go.RowKit Go.Shelf Go.Proofs Go.Proofs.Ytjfigngmpagloaa Go.Proofs.YtjfigngmpagloaaW.PrintWords Go.Proofs.Ytjfigngmpagloaa.Ext Go.Proofs.Ytjfigngmpagloaa.X Go.Proofs.Ytjfigngmpagloaa.Pu
set_option linter.unusedVariables false
set_option linter.unusedSimpArgs false
theorem TreeB.two {w : World} {p B : Nat} {T : Tr} (h : TreeB w p B T) : w.heap[p]? = some (.cells #[.map (some B), .int .i64 T.last] 142 (0, 0)) ∧ ∃ es clock, w.heap[B]? = some (.map es clock) := by
  obtain ⟨sv, D, h⟩ := h
  exact ⟨h.ptr, h.mapB⟩
theorem RAt.frm {w w' : World} {p B : Nat} {T : Tr} {v : Value} {L : List RN} {last : Int} (h : RAt w v L last) (hT : TreeB w p B T) (hf : Frm w w' p B) : RAt w' v L last := by
  obtain ⟨hp, es, clock, hB⟩ := hT.two
  obtain ⟨A, c, e1, e2, hC⟩ := h
  refine ⟨A, c, e1, e2, hC.1, hC.2.1, fun hn => ?_⟩
  obtain ⟨ad, eA, hc⟩ := hC.2.2 hn
  have key : ∀ (q : List Value) (x : RN) (j : Nat), k97.K w x q → (∀ i u, q[i]? = some u → w.cell? (ad.add (j * k97.sz + i)) = some u) → ad.block < w.heap.size ∧ ad.block ≠ p ∧ ad.block ≠ B := by
    intro q x j hK hq
    obtain rfl := k97_open hK
    have h0 := hq 2 _ rfl
    have hbl : (ad.add (j * k97.sz + 2)).block = ad.block := by unfold Addr.add; split <;> rfl
    generalize ad.add (j * k97.sz + 2) = a0 at h0 hbl
    refine ⟨?_, ?_, ?_⟩
    · rw [← hbl]; exact block_lt_of_cell h0
    · intro e
      rw [e] at hbl
      obtain ⟨b, o, sp⟩ := a0
      subst hbl
      simp [World.cell?, hp] at h0
      cases sp with
      | none =>
        simp at h0
        match o, h0 with
        | 0, h0 => simp at h0
        | 1, h0 => simp at h0
        | n + 2, h0 => simp at h0
      | some q => simp at h0
    · intro e
      rw [e] at hbl
      obtain ⟨b, o, sp⟩ := a0
      subst hbl
      simp [World.cell?, hB] at h0
  refine ⟨ad, eA, fun j q hj => ?_⟩
  obtain ⟨cs, hl, hK, hq⟩ := hc j q hj
  obtain ⟨k1, k2, k3⟩ := key cs q j hK hq
  refine ⟨cs, hl, ?_, fun i u hu => ?_⟩
  · obtain rfl := k97_open hK
    exact k97_mk _ _
  · have := hq i u hu
    have hbl : (ad.add (j * k97.sz + i)).block = ad.block := by unfold Addr.add; split <;> rfl
    rw [← this]
    generalize ad.add (j * k97.sz + i) = a at hbl
    unfold World.cell?
    rw [hbl, hf.block _ k1 k2 k3]
theorem cells_frm {w w' : World} {p B k : Nat} {T : Tr} {cs : Array Value} {t : TypeId} {fr : Nat × Nat} (h : w.heap[k]? = some (.cells cs t fr)) (ht : t ≠ 142) (hT : TreeB w p B T) (hf : Frm w w' p B) : w'.heap[k]? = some (.cells cs t fr) := by
  obtain ⟨hp, es, clock, hB⟩ := hT.two
  refine (hf.block k (Array.getElem?_eq_some_iff.1 h).1 ?_ ?_).trans h
  · rintro rfl
    rw [hp] at h
    injection h with h
    injection h with _ h
    exact ht h.symm
  · rintro rfl
    rw [hB] at h
    cases h
end Go.Proofs.Ytjfigngmpagloaa.Tw

namespace Go.Proofs.Ytjfigngmpagloaa.Tw
open Go Go.RowKit Go.Shelf Go.Proofs Go.Proofs.Ytjfigngmpagloaa Go.Proofs.YtjfigngmpagloaaW.PrintWords Go.Proofs.Ytjfigngmpagloaa.Ext Go.Proofs.Ytjfigngmpagloaa.X Go.Proofs.Ytjfigngmpagloaa.Pu
set_option linter.unusedVariables false
set_option linter.unusedSimpArgs false
structure But (w w' : World) (k : Nat) : Prop where
  g : w.grownBy w' (some k)
  no : ∀ a s, a.block = k → w.cell? a ≠ some (.string s)
theorem But.cell {w w' : World} {k : Nat} (h : But w w' k) {a : Addr} {v : Value} (hne : a.block ≠ k) (hc : w.cell? a = some v) : w'.cell? a = some v := by
  have hlt := block_lt_of_cell hc
  rw [← hc]
  unfold World.cell?
  rw [h.g.block _ hlt (fun e => hne (Option.some.inj e))]
theorem add_block (ad : Addr) (n : Nat) : (ad.add n).block = ad.block := by unfold Addr.add; split <;> rfl
theorem EntsAt.but {w w' : World} {k : Nat} {s : Value} {l : List En} (h : EntsAt w s l) (hb : But w w' k) : EntsAt w' s l := by
  obtain ⟨A, c, e1, e2, hC⟩ := h
  refine ⟨A, c, e1, e2, hC.1, hC.2.1, fun hn => ?_⟩
  obtain ⟨ad, eA, hc⟩ := hC.2.2 hn
  refine ⟨ad, eA, fun j q hj => ?_⟩
  obtain ⟨cs, hl, hK, hq⟩ := hc j q hj
  obtain rfl := k108_open hK
  have hne : ad.block ≠ k := fun e => hb.no _ _ ((add_block ad _).trans e) (hq 0 _ rfl)
  exact ⟨_, hl, k108_mk _ _, fun i u hu => hb.cell (by rw [add_block]; exact hne) (hq i u hu)⟩
theorem RAt.but {w w' : World} {k : Nat} {v : Value} {L : List RN} {last : Int} (h : RAt w v L last) (hb : But w w' k) : RAt w' v L last := by
  obtain ⟨A, c, e1, e2, hC⟩ := h
  refine ⟨A, c, e1, e2, hC.1, hC.2.1, fun hn => ?_⟩
  obtain ⟨ad, eA, hc⟩ := hC.2.2 hn
  refine ⟨ad, eA, fun j q hj => ?_⟩
  obtain ⟨cs, hl, hK, hq⟩ := hc j q hj
  obtain rfl := k97_open hK
  have hne : ad.block ≠ k := fun e => hb.no _ _ ((add_block ad _).trans e) (hq 2 _ rfl)
  exact ⟨_, hl, k97_mk _ _, fun i u hu => hb.cell (by rw [add_block]; exact hne) (hq i u hu)⟩
theorem TreeB.but {w w' : World} {p B k : Nat} {T : Tr} (h : TreeB w p B T) (hb : But w w' k) (hp : p ≠ k) (hB : B ≠ k) : TreeB w' p B T := by
  obtain ⟨sv, D, h⟩ := h
  exact ⟨sv, D, (hb.g.block _ (blk_lt h.ptr) (fun e => hp (Option.some.inj e))).trans h.ptr, h.map.kept hb.g (fun e => hB (Option.some.inj e)), h.cnt, h.has, h.at_, fun n x hn hx => EntsAt.but (h.ents n x hn hx) hb⟩
theorem but_two {w : World} {k : Nat} {v0 v1 u0 u1 : Value} {t : TypeId} (h : w.heap[k]? = some (.cells #[v0, v1] t (0, 0))) (h0 : ∀ s, v0 ≠ .string s) (h1 : ∀ s, v1 ≠ .string s) :
    But w ((w.setCell ⟨k, 0, none⟩ u0).setCell ⟨k, 1, none⟩ u1) k := by
  refine ⟨⟨rfl, rfl, rfl, by simp, fun j _ hj => ?_⟩, ?_⟩
  · have hne : j ≠ k := fun e => hj (by rw [e])
    exact (Below.heap_setCell _ ⟨k, 1, none⟩ u1 j hne).trans (Below.heap_setCell w ⟨k, 0, none⟩ u0 j hne)
  · rintro ⟨b, o, sp⟩ s rfl
    simp only [World.cell?, h]
    split
    · simp
    · match o with
      | 0 => simpa using fun e => h0 s e
      | 1 => simpa using fun e => h1 s e
      | n + 2 => simp
end Go.Proofs.Ytjfigngmpagloaa.Tw

namespace Go.Proofs.Ytjfigngmpagloaa.Tw
open Go Go.RowKit Go.Shelf Go.Proofs Go.Proofs.Ytjfigngmpagloaa Go.Proofs.YtjfigngmpagloaaW.PrintWords Go.Proofs.Ytjfigngmpagloaa.Ext Go.Proofs.Ytjfigngmpagloaa.X Go.Proofs.Ytjfigngmpagloaa.Pu
set_option linter.unusedVariables false
set_option linter.unusedSimpArgs false
abbrev HP := S76
structure Tk (w : World) (g p : Nat) (at_ : Int) (l : List ByteArray) (A : Option Addr) (c : Nat) (hv : Value) : Prop where
  blk : w.heap[g]? = some (.cells #[pT p, .int .i64 at_, .slice A l.length c, hv] 130 (0, 0))
  row : Kd.C Kd.string w A l.length l
  cap : l.length ≤ c
  ty : ∀ ad, A = some ad → ∃ cells, w.heap[ad.block]? = some (.cells cells 9 (0, 0))
theorem Tk.below {w w' : World} {g p : Nat} {a : Int} {l : List ByteArray} {A : Option Addr} {c : Nat} {hv : Value} (k : Tk w g p a l A c hv) (hb : Below w.heap.size w w') : Tk w' g p a l A c hv :=
  ⟨(hb.block _ (blk_lt k.blk)).trans k.blk, Kd.C_below k.row hb, k.cap, fun ad e => by obtain ⟨cs, h⟩ := k.ty ad e; exact ⟨cs, (hb.block _ (blk_lt h)).trans h⟩⟩
theorem Tk.cells {w : World} {g p : Nat} {a : Int} {l : List ByteArray} {A : Option Addr} {c : Nat} {hv : Value} (k : Tk w g p a l A c hv) :
    w.cell? ⟨g, 0, none⟩ = some (pT p) ∧ w.cell? ⟨g, 1, none⟩ = some (.int .i64 a) ∧ w.cell? ⟨g, 2, none⟩ = some (.slice A l.length c) ∧ w.cell? ⟨g, 3, none⟩ = some hv := by
  refine ⟨?_, ?_, ?_, ?_⟩ <;> (rw [blk_cell k.blk]; rfl)
theorem C_block {w W : World} {ad : Addr} {n : Nat} {l : List ByteArray} (row : Kd.C Kd.string w (some ad) n l) (hr : W.heap[ad.block]? = w.heap[ad.block]?) : Kd.C Kd.string W (some ad) n l := by
  refine ⟨row.1, row.2.1, fun hn => ?_⟩
  obtain ⟨ad', e, hc⟩ := row.2.2 hn
  cases e
  refine ⟨ad, rfl, fun j x hj => ?_⟩
  obtain ⟨cs, h1, h2, h3⟩ := hc j x hj
  refine ⟨cs, h1, h2, fun i u hu => ?_⟩
  have h4 := h3 i u hu
  have hbk := add_block ad (j * Kd.string.sz + i)
  generalize ad.add (j * Kd.string.sz + i) = a at h4 hbk ⊢
  unfold World.cell? at h4 ⊢
  rw [hbk] at h4 ⊢
  rw [hr]
  exact h4
theorem C_noneT {w W : World} {n : Nat} {l : List ByteArray} (row : Kd.C Kd.string w none n l) : Kd.C Kd.string W none n l := by
  refine ⟨row.1, row.2.1, fun hn => ?_⟩
  obtain ⟨ad', e, hc⟩ := row.2.2 hn
  cases e
theorem Tk.keep {w W : World} {g p : Nat} {a a' : Int} {l : List ByteArray} {A : Option Addr} {c : Nat} {hv hv' : Value} (k : Tk w g p a l A c hv) (hg : W.heap[g]? = some (.cells #[pT p, .int .i64 a', .slice A l.length c, hv'] 130 (0, 0))) (hr : ∀ (i : Nat) (cs : Array Value), w.heap[i]? = some (.cells cs 9 (0, 0)) → W.heap[i]? = w.heap[i]?) : Tk W g p a' l A c hv' := by
  refine ⟨hg, ?_, k.cap, fun ad e => ?_⟩
  · cases hA : A with
    | none => have := k.row; rw [hA] at this; exact C_noneT this
    | some ad =>
      obtain ⟨cs, h⟩ := k.ty ad hA
      have := k.row
      rw [hA] at this
      exact C_block this (hr _ cs h)
  · obtain ⟨cs, h⟩ := k.ty ad e
    exact ⟨cs, (hr _ cs h).trans h⟩
theorem ne_walker {w : World} {g i : Nat} {x y : Array Value} (hg : w.heap[g]? = some (.cells x 130 (0, 0))) (hi : w.heap[i]? = some (.cells y 9 (0, 0))) : i ≠ g := by
  rintro rfl
  rw [hg] at hi
  injection hi with hi
  injection hi with _ hi
  exact absurd hi (by decide)
theorem cut1T (A : Option Addr) (c : Nat) (l : List ByteArray) (h1 : 1 ≤ l.length) (hc : l.length ≤ c) :
    ∃ A' : Option Addr, (∀ W : World, (Instr.slice 42 (.slice A l.length c) (some (.int .i64 1)) none none).run Try.prog W = .ok (.slice A' (l.length - 1) (c - 1)) W) ∧ (∀ w : World, Kd.C Kd.string w A l.length l → Kd.C Kd.string w A' (l.drop 1).length (l.drop 1)) ∧ ∀ ad', A' = some ad' → ∃ ad, A = some ad ∧ ad'.block = ad.block := by
  refine ⟨if c = 1 then A else A.map (·.add (1 * Kd.string.sz)), fun W => ?_, fun w h => Kd.C_drop h h1 hc, fun ad' e => ?_⟩
  · obtain ⟨i0, hi, hz0, hz1, hz2⟩ := info_parts infoS
    have ht := Try.underlying42
    have hel : Try.prog.elem 42 = 9 := by simp [Program.elem, ht]
    have hu : Try.prog.underlying 42 = some (.slice (Try.prog.elem 42)) := by rw [hel]; exact ht
    rw [run_slice_l W 42 A l.length c hu .i64 1 (by omega) (by omega), hel]
    simp [sizeOf, typeInfo, hi, hz1, sliced, Result.andThen, Kd.string, Kd.scalar]
  · split at e
    · exact ⟨ad', e, rfl⟩
    · obtain ⟨ad, h, rfl⟩ := Option.map_eq_some_iff.1 e
      exact ⟨ad, h, add_block _ _⟩
theorem Tk.set1 {w : World} {g p : Nat} {a : Int} {l : List ByteArray} {A : Option Addr} {c : Nat} {hv : Value} (k : Tk w g p a l A c hv) (a' : Int) : Tk (w.setCell ⟨g, 1, none⟩ (.int .i64 a')) g p a' l A c hv :=
  k.keep (blk_set k.blk 1 _) (fun i cs h => Below.heap_setCell w ⟨g, 1, none⟩ _ i (ne_walker k.blk h))
theorem Tk.set3 {w : World} {g p : Nat} {a : Int} {l : List ByteArray} {A : Option Addr} {c : Nat} {hv : Value} (k : Tk w g p a l A c hv) (v : Value) : Tk (w.setCell ⟨g, 3, none⟩ v) g p a l A c v :=
  k.keep (blk_set k.blk 3 _) (fun i cs h => Below.heap_setCell w ⟨g, 3, none⟩ _ i (ne_walker k.blk h))
theorem Tk.cutL {w : World} {g p : Nat} {a : Int} {s : ByteArray} {l : List ByteArray} {A A' : Option Addr} {c : Nat} {hv : Value} (k : Tk w g p a (s :: l) A c hv) (hA : ∀ w : World, Kd.C Kd.string w A (s :: l).length (s :: l) → Kd.C Kd.string w A' ((s :: l).drop 1).length ((s :: l).drop 1)) (hAb : ∀ ad', A' = some ad' → ∃ ad, A = some ad ∧ ad'.block = ad.block) :
    Tk (w.setCell ⟨g, 2, none⟩ (.slice A' l.length (c - 1))) g p a l A' (c - 1) hv := by
  have k1 : Tk w g p a (s :: l) A c hv := k
  have hr : ∀ (i : Nat) (cs : Array Value), w.heap[i]? = some (.cells cs 9 (0, 0)) → (w.setCell ⟨g, 2, none⟩ (.slice A' l.length (c - 1))).heap[i]? = w.heap[i]? := fun i cs h => Below.heap_setCell w ⟨g, 2, none⟩ _ i (ne_walker k.blk h)
  have hty : ∀ ad', A' = some ad' → ∃ cells, w.heap[ad'.block]? = some (.cells cells 9 (0, 0)) := fun ad' e => by
    obtain ⟨ad, e1, e2⟩ := hAb ad' e
    rw [e2]
    exact k.ty ad e1
  refine ⟨blk_set k.blk 2 _, ?_, by have := k.cap; simp at this; omega, fun ad' e => ?_⟩
  · have h0 := hA w k.row
    cases hA' : A' with
    | none => rw [hA'] at h0; exact C_noneT h0
    | some ad' =>
      obtain ⟨cs, h⟩ := hty ad' hA'
      rw [hA'] at h0 hr
      exact C_block h0 (hr _ cs h)
  · obtain ⟨cs, h⟩ := hty ad' e
    exact ⟨cs, (hr _ cs h).trans h⟩
theorem Tk.drew {w : World} {g p : Nat} {a : Int} {l : List ByteArray} {A : Option Addr} {c : Nat} {hv : Value} (k : Tk w g p a l A c hv) : Tk w.drew g p a l A c hv := k.below (below_drew (Below.refl _ _))
theorem ret_iH {a b : Int} (h : b = a) : Ending.returned (.int .i64 a) = .returned (.int .i64 b) := by rw [h]
def nextT (T : Tr) (a : Int) (s : ByteArray) : Int :=
  if (T.node a).kind ≠ 1 then 0 else if s.toList = [46, 46] then (T.node a).up else if Sp.right s.data.toList = true then (findE (T.node a).ents s).1 else 0
set_option maxHeartbeats 4000000 in
set_option maxRecDepth 1000000 in
theorem next_calls (B : Nat) (w0 : World) (g p : Nat) (T : Tr) (a : Int) (s : ByteArray) (l : List ByteArray) (A : Option Addr) (c : Nat) (Z : Option Addr) (zn zc : Nat) (w : World) (hT : TreeAt w0 p T) (h0 : w0.heap.size = B) (hB : Below B w0 w) (hg : B ≤ g) (hk : Tk w g p a (s :: l) A c (.slice Z zn zc)) (hO : TrOK T) (hn : wf a) (hz : s.size ≤ 65536) :
    Calls Try.prog 75 #[.pointer (some ⟨g, 0, none⟩)] w fun e w' => e = .returned (.int .i64 (nextT T a s)) ∧ (∃ A' c', Tk w' g p a l A' c' (.slice Z zn zc)) ∧ Below B w0 w' ∧ (∀ i, i < w.heap.size → i ≠ g → w'.heap[i]? = w.heap[i]?) := by
  subst h0
  have HKD := Lib.hid (fun W (h : TreeAt W p T) => kind_calls p T a W h hn)
  have HUP := Lib.hid (fun W (h : TreeAt W p T) => up_calls p T a W h hn)
  have HLS := Lib.hid (fun W (h : TreeAt W p T) => list_calls p T a W h hn (hO.small.node a))
  have HFE := Lib.hid (fun A c W h hc => find_calls A c (T.node a).ents s W h hc (hO.small.node a) (hO.sorted.node a))
  have HRC := Lib.hid (fun W => Pa.right_calls s (by omega) W)
  obtain ⟨R, hR⟩ : ∃ R, R = nextT T a s := ⟨_, rfl⟩
  rw [← hR]
  unfold nextT at hR
  obtain ⟨A', hcut, hAd, hAb⟩ := cut1T A c (s :: l) (by simp) hk.cap
  obtain ⟨ad, eA, x0⟩ := Kd.at_string hk.row 0 (by omega) (by simp)
  have e0 : rdOf ByteArray.empty (s :: l) 0 = s := rfl
  rw [e0, show ad.add (0 : Int).toNat = ad from rfl] at x0
  subst eA
  obtain ⟨c0, c1, c2, c3⟩ := hk.cells
  have f2 := blk_frozen hk.blk 2
  have hk1 := hk.cutL hAd hAb
  have hB1 : Below w0.heap.size w0 (w.setCell ⟨g, 2, none⟩ (.slice A' l.length (c - 1))) := hB.setCell hg _
  have hfar : ∀ i, i ≠ g → (w.setCell ⟨g, 2, none⟩ (.slice A' l.length (c - 1))).heap[i]? = w.heap[i]? := fun i hi => Below.heap_setCell w ⟨g, 2, none⟩ _ i (fun e => hi e)
  have hwsz : (w.setCell ⟨g, 2, none⟩ (.slice A' l.length (c - 1))).heap.size = w.heap.size := by simp
  simp only [List.length_cons] at hcut c2 
  have hcap := hk.cap
  simp only [List.length_cons] at hcap
  have HK1 := Lib.hid hk1
  have HB1 := Lib.hid hB1
  have HFAR := Lib.hid (And.intro hfar hwsz)
  have HT := Lib.hid hT
  generalize (T.node a).ents = es at *
  generalize (T.node a).up = u at *
  generalize (T.node a).kind = kd at *
  have HR0 := Lib.hid hR
  clear hk hO hB hk1 hB1 hfar hwsz hAd hAb hT e0 hR
  go_enter Try.func75, Try.ntmps75
  go_upto_region 3 with (fail)
  generalize w.setCell ⟨g, 2, none⟩ (.slice A' l.length (c - 1)) = w1 at HK1 HB1 HFAR ⊢
  clear c0 c1 c2 c3 f2 x0 hcut
  obtain ⟨c0, c1, c2, c3⟩ := HK1.out.cells
  have g1 := blk_lt HK1.out.blk
  have HT1 := Lib.hid (HT.out.below HB1.out)
  have HFW := Lib.hid (fun (W : World) (hb : Below w1.heap.size w1 W) => show (∃ A' c', Tk W g p a l A' c' (.slice Z zn zc)) ∧ Below w0.heap.size w0 W ∧ (∀ i, i < w.heap.size → i ≠ g → W.heap[i]? = w.heap[i]?) from
    ⟨⟨_, _, HK1.out.below hb⟩, HB1.out.trans (hb.mono HB1.out.size), fun i hi hne => (hb.block i (by rw [HFAR.out.2]; exact hi)).trans (HFAR.out.1 i hne)⟩)
  clear HT HFAR
  have hR := HR0.out
  by_cases hkd : kd = 1
  · subst hkd
    rw [if_neg (by simp)] at hR
    have HR1 := Lib.hid hR
    clear hR HR0
    go_region_held3 (fun w' => w'.cell? ⟨g, 0, none⟩ = some (pT p) ∧ w'.cell? ⟨g, 1, none⟩ = some (.int .i64 a)) (first | (go_keep; done) | (exact ⟨(hb3.cell (p := ⟨g, 0, none⟩) g1).trans c0, (hb3.cell (p := ⟨g, 1, none⟩) g1).trans c1⟩))
      (first | (go_at_call 41; refine (HKD.out _ (by first | exact HT1.out | exact HT1.out.drew | exact HT1.out.drewN _)).mono ?_; rintro e w3 ⟨rfl, hb3⟩))
    have HB3 := Lib.hid ((below_drew (Below.refl _ w1)).trans hb3)
    have d0 : w3.cell? ⟨g, 0, none⟩ = some (pT p) := (HB3.out.cell (p := ⟨g, 0, none⟩) g1).trans c0
    have d1 : w3.cell? ⟨g, 1, none⟩ = some (.int .i64 a) := (HB3.out.cell (p := ⟨g, 1, none⟩) g1).trans c1
    have HT3 := Lib.hid (HT1.out.below HB3.out)
    have g3 : g < w3.heap.size := Nat.lt_of_lt_of_le g1 HB3.out.size
    clear hb3 c0 c1 c2 c3
    have hR := HR1.out
    by_cases hdd : s.toList = [46, 46]
    · rw [if_pos hdd] at hR
      have HR := Lib.hid hR
      clear hR HR1
      have b2 : (s.toList == [46, 46]) = true := by rw [hdd]; rfl
      clear hdd HLS HFE HRC
      go_upto_region 6 with (fail)
      go_region_held3 (fun w' => w'.cell? ⟨g, 0, none⟩ = some (pT p) ∧ w'.cell? ⟨g, 1, none⟩ = some (.int .i64 a)) (first | (go_keep; done) | (exact ⟨(hb4.cell (p := ⟨g, 0, none⟩) g3).trans d0, (hb4.cell (p := ⟨g, 1, none⟩) g3).trans d1⟩))
        (first | (go_at_call 66; refine (HUP.out _ (by first | exact HT3.out | exact HT3.out.drew | exact HT3.out.drewN _)).mono ?_; rintro e w4 ⟨rfl, hb4⟩))
      have hb5 := HB3.out.trans (((below_drew (Below.refl _ w3)).trans hb4).mono HB3.out.size)
      go_wp2
      go_ret
      exact ⟨ret_iH HR.out, HFW.out _ hb5⟩
    · rw [if_neg hdd] at hR
      have HR2 := Lib.hid hR
      clear hR HR1
      have b2 : (s.toList == [46, 46]) = false := by simpa using hdd
      clear hdd HUP
      go_upto_region 7 with (fail)
      go_region_held3 (fun w' => w'.cell? ⟨g, 0, none⟩ = some (pT p) ∧ w'.cell? ⟨g, 1, none⟩ = some (.int .i64 a)) (first | (go_keep; done) | (exact ⟨(hb4.cell (p := ⟨g, 0, none⟩) g3).trans d0, (hb4.cell (p := ⟨g, 1, none⟩) g3).trans d1⟩) | (exact ⟨(hb5.cell (p := ⟨g, 0, none⟩) g4).trans d2, (hb5.cell (p := ⟨g, 1, none⟩) g4).trans d3⟩))
        (first | (go_at_call 40; refine (HLS.out _ (by first | exact HT3.out | exact HT3.out.drew | exact HT3.out.drewN _)).mono ?_; rintro e w4 ⟨v, rfl, hv, hb4⟩; obtain ⟨A4, c4, rfl, hl4, hC4⟩ := Kd.R_reads hv; have HC4 := Lib.hid hC4; have g4 : g < w4.heap.size := Nat.lt_of_lt_of_le g3 hb4.size; have d2 := (hb4.cell (p := ⟨g, 0, none⟩) g3).trans d0; have d3 := (hb4.cell (p := ⟨g, 1, none⟩) g3).trans d1; clear hv hC4) | (go_at_call 39; refine (HFE.out _ _ _ (by first | exact HC4.out) hl4).mono ?_; rintro e w5 ⟨rfl, hb5⟩))
      have HB5 := Lib.hid (HB3.out.trans (((below_drew (Below.refl _ w3)).trans (hb4.trans (hb5.mono hb4.size))).mono HB3.out.size))
      clear d0 d1 d2 d3 hb4 hb5
      have hR := HR2.out
      clear HR2
      cases hr : Sp.right s.data.toList with
      | true =>
        rw [hr, if_pos rfl] at hR
        have HR := Lib.hid hR
        rw [hr] at HRC
        clear hr hR
        go_wp2_with (go_at_call 73; refine (HRC.out _).mono ?_; rintro e w6 ⟨rfl, hb6⟩)
        go_ret
        exact ⟨ret_iH HR.out, HFW.out _ (HB5.out.trans (hb6.mono HB5.out.size))⟩
      | false =>
        rw [hr, if_neg (by simp)] at hR
        have HR := Lib.hid hR
        rw [hr] at HRC
        clear hr hR
        go_wp2_with (go_at_call 73; refine (HRC.out _).mono ?_; rintro e w6 ⟨rfl, hb6⟩)
        go_ret
        exact ⟨ret_iH HR.out, HFW.out _ (HB5.out.trans (hb6.mono HB5.out.size))⟩
  · rw [if_pos hkd] at hR
    have HR := Lib.hid hR
    clear hR HR0
    have b1 : (kd != 1) = true := bne_iff_ne.2 hkd
    clear hkd HUP HLS HFE HRC
    go_region_held3 (fun w' => w'.cell? ⟨g, 0, none⟩ = some (pT p) ∧ w'.cell? ⟨g, 1, none⟩ = some (.int .i64 a)) (first | (go_keep; done) | (exact ⟨(hb3.cell (p := ⟨g, 0, none⟩) g1).trans c0, (hb3.cell (p := ⟨g, 1, none⟩) g1).trans c1⟩))
      (first | (go_at_call 41; refine (HKD.out _ (by first | exact HT1.out | exact HT1.out.drew | exact HT1.out.drewN _)).mono ?_; rintro e w3 ⟨rfl, hb3⟩))
    have hb4 := (below_drew (Below.refl _ w1)).trans hb3
    go_wp2
    go_ret
    exact ⟨ret_iH HR.out, HFW.out _ hb4⟩
end Go.Proofs.Ytjfigngmpagloaa.Tw

namespace Go.Proofs.Ytjfigngmpagloaa.Tw
open Go Go.RowKit Go.Shelf Go.Proofs Go.Proofs.Ytjfigngmpagloaa Go.Proofs.YtjfigngmpagloaaW.PrintWords Go.Proofs.Ytjfigngmpagloaa.Ext Go.Proofs.Ytjfigngmpagloaa.X Go.Proofs.Ytjfigngmpagloaa.Pu
set_option linter.unusedVariables false
set_option linter.unusedSimpArgs false
theorem infoH : (Try.prog.info? 76).map (fun i => (i.zero, i.size, i.bytes)) = some (some (.agg #[.string ⟨#[]⟩, .string ⟨#[]⟩]), 2, 32) := by kernel_rfl
theorem hop_form {w : World} {B : Nat} {ok : Nat → Prop} {v : Value} {hs : List HP} {x : HP} (h : Kd.R k76 76 w B ok v (hs ++ [x])) : ∃ A c, v = .slice A (hs.length + 1) c := by
  obtain ⟨A, c, e⟩ := Kd.R_slice h
  exact ⟨A, c, by rw [e]; simp⟩
theorem hops_keep {w W : World} {g p B : Nat} {a : Int} {l : List ByteArray} {A : Option Addr} {c : Nat} {v : Value} {hs : List HP} (k : Tk w g p a l A c v) (hR : Kd.R k76 76 w B (fun k => k ≠ g) v hs) (hg : w.grownBy W v.ownBlock) : Tk W g p a l A c v := by
  refine k.keep (blk_grown k.blk hg (Kd.R_away hR (g := g) (fun _ h => h))) (fun i cs h => ?_)
  obtain ⟨hlt, _⟩ := Array.getElem?_eq_some_iff.1 h
  refine hg.block i hlt (fun e => ?_)
  obtain ⟨cs2, h2⟩ := Kd.R_typed hR i e.symm
  rw [h] at h2
  injection h2 with h2
  injection h2 with _ h2
  exact absurd h2 (by decide)
set_option maxHeartbeats 4000000 in
set_option maxRecDepth 1000000 in
theorem tfollow_yes (B : Nat) (w0 : World) (g p : Nat) (T : Tr) (a n : Int) (l : List ByteArray) (A : Option Addr) (c : Nat) (hv : Value) (hs : List HP) (rs text : ByteArray) (ok : Bool) (w : World) (hT : TreeAt w0 p T) (h0 : w0.heap.size = B) (hB : Below B w0 w) (hg : B ≤ g) (hk : Tk w g p a l A c hv) (hn : wf n)
    (hR : Kd.R k76 76 w B (fun k => k ≠ g) hv hs) (hreal : ∀ W, TreeAt W p T → Calls Try.prog 28 #[pT p, .int .i64 n] W fun e w' => e = .returned (.tuple #[.string rs, .bool ok]) ∧ Below W.heap.size W w') (hd : (T.node n).data = text) (hz : text.size ≤ 65536) (hl : l.length < 4294967281) (hh : hs.length < 40) (hsl : slashB text = false) :
    Calls Try.prog 76 #[.pointer (some ⟨g, 0, none⟩), .int .i64 n] w fun e w' => e = .returned (.bool true) ∧ (∃ A' c' hv', Tk w' g p a (partsB text ++ l) A' c' hv' ∧ Kd.R k76 76 w' B (fun k => k ≠ g) hv' (hs ++ [⟨rs, text⟩])) ∧ Below B w0 w' := by
  subst h0
  have HD := Lib.hid (fun W h => data_calls p T n W h hn)
  rw [hd] at HD
  have HP := Lib.hid (fun W => path_Parts.calls text (partsB text) W (by rw [path_Parts.f, if_pos (by omega)]; rfl))
  have HH := Lib.hid (fun W => Try.strings_HasPrefix text ⟨#[47]⟩ W)
  have hsl' : Lib.hasPrefix text.data.toList (⟨#[47]⟩ : ByteArray).data.toList = false := hsl
  rw [hsl'] at HH
  have HPL := Lib.hid (partsB_len text (by omega))
  obtain ⟨Z, zc, rfl, hzc, -⟩ := Kd.R_reads hR
  obtain ⟨c0, c1, c2, c3⟩ := hk.cells
  have f3 := blk_frozen hk.blk 3
  have g0 := blk_lt hk.blk
  have hne : ((hs.length : Int) == 40) = false := beq_eq_false_iff_ne.2 (by omega)
  have HK := Lib.hid hk
  have HB := Lib.hid hB
  have HT := Lib.hid (hT.below hB)
  have HTB := Lib.hid hT
  have HR := Lib.hid hR
  have HRL := Lib.hid hreal
  have HHL := Lib.hid hh
  clear hk hB hT hR hreal hd hsl hsl' hh
  go_enter Try.func76, Try.ntmps76
  go_upto_region 4 with (go_at_call 28; refine (HRL.out _ HT.out).mono ?_; rintro e w2 ⟨rfl, hb2⟩)
  have HK2 := Lib.hid (HK.out.below hb2)
  have HT2 := Lib.hid (HT.out.below hb2)
  have HR2 := Lib.hid (Kd.R_below HR.out hb2)
  have HB2 := Lib.hid (HB.out.trans (hb2.mono HB.out.size))
  have g2 := blk_lt HK2.out.blk
  clear HK HB HT HR c0 c1 c2 c3 f3 g0 hb2
  obtain ⟨c0, c1, c2, c3⟩ := HK2.out.cells
  go_upto_region 5 with (go_at_call 53; refine (HD.out _ HT2.out).mono ?_; rintro e w3 ⟨rfl, hb3⟩)
  have HK3 := Lib.hid (HK2.out.below hb3)
  have HR3 := Lib.hid (Kd.R_below HR2.out hb3)
  have HB3 := Lib.hid (HB2.out.trans (hb3.mono HB2.out.size))
  have g3 := blk_lt HK3.out.blk
  clear HK2 HT2 HR2 HB2 c0 c1 c2 c3 g2 hb3
  obtain ⟨c0, c1, c2, c3⟩ := HK3.out.cells
  go_upto_region 6 with ((with_reducible refine gate_builtin (b := .append) (xs := #[.tmp 33, .tmp 37]) rfl ?_); at_builtin; refine Kd.R_append k76 (w0 := w0) w0.heap.size rfl (.tmp 33) (.tmp 37) 68 76 (.agg #[.string ⟨#[]⟩, .string ⟨#[]⟩]) 32 rfl Try.underlying68 infoH rfl (by decide) (by omega) _ hs ⟨rs, text⟩ [.string rs, .string text] (fun k => k ≠ g) (fun _ => False) rfl rfl (k76_mkM _ _ _ _) (fun _ hk => hk.elim) (fun k hk e => absurd g3 (Nat.not_lt.2 (e ▸ hk))) HR3.out HB3.out HB3.out.size (by have := HHL.out; omega) ?_; intro v4 w4 ho4 hb4 hg4 hat4; obtain ⟨A4, c4, rfl⟩ := hop_form ho4; have HK4 := Lib.hid (hops_keep HK3.out HR3.out hg4); have x3 := HK4.out.cells.2.2.2; have y3 := blk_frozen HK4.out.blk 3; have HO4 := Lib.hid ho4; have HB4 := Lib.hid hb4; clear ho4 hb4 hg4 hat4)
  have hk5 := HK4.out.set3 (.slice A4 (hs.length + 1) c4)
  have hR5 := Kd.R_set (g := g) HO4.out HK4.out.blk (by decide) 3 (.slice A4 (hs.length + 1) c4)
  have hB5 : Below w0.heap.size w0 (w4.setCell ⟨g, 3, none⟩ (.slice A4 (hs.length + 1) c4)) := HB4.out.setCell hg _
  generalize w4.setCell ⟨g, 3, none⟩ (.slice A4 (hs.length + 1) c4) = w5 at hk5 hR5 hB5 ⊢
  have HK := Lib.hid hk5
  have HR5 := Lib.hid hR5
  have HB := Lib.hid hB5
  have g5 := blk_lt hk5.blk
  obtain ⟨-, -, d3, -⟩ := hk5.cells
  have f5 := blk_frozen hk5.blk 2
  clear hk5 hR5 hB5 c0 c1 c2 c3 g3 x3 y3 HK3 HR3 HB3 HK4 HO4 HB4
  go_region_law (first | (refine Kd.R_append_rows_step Kd.string (w0 := w6) w5.heap.size (by simp [Region.wanted]) (.tmp 43) (.tmp 47) 42 9 (.string ⟨#[]⟩) 16 rfl Try.underlying42 infoS rfl (by decide) (by omega) v (partsB text) l A l.length c (fun _ => True) (fun _ => False) (by rfl) (by rfl) HO.out HK6.out.row (fun _ _ h => h) (fun _ h => h.elim) (fun _ _ => trivial) (Below.refl _ _) hw6 (by have := HPL.out; omega) ?_; intro v1 w7 ho7 hb7 hg7 hat7; obtain ⟨A1, c1, rfl, hl1, hC1⟩ := Kd.R_reads ho7; have k7 := blk_grown HK6.out.blk hg7 HNE.out; have x7 : w7.cell? ⟨g, 2, none⟩ = some (.slice A l.length c) := (by rw [blk_cell k7]; rfl); have f7 := blk_frozen k7 2; have HK7 := Lib.hid k7; have HC1 := Lib.hid ho7; clear k7 ho7 hC1 hg7 hat7) | (go_simp; go_at_call 58; refine (HP.out _).mono ?_; rintro e w6 ⟨v, rfl, ho, hb6⟩; have hw6 : w5.heap.size ≤ w6.heap.size := hb6.size; have HK6 := Lib.hid (HK.out.drew.below hb6); have HB6 := Lib.hid hb6; have HO := Lib.hid ho; have HNE := Lib.hid (show some g ≠ v.ownBlock from fun e => by have := (Kd.R_bound ho).1 g e.symm; have := this.2.1; simp at this; omega); have x6 : w6.cell? ⟨g, 2, none⟩ = some (.slice A l.length c) := (hb6.cell (p := ⟨g, 2, none⟩) g5).trans d3; have y6 : w6.frozen? ⟨g, 2, none⟩ = false := blk_frozen HK6.out.blk 2; clear ho))
  all_goals
    have hb57 : Below w5.heap.size w5 w7 := (below_drew (Below.refl _ w5)).trans (HB6.out.trans hb7)
    have hW : Tk (w7.setCell ⟨g, 2, none⟩ (.slice A1 ((partsB text).length + l.length) c1)) g p a (partsB text ++ l) A1 c1 (.slice A4 (hs.length + 1) c4) := by
      obtain ⟨A2, c2, e2, hl2, hC2⟩ := Kd.R_reads HC1.out
      cases e2
      have hty := Kd.R_typed HC1.out
      have hne : ∀ (i : Nat) (cs : Array Value), w7.heap[i]? = some (.cells cs 9 (0, 0)) → (w7.setCell ⟨g, 2, none⟩ (.slice A1 ((partsB text).length + l.length) c1)).heap[i]? = w7.heap[i]? := fun i cs h => Below.heap_setCell w7 ⟨g, 2, none⟩ _ i (ne_walker HK7.out h)
      have hbt : ∀ ad, A1 = some ad → ∃ cells, w7.heap[ad.block]? = some (.cells cells 9 (0, 0)) := fun ad e => hty ad.block (by rw [e]; rfl)
      refine ⟨by rw [List.length_append]; exact blk_set HK7.out 2 _, ?_, hl1, fun ad e => ?_⟩
      · cases hA : A1 with
        | none => rw [hA] at hC2; exact C_noneT hC2
        | some ad =>
          obtain ⟨cs, h⟩ := hbt ad hA
          rw [hA] at hC2 hne
          exact C_block hC2 (hne _ cs h)
      · obtain ⟨cs, h⟩ := hbt ad e
        exact ⟨cs, (hne _ cs h).trans h⟩
    have hZ : Below w0.heap.size w0 (w7.setCell ⟨g, 2, none⟩ (.slice A1 ((partsB text).length + l.length) c1)) := (HB.out.trans (hb57.mono HB.out.size)).setCell hg _
    have hRR : Kd.R k76 76 (w7.setCell ⟨g, 2, none⟩ (.slice A1 ((partsB text).length + l.length) c1)) w0.heap.size (fun k => k ≠ g) (.slice A4 (hs.length + 1) c4) (hs ++ [⟨rs, text⟩]) := Kd.R_set (g := g) (Kd.R_below HR5.out hb57) HK7.out (by decide) 2 _
    generalize w7.setCell ⟨g, 2, none⟩ (.slice A1 ((partsB text).length + l.length) c1) = w8 at hW hZ hRR ⊢
    have HW := Lib.hid hW
    have HRR := Lib.hid hRR
    clear hW hRR x7 f7 x6 y6 hl1 d3 f5 hb57 hb7
    go_simp
    go_wp2_with (go_at_call 105; refine (HH.out _).mono ?_; rintro e w9 ⟨rfl, hw⟩; rw [hw]; clear hw)
    go_ret
    exact ⟨rfl, ⟨_, _, _, HW.out, HRR.out⟩, hZ⟩
set_option maxHeartbeats 4000000 in
set_option maxRecDepth 1000000 in
theorem tfollow_root (B : Nat) (w0 : World) (g p : Nat) (T : Tr) (a n : Int) (l : List ByteArray) (A : Option Addr) (c : Nat) (hv : Value) (hs : List HP) (rs text : ByteArray) (ok : Bool) (w : World) (hT : TreeAt w0 p T) (h0 : w0.heap.size = B) (hB : Below B w0 w) (hg : B ≤ g) (hk : Tk w g p a l A c hv) (hn : wf n)
    (hR : Kd.R k76 76 w B (fun k => k ≠ g) hv hs) (hreal : ∀ W, TreeAt W p T → Calls Try.prog 28 #[pT p, .int .i64 n] W fun e w' => e = .returned (.tuple #[.string rs, .bool ok]) ∧ Below W.heap.size W w') (hd : (T.node n).data = text) (hz : text.size ≤ 65536) (hl : l.length < 4294967281) (hh : hs.length < 40) (hsl : slashB text = true) :
    Calls Try.prog 76 #[.pointer (some ⟨g, 0, none⟩), .int .i64 n] w fun e w' => e = .returned (.bool true) ∧ (∃ A' c' hv', Tk w' g p 1 (partsB text ++ l) A' c' hv' ∧ Kd.R k76 76 w' B (fun k => k ≠ g) hv' (hs ++ [⟨rs, text⟩])) ∧ Below B w0 w' := by
  subst h0
  have HD := Lib.hid (fun W h => data_calls p T n W h hn)
  rw [hd] at HD
  have HP := Lib.hid (fun W => path_Parts.calls text (partsB text) W (by rw [path_Parts.f, if_pos (by omega)]; rfl))
  have HH := Lib.hid (fun W => Try.strings_HasPrefix text ⟨#[47]⟩ W)
  have hsl' : Lib.hasPrefix text.data.toList (⟨#[47]⟩ : ByteArray).data.toList = true := hsl
  rw [hsl'] at HH
  have HPL := Lib.hid (partsB_len text (by omega))
  obtain ⟨Z, zc, rfl, hzc, -⟩ := Kd.R_reads hR
  obtain ⟨c0, c1, c2, c3⟩ := hk.cells
  have f3 := blk_frozen hk.blk 3
  have g0 := blk_lt hk.blk
  have hne : ((hs.length : Int) == 40) = false := beq_eq_false_iff_ne.2 (by omega)
  have HK := Lib.hid hk
  have HB := Lib.hid hB
  have HT := Lib.hid (hT.below hB)
  have HTB := Lib.hid hT
  have HR := Lib.hid hR
  have HRL := Lib.hid hreal
  have HHL := Lib.hid hh
  clear hk hB hT hR hreal hd hsl hsl' hh
  go_enter Try.func76, Try.ntmps76
  go_upto_region 4 with (go_at_call 28; refine (HRL.out _ HT.out).mono ?_; rintro e w2 ⟨rfl, hb2⟩)
  have HK2 := Lib.hid (HK.out.below hb2)
  have HT2 := Lib.hid (HT.out.below hb2)
  have HR2 := Lib.hid (Kd.R_below HR.out hb2)
  have HB2 := Lib.hid (HB.out.trans (hb2.mono HB.out.size))
  have g2 := blk_lt HK2.out.blk
  clear HK HB HT HR c0 c1 c2 c3 f3 g0 hb2
  obtain ⟨c0, c1, c2, c3⟩ := HK2.out.cells
  go_upto_region 5 with (go_at_call 53; refine (HD.out _ HT2.out).mono ?_; rintro e w3 ⟨rfl, hb3⟩)
  have HK3 := Lib.hid (HK2.out.below hb3)
  have HR3 := Lib.hid (Kd.R_below HR2.out hb3)
  have HB3 := Lib.hid (HB2.out.trans (hb3.mono HB2.out.size))
  have g3 := blk_lt HK3.out.blk
  clear HK2 HT2 HR2 HB2 c0 c1 c2 c3 g2 hb3
  obtain ⟨c0, c1, c2, c3⟩ := HK3.out.cells
  go_upto_region 6 with ((with_reducible refine gate_builtin (b := .append) (xs := #[.tmp 33, .tmp 37]) rfl ?_); at_builtin; refine Kd.R_append k76 (w0 := w0) w0.heap.size rfl (.tmp 33) (.tmp 37) 68 76 (.agg #[.string ⟨#[]⟩, .string ⟨#[]⟩]) 32 rfl Try.underlying68 infoH rfl (by decide) (by omega) _ hs ⟨rs, text⟩ [.string rs, .string text] (fun k => k ≠ g) (fun _ => False) rfl rfl (k76_mkM _ _ _ _) (fun _ hk => hk.elim) (fun k hk e => absurd g3 (Nat.not_lt.2 (e ▸ hk))) HR3.out HB3.out HB3.out.size (by have := HHL.out; omega) ?_; intro v4 w4 ho4 hb4 hg4 hat4; obtain ⟨A4, c4, rfl⟩ := hop_form ho4; have HK4 := Lib.hid (hops_keep HK3.out HR3.out hg4); have x3 := HK4.out.cells.2.2.2; have y3 := blk_frozen HK4.out.blk 3; have HO4 := Lib.hid ho4; have HB4 := Lib.hid hb4; clear ho4 hb4 hg4 hat4)
  have hk5 := HK4.out.set3 (.slice A4 (hs.length + 1) c4)
  have hR5 := Kd.R_set (g := g) HO4.out HK4.out.blk (by decide) 3 (.slice A4 (hs.length + 1) c4)
  have hB5 : Below w0.heap.size w0 (w4.setCell ⟨g, 3, none⟩ (.slice A4 (hs.length + 1) c4)) := HB4.out.setCell hg _
  generalize w4.setCell ⟨g, 3, none⟩ (.slice A4 (hs.length + 1) c4) = w5 at hk5 hR5 hB5 ⊢
  have HK := Lib.hid hk5
  have HR5 := Lib.hid hR5
  have HB := Lib.hid hB5
  have g5 := blk_lt hk5.blk
  obtain ⟨-, -, d3, -⟩ := hk5.cells
  have f5 := blk_frozen hk5.blk 2
  clear hk5 hR5 hB5 c0 c1 c2 c3 g3 x3 y3 HK3 HR3 HB3 HK4 HO4 HB4
  go_region_law (first | (refine Kd.R_append_rows_step Kd.string (w0 := w6) w5.heap.size (by simp [Region.wanted]) (.tmp 43) (.tmp 47) 42 9 (.string ⟨#[]⟩) 16 rfl Try.underlying42 infoS rfl (by decide) (by omega) v (partsB text) l A l.length c (fun _ => True) (fun _ => False) (by rfl) (by rfl) HO.out HK6.out.row (fun _ _ h => h) (fun _ h => h.elim) (fun _ _ => trivial) (Below.refl _ _) hw6 (by have := HPL.out; omega) ?_; intro v1 w7 ho7 hb7 hg7 hat7; obtain ⟨A1, c1, rfl, hl1, hC1⟩ := Kd.R_reads ho7; have k7 := blk_grown HK6.out.blk hg7 HNE.out; have x7 : w7.cell? ⟨g, 2, none⟩ = some (.slice A l.length c) := (by rw [blk_cell k7]; rfl); have f7 := blk_frozen k7 2; have HK7 := Lib.hid k7; have HC1 := Lib.hid ho7; clear k7 ho7 hC1 hg7 hat7) | (go_simp; go_at_call 58; refine (HP.out _).mono ?_; rintro e w6 ⟨v, rfl, ho, hb6⟩; have hw6 : w5.heap.size ≤ w6.heap.size := hb6.size; have HK6 := Lib.hid (HK.out.drew.below hb6); have HB6 := Lib.hid hb6; have HO := Lib.hid ho; have HNE := Lib.hid (show some g ≠ v.ownBlock from fun e => by have := (Kd.R_bound ho).1 g e.symm; have := this.2.1; simp at this; omega); have x6 : w6.cell? ⟨g, 2, none⟩ = some (.slice A l.length c) := (hb6.cell (p := ⟨g, 2, none⟩) g5).trans d3; have y6 : w6.frozen? ⟨g, 2, none⟩ = false := blk_frozen HK6.out.blk 2; clear ho))
  all_goals
    have hb57 : Below w5.heap.size w5 w7 := (below_drew (Below.refl _ w5)).trans (HB6.out.trans hb7)
    have hW : Tk (w7.setCell ⟨g, 2, none⟩ (.slice A1 ((partsB text).length + l.length) c1)) g p a (partsB text ++ l) A1 c1 (.slice A4 (hs.length + 1) c4) := by
      obtain ⟨A2, c2, e2, hl2, hC2⟩ := Kd.R_reads HC1.out
      cases e2
      have hty := Kd.R_typed HC1.out
      have hne : ∀ (i : Nat) (cs : Array Value), w7.heap[i]? = some (.cells cs 9 (0, 0)) → (w7.setCell ⟨g, 2, none⟩ (.slice A1 ((partsB text).length + l.length) c1)).heap[i]? = w7.heap[i]? := fun i cs h => Below.heap_setCell w7 ⟨g, 2, none⟩ _ i (ne_walker HK7.out h)
      have hbt : ∀ ad, A1 = some ad → ∃ cells, w7.heap[ad.block]? = some (.cells cells 9 (0, 0)) := fun ad e => hty ad.block (by rw [e]; rfl)
      refine ⟨by rw [List.length_append]; exact blk_set HK7.out 2 _, ?_, hl1, fun ad e => ?_⟩
      · cases hA : A1 with
        | none => rw [hA] at hC2; exact C_noneT hC2
        | some ad =>
          obtain ⟨cs, h⟩ := hbt ad hA
          rw [hA] at hC2 hne
          exact C_block hC2 (hne _ cs h)
      · obtain ⟨cs, h⟩ := hbt ad e
        exact ⟨cs, (hne _ cs h).trans h⟩
    have hZ : Below w0.heap.size w0 (w7.setCell ⟨g, 2, none⟩ (.slice A1 ((partsB text).length + l.length) c1)) := (HB.out.trans (hb57.mono HB.out.size)).setCell hg _
    have hRR : Kd.R k76 76 (w7.setCell ⟨g, 2, none⟩ (.slice A1 ((partsB text).length + l.length) c1)) w0.heap.size (fun k => k ≠ g) (.slice A4 (hs.length + 1) c4) (hs ++ [⟨rs, text⟩]) := Kd.R_set (g := g) (Kd.R_below HR5.out hb57) HK7.out (by decide) 2 _
    generalize w7.setCell ⟨g, 2, none⟩ (.slice A1 ((partsB text).length + l.length) c1) = w8 at hW hZ hRR ⊢
    have HW := Lib.hid hW
    have HRR := Lib.hid hRR
    clear hW hRR x7 f7 x6 y6 hl1 d3 f5 hb57 hb7
    go_simp
    obtain ⟨z0, z1, z2, z3⟩ := HW.out.cells
    have zf := blk_frozen HW.out.blk 1
    go_upto_region 9 with (go_at_call 105; refine (HH.out _).mono ?_; rintro e w9 ⟨rfl, hw⟩; rw [hw]; clear hw)
    have hW9 := HW.out.set1 1
    have hR9 := Kd.R_set (g := g) HRR.out HW.out.blk (by decide) 1 (.int .i64 1)
    have hZ9 := hZ.setCell (p := ⟨g, 1, none⟩) hg (.int .i64 1)
    generalize w8.setCell ⟨g, 1, none⟩ (.int .i64 1) = w10 at hW9 hR9 hZ9 ⊢
    clear z0 z1 z2 z3 zf
    go_wp2
    go_ret
    exact ⟨rfl, ⟨_, _, _, hW9, hR9⟩, hZ9⟩
theorem tfollow_full (g p : Nat) (a n : Int) (l : List ByteArray) (A : Option Addr) (c : Nat) (hv : Value) (hs : List HP) (B : Nat) (w : World) (hk : Tk w g p a l A c hv) (hR : Kd.R k76 76 w B (fun k => k ≠ g) hv hs) (hh : hs.length = 40) :
    Calls Try.prog 76 #[.pointer (some ⟨g, 0, none⟩), .int .i64 n] w fun e w' => e = .returned (.bool false) ∧ w = w' := by
  obtain ⟨Z, zc, rfl, hzc, -⟩ := Kd.R_reads hR
  obtain ⟨c0, c1, c2, c3⟩ := hk.cells
  rw [hh] at c3
  clear hh hzc
  go_enter Try.func76, Try.ntmps76
  go_wp2
  go_ret
  exact ⟨rfl, rfl⟩
end Go.Proofs.Ytjfigngmpagloaa.Tw

namespace Go.Proofs.Ytjfigngmpagloaa.Tw
open Go Go.RowKit Go.Shelf Go.Proofs Go.Proofs.Ytjfigngmpagloaa Go.Proofs.YtjfigngmpagloaaW.PrintWords Go.Proofs.Ytjfigngmpagloaa.Ext Go.Proofs.Ytjfigngmpagloaa.X Go.Proofs.Ytjfigngmpagloaa.Pu
set_option linter.unusedVariables false
set_option linter.unusedSimpArgs false
def traceF (T : Tr) (rl : Int → ByteArray) (last : Bool) : Nat → Int → List ByteArray → List HP → Option (List HP)
  | 0, _, _, _ => none
  | _ + 1, _, [], hs => some hs
  | k + 1, a, s :: l, hs =>
    if nextT T a s = 0 then some hs
    else if (T.node (nextT T a s)).kind ≠ 3 ∨ (l = [] ∧ last = false) then traceF T rl last k (nextT T a s) l hs
    else if hs.length = 40 then some hs
    else traceF T rl last k (if slashB (T.node (nextT T a s)).data = true then 1 else a) (partsB (T.node (nextT T a s)).data ++ l) (hs ++ [⟨rl (nextT T a s), (T.node (nextT T a s)).data⟩])
theorem TrOK.wf_next {T : Tr} (h : TrOK T) (a : Int) (s : ByteArray) : wf (nextT T a s) := by
  unfold nextT
  split
  · exact wf0
  · split
    · exact h.wf_up a
    · split
      · exact h.wf_find a s
      · exact wf0
theorem Tk.made {w : World} {p : Nat} {l : List ByteArray} {v : Value} {base : Nat} (hr : Kd.R Kd.string 9 w base (fun _ => True) v l) :
    ∃ A c, v = .slice A l.length c ∧ Tk (w.alloc (.cells #[pT p, .int .i64 1, .slice A l.length c, .slice none 0 0] 130)) w.heap.size p 1 l A c (.slice none 0 0) := by
  obtain ⟨A, c, e, hc, hC⟩ := Kd.R_reads hr
  subst e
  refine ⟨A, c, rfl, World.alloc_heap_new w _, Kd.C_below hC ((Below.refl _ w).alloc (Nat.le_refl _) _), hc, fun ad e => ?_⟩
  obtain ⟨cs, h⟩ := Kd.R_typed hr ad.block (by rw [e]; rfl)
  exact ⟨cs, (heap_alloc_old _ _ _ (blk_lt h)).trans h⟩
theorem hops_far {w W : World} {g B : Nat} {v : Value} {hs : List HP} (hR : Kd.R k76 76 w B (fun k => k ≠ g) v hs) (h : ∀ i, i < w.heap.size → i ≠ g → W.heap[i]? = w.heap[i]?) : Kd.R k76 76 W B (fun k => k ≠ g) v hs := Kd.R_step hR (fun k hk hlt => h k hlt hk)
theorem tfollow_any (B : Nat) (w0 : World) (g p : Nat) (T : Tr) (a n : Int) (l : List ByteArray) (A : Option Addr) (c : Nat) (hv : Value) (hs : List HP) (rs text : ByteArray) (ok : Bool) (w : World) (hT : TreeAt w0 p T) (h0 : w0.heap.size = B) (hB : Below B w0 w) (hg : B ≤ g) (hk : Tk w g p a l A c hv) (hn : wf n)
    (hR : Kd.R k76 76 w B (fun k => k ≠ g) hv hs) (hreal : ∀ W, TreeAt W p T → Calls Try.prog 28 #[pT p, .int .i64 n] W fun e w' => e = .returned (.tuple #[.string rs, .bool ok]) ∧ Below W.heap.size W w') (hd : (T.node n).data = text) (hz : text.size ≤ 65536) (hl : l.length < 4294967281) (hh : hs.length < 40) :
    Calls Try.prog 76 #[.pointer (some ⟨g, 0, none⟩), .int .i64 n] w fun e w' => e = .returned (.bool true) ∧ (∃ A' c' Z' zc', Tk w' g p (if slashB text = true then 1 else a) (partsB text ++ l) A' c' (.slice Z' (hs.length + 1) zc') ∧ Kd.R k76 76 w' B (fun k => k ≠ g) (.slice Z' (hs.length + 1) zc') (hs ++ [⟨rs, text⟩])) ∧ Below B w0 w' := by
  cases hsl : slashB text with
  | true =>
    rw [if_pos rfl]
    refine (tfollow_root B w0 g p T a n l A c hv hs rs text ok w hT h0 hB hg hk hn hR hreal hd hz hl hh hsl).mono ?_
    rintro e w' ⟨rfl, ⟨A', c', hv', h1, h2⟩, h3⟩
    obtain ⟨Z, zc, rfl⟩ := hop_form h2
    exact ⟨rfl, ⟨A', c', Z, zc, h1, h2⟩, h3⟩
  | false =>
    rw [if_neg (by simp)]
    refine (tfollow_yes B w0 g p T a n l A c hv hs rs text ok w hT h0 hB hg hk hn hR hreal hd hz hl hh hsl).mono ?_
    rintro e w' ⟨rfl, ⟨A', c', hv', h1, h2⟩, h3⟩
    obtain ⟨Z, zc, rfl⟩ := hop_form h2
    exact ⟨rfl, ⟨A', c', Z, zc, h1, h2⟩, h3⟩
theorem traceOf_none (p : Nat) (T : Tr) (s : ByteArray) (last : Bool) (k : Nat) (R : Int × Int) (w : World) (hT : TreeAt w p T) (hO : TrOK T) (hR : findF T last k s = some R) (hs : s.toList = [] ∨ (1024 : Int) < (s.size : Int)) :
    Calls Try.prog 35 #[pT p, .string s, .bool last] w fun e w' => e = .returned (.tuple #[.slice none 0 0, .int .i64 R.1, .int .i64 R.2]) ∧ Below w.heap.size w w' := by
  have HF := Lib.hid (fun W h => seekFind_calls p T s last k R W h hO hR)
  have HT := Lib.hid hT
  obtain ⟨rn, re⟩ := R
  simp only [] at HF
  clear hT hO hR
  by_cases h0 : s.toList = []
  · have b1 : (s.toList == []) = true := by rw [h0]; rfl
    clear h0 hs
    go_enter Try.func35, Try.ntmps35
    go_wp2_with (go_at_call 24; refine (HF.out _ HT.out).mono ?_; rintro e w2 ⟨rfl, hb2⟩)
    go_ret3
    exact ⟨rfl, hb2⟩
  · have h1 : (1024 : Int) < (s.size : Int) := hs.resolve_left h0
    have b1 : (s.toList == []) = false := by simpa using h0
    have b2 : s.toList.isEmpty = false := by simpa using h0
    have d1 : decide ((1024 : Int) < (s.size : Int)) = true := decide_eq_true h1
    have d2 : decide (1024 < s.size) = true := decide_eq_true (by omega)
    clear h0 hs h1
    go_enter Try.func35, Try.ntmps35
    go_wp2_with (go_at_call 24; refine (HF.out _ HT.out).mono ?_; rintro e w2 ⟨rfl, hb2⟩)
    go_ret3
    exact ⟨rfl, hb2⟩
theorem traceOf_nil (s : ByteArray) (last : Bool) (w : World) :
    Calls Try.prog 35 #[.pointer none, .string s, .bool last] w fun e w' => e = .returned (.tuple #[.slice none 0 0, .int .i64 0, .int .i64 1]) ∧ Below w.heap.size w w' := by
  have HF := Lib.hid (fun W => seekFind_nil s last W)
  go_enter Try.func35, Try.ntmps35
  go_wp2_with (go_at_call 24; refine (HF.out _).mono ?_; rintro e w2 ⟨rfl, hb2⟩)
  go_ret3
  exact ⟨rfl, hb2⟩
set_option maxHeartbeats 8000000 in
set_option maxRecDepth 1000000 in
theorem traceOf_calls (p : Nat) (T : Tr) (rl : Int → ByteArray) (s : ByteArray) (last : Bool) (k kt : Nat) (F : Int × Int) (R : List HP) (w : World) (hT : TreeAt w p T) (hO : TrOK T) (hF : findF T last k s = some F) (h1 : s.toList ≠ []) (h2 : s.size ≤ 1024)
    (hR : traceF T rl last kt 1 (partsB s) [] = some R) (hreal : ∀ n, (T.node n).kind = 3 → wf n → ∃ ok, ∀ W, TreeAt W p T → Calls Try.prog 28 #[pT p, .int .i64 n] W fun e w' => e = .returned (.tuple #[.string (rl n), .bool ok]) ∧ Below W.heap.size W w') :
    Calls Try.prog 35 #[pT p, .string s, .bool last] w fun e w' => ∃ A c, e = .returned (.tuple #[.slice A R.length c, .int .i64 F.1, .int .i64 F.2]) ∧ R.length ≤ c ∧ Kd.C k76 w' A R.length R ∧ Below w.heap.size w w' := by
  have HF := Lib.hid (fun W h => seekFind_calls p T s last k F W h hO hF)
  have HPA := Lib.hid (fun W => path_Parts.calls s (partsB s) W (by rw [path_Parts.f, if_pos (by omega)]; rfl))
  have hpl := partsB_len' s
  have hps := partsB_sz s
  have HT := Lib.hid hT
  have HO := Lib.hid hO
  have HREAL := Lib.hid hreal
  have HR := Aside0.mk hR
  have HL := Aside0.mk (show (partsB s).length ≤ 1025 by omega)
  have HZ := Aside0.mk (show ∀ x ∈ partsB s, x.size ≤ 65536 from fun x hx => Nat.le_trans (hps x hx) (by omega))
  have b1 : (s.toList == []) = false := by simpa using h1
  have b2 : s.toList.isEmpty = false := by simpa using h1
  have d1 : decide ((1024 : Int) < (s.size : Int)) = false := decide_eq_false (by omega)
  have d2 : decide (1024 < s.size) = false := decide_eq_false (by omega)
  generalize partsB s = l0 at *
  obtain ⟨rn, re⟩ := F
  simp only [] at HF
  clear hT hO hR hreal hF h1 h2 hpl hps
  go_enter Try.func35, Try.ntmps35
  go_wp2_with (first | (go_at_call 24; refine (HF.out _ HT.out).mono ?_; rintro e w2 ⟨rfl, hb2⟩) | (go_at_call 58; refine (HPA.out _).mono ?_; rintro e w3 ⟨v, rfl, ho, hb3⟩; obtain ⟨A3, c3, rfl, hk⟩ := Tk.made (p := p) ho; have HK := Aside0.mk hk; have HB3 := Lib.hid (hb2.trans (hb3.mono hb2.size)); clear ho hk hb2 hb3))
  have HB := Aside0.mk (HB3.out.alloc HB3.out.size (.cells #[pT p, .int .i64 1, .slice A3 l0.length c3, .slice none 0 0] 130))
  have hg : w.heap.size ≤ w3.heap.size := HB3.out.size
  generalize w3.alloc (.cells #[pT p, .int .i64 1, .slice A3 l0.length c3, .slice none 0 0] 130) = w4 at HK HB ⊢
  generalize w3.heap.size = g at HK hg ⊢
  have HRN := Aside0.mk (Kd.R_nil k76 76 w4 w.heap.size (fun k => k ≠ g))
  clear HB3 b1 b2 d1 d2
  go_loopg [12] kt (fun kq v12 wr => ∃ (a : Int) (l : List ByteArray) (A : Option Addr) (c : Nat) (Z : Option Addr) (zc : Nat) (hs : List HP), Aside0 (traceF T rl last kq a l hs = some R) ∧ Aside0 (Tk wr g p a l A c (.slice Z hs.length zc)) ∧ Aside0 (Kd.R k76 76 wr w.heap.size (fun k => k ≠ g) (.slice Z hs.length zc) hs) ∧ Aside0 (Below w.heap.size w wr) ∧ Aside0 (wf a) ∧ Aside0 ((hs.length : Int) ≤ 40 ∧ (l.length : Int) ≤ 100000 + 70000 * hs.length) ∧ Aside0 (∀ s ∈ l, s.size ≤ 65536))
  case atStart => exact ⟨1, l0, A3, c3, none, 0, [], HR, HK, HRN, HB, ⟨wf1⟩, ⟨by simp, by have := HL.out; simp; omega⟩, HZ⟩
  case round =>
    clear HR HK HRN HB HL HZ
    obtain ⟨a, l, A, c, Z, zc, hs, HR, HK, HH, HB, HN, HLN, HZ⟩ := hrel
    cases gk with
    | zero => exact absurd HR.out (by simp [traceF])
    | succ k1 =>
    obtain ⟨c0, c1, c2, c3⟩ := HK.out.cells
    cases l with
    | nil =>
      have hR := HR.out
      simp only [traceF, Option.some.injEq] at hR
      subst hR
      obtain ⟨A9, c9, e9, hl9, hC9⟩ := Kd.R_reads HH.out
      cases e9
      go_wp2
      go_ret3
      exact ⟨_, _, rfl, hl9, hC9, HB.out⟩
    | cons s l =>
      have hR := HR.out
      unfold traceF at hR
      have hsz : s.size ≤ 65536 := HZ.out s (by simp)
      have HNX := Lib.hid (next_calls w.heap.size w g p T a s l A c Z hs.length zc wr HT.out rfl HB.out hg HK.out HO.out HN.out hsz)
      have HND := Aside0.mk (HO.out.wf_next a s)
      have HKD := Lib.hid (fun W (h : TreeAt W p T) => kind_calls p T (nextT T a s) W h (HO.out.wf_next a s))
      have HSZ := Aside0.mk (HO.out.sz (nextT T a s))
      have HRL := Lib.hid (fun h => HREAL.out (nextT T a s) h (HO.out.wf_next a s))
      have HZ1 := Aside0.mk (show ∀ x ∈ l, x.size ≤ 65536 from fun x hx => HZ.out x (List.mem_cons_of_mem _ hx))
      have HDT := Lib.hid (show (T.node (nextT T a s)).data = (T.node (nextT T a s)).data from rfl)
      generalize nextT T a s = n at *
      have HKN := Lib.hid (show (T.node n).kind = (T.node n).kind from rfl)
      generalize hkk : (T.node n).kind = kd at hR HKD HRL
      generalize hdd : (T.node n).data = dt at hR HSZ
      have HDD := Lib.hid hdd
      clear hdd HKN HDT
      by_cases hn : n = 0
      · subst hn
        rw [if_pos rfl] at hR
        have hR := Option.some.inj hR
        subst hR
        clear HKD HRL HSZ HDD hkk
        go_upto_region 7 with (go_at_call 75; refine HNX.out.mono ?_; rintro ee w5 ⟨rfl, ⟨A5, c5, hk5⟩, hb5, hf5⟩; have HK5 := Aside0.mk hk5; have HB5 := Aside0.mk hb5; have HH5 := Aside0.mk (hops_far HH.out hf5); have HT5 := Lib.hid (HT.out.below hb5); obtain ⟨x0, x1, x2, x3⟩ := hk5.cells; clear hk5 hb5 hf5)
        obtain ⟨A9, c9, e9, hl9, hC9⟩ := Kd.R_reads HH5.out
        cases e9
        go_wp2
        go_ret3
        exact ⟨_, _, rfl, hl9, hC9, HB5.out⟩
      · rw [if_neg hn] at hR
        have bn : (n == 0) = false := beq_eq_false_iff_ne.2 hn
        clear hn hkk
        by_cases hk3 : kd = 3
        · subst hk3
          by_cases hlast : l = [] ∧ last = false
          · rw [if_pos (.inr hlast)] at hR
            obtain ⟨rfl, rfl⟩ := hlast
            have HR1 := Aside0.mk hR
            clear hR HRL
            go_wp2_with (first | (go_at_call 75; refine HNX.out.mono ?_; rintro ee w5 ⟨rfl, ⟨A5, c5, hk5⟩, hb5, hf5⟩; have HK5 := Aside0.mk hk5; have HB5 := Aside0.mk hb5; have HH5 := Aside0.mk (hops_far HH.out hf5); have HT5 := Lib.hid (HT.out.below hb5); obtain ⟨x0, x1, x2, x3⟩ := hk5.cells; clear hk5 hb5 hf5) | (go_at_call 41; refine (HKD.out _ HT5.out).mono ?_; rintro ee w6 ⟨rfl, hb6⟩; have HK6 := Aside0.mk (HK5.out.below hb6); have HB6 := Aside0.mk (HB5.out.trans (hb6.mono HB5.out.size)); have HH6 := Aside0.mk (Kd.R_below HH5.out hb6); obtain ⟨y0, y1, y2, y3⟩ := HK6.out.cells; have yf := blk_frozen HK6.out.blk 1; clear hb6))
            have hk7 := HK6.out.set1 n
            have hH7 := Kd.R_set (g := g) HH6.out HK6.out.blk (by decide) 1 (.int .i64 n)
            have hB7 : Below w.heap.size w (w6.setCell ⟨g, 1, none⟩ (.int .i64 n)) := HB6.out.setCell hg _
            generalize w6.setCell ⟨g, 1, none⟩ (.int .i64 n) = w7 at hk7 hH7 hB7 ⊢
            have HK7 := Aside0.mk hk7
            have HH7 := Aside0.mk hH7
            have HB7 := Aside0.mk hB7
            clear hk7 hH7 hB7 x0 x1 x2 x3 y0 y1 y2 y3 yf
            go_roundg k1
            case measure => exact Nat.lt_succ_self _
            case rel => exact ⟨n, _, A5, c5, Z, zc, hs, HR1, HK7, HH7, HB7, HND, ⟨HLN.out.1, by have q := HLN.out.2; simp at q ⊢; omega⟩, HZ1⟩
          · rw [if_neg (by rintro (h | h); exact h rfl; exact hlast h)] at hR
            obtain ⟨ok, hok⟩ := HRL.out rfl
            have HOK := Lib.hid hok
            clear hok HRL
            cases l with
          | nil =>
            cases last with
            | false => exact absurd ⟨rfl, rfl⟩ hlast
            | true =>
              clear hlast
              by_cases h40 : hs.length = 40
              · rw [if_pos h40] at hR
                have hR := Option.some.inj hR
                subst hR
                have H40 := Lib.hid h40
                clear h40
                go_upto_region 11 with (first | (go_at_call 75; refine HNX.out.mono ?_; rintro ee w5 ⟨rfl, ⟨A5, c5, hk5⟩, hb5, hf5⟩; have HK5 := Aside0.mk hk5; have HB5 := Aside0.mk hb5; have HH5 := Aside0.mk (hops_far HH.out hf5); have HT5 := Lib.hid (HT.out.below hb5); obtain ⟨x0, x1, x2, x3⟩ := hk5.cells; clear hk5 hb5 hf5) | (go_at_call 41; refine (HKD.out _ HT5.out).mono ?_; rintro ee w6 ⟨rfl, hb6⟩; have HK6 := Aside0.mk (HK5.out.below hb6); have HB6 := Aside0.mk (HB5.out.trans (hb6.mono HB5.out.size)); have HH6 := Aside0.mk (Kd.R_below HH5.out hb6); obtain ⟨y0, y1, y2, y3⟩ := HK6.out.cells; have yf := blk_frozen HK6.out.blk 1; clear hb6) | (go_at_call 76; refine (tfollow_full g p a n _ _ _ _ hs w.heap.size _ HK6.out HH6.out H40.out).mono ?_; rintro ee w8 ⟨rfl, rfl⟩))
                clear x0 x1 x2 x3
                obtain ⟨A9, c9, e9, hl9, hC9⟩ := Kd.R_reads HH6.out
                cases e9
                go_wp2
                go_ret3
                exact ⟨_, _, rfl, hl9, hC9, HB6.out⟩
              · rw [if_neg h40] at hR
                have HR1 := Aside0.mk hR
                have HH4 := Lib.hid (show hs.length < 40 by have := HLN.out.1; omega)
                have HLT := Lib.hid (show ([] : List ByteArray).length < 4294967281 by have q := HLN.out; simp only [List.length_cons, List.length_nil] at q ⊢; omega)
                clear hR h40
                go_wp2_with (first | (go_at_call 75; refine HNX.out.mono ?_; rintro ee w5 ⟨rfl, ⟨A5, c5, hk5⟩, hb5, hf5⟩; have HK5 := Aside0.mk hk5; have HB5 := Aside0.mk hb5; have HH5 := Aside0.mk (hops_far HH.out hf5); have HT5 := Lib.hid (HT.out.below hb5); obtain ⟨x0, x1, x2, x3⟩ := hk5.cells; clear hk5 hb5 hf5) | (go_at_call 41; refine (HKD.out _ HT5.out).mono ?_; rintro ee w6 ⟨rfl, hb6⟩; have HK6 := Aside0.mk (HK5.out.below hb6); have HB6 := Aside0.mk (HB5.out.trans (hb6.mono HB5.out.size)); have HH6 := Aside0.mk (Kd.R_below HH5.out hb6); obtain ⟨y0, y1, y2, y3⟩ := HK6.out.cells; have yf := blk_frozen HK6.out.blk 1; clear hb6) | (go_at_call 76; refine (tfollow_any w.heap.size w g p T a n _ _ _ _ hs (rl n) dt ok _ HT.out rfl HB6.out hg HK6.out HND.out HH6.out HOK.out HDD.out HSZ.out HLT.out HH4.out).mono ?_; rintro ee w8 ⟨rfl, ⟨A8, c8, Z8, zc8, hk8, hh8⟩, hb8⟩; have HK8 := Aside0.mk hk8; have HH8 := Aside0.mk hh8; have HB8 := Aside0.mk hb8; clear hk8 hh8 hb8))
                clear x0 x1 x2 x3 y0 y1 y2 y3 yf
                go_roundg k1
                case measure => exact Nat.lt_succ_self _
                case rel =>
                  have hpl := partsB_len' dt
                  have hn1 : wf (if slashB dt = true then 1 else a) := by
                    by_cases hsl : slashB dt = true
                    · rw [if_pos hsl]; exact wf1
                    · rw [if_neg hsl]; exact HN.out
                  refine ⟨_, _, A8, c8, Z8, zc8, hs ++ [⟨rl n, dt⟩], HR1, ?_, ?_, HB8, ⟨hn1⟩, ?_, ?_⟩
                  · rw [List.length_append]; exact HK8
                  · rw [List.length_append]; exact HH8
                  · refine ⟨?_, ?_⟩
                    · have := HH4.out; simp; omega
                    · have q := HLN.out.2
                      have z := HSZ.out
                      simp only [List.length_append, List.length_cons, List.length_nil] at q ⊢
                      omega
                  · exact ⟨fun x hx => by
                      rcases List.mem_append.1 hx with hx | hx
                      · exact Nat.le_trans (partsB_sz dt x hx) HSZ.out
                      · exact HZ1.out x hx⟩
          | cons x r =>
            clear hlast
            have b5 : ((r.length : Int) + 1 == 0) = false := beq_eq_false_iff_ne.2 (by omega)
            by_cases h40 : hs.length = 40
            · rw [if_pos h40] at hR
              have hR := Option.some.inj hR
              subst hR
              have H40 := Lib.hid h40
              clear h40
              go_upto_region 11 with (first | (go_at_call 75; refine HNX.out.mono ?_; rintro ee w5 ⟨rfl, ⟨A5, c5, hk5⟩, hb5, hf5⟩; have HK5 := Aside0.mk hk5; have HB5 := Aside0.mk hb5; have HH5 := Aside0.mk (hops_far HH.out hf5); have HT5 := Lib.hid (HT.out.below hb5); obtain ⟨x0, x1, x2, x3⟩ := hk5.cells; clear hk5 hb5 hf5) | (go_at_call 41; refine (HKD.out _ HT5.out).mono ?_; rintro ee w6 ⟨rfl, hb6⟩; have HK6 := Aside0.mk (HK5.out.below hb6); have HB6 := Aside0.mk (HB5.out.trans (hb6.mono HB5.out.size)); have HH6 := Aside0.mk (Kd.R_below HH5.out hb6); obtain ⟨y0, y1, y2, y3⟩ := HK6.out.cells; have yf := blk_frozen HK6.out.blk 1; clear hb6) | (go_at_call 76; refine (tfollow_full g p a n _ _ _ _ hs w.heap.size _ HK6.out HH6.out H40.out).mono ?_; rintro ee w8 ⟨rfl, rfl⟩))
              clear x0 x1 x2 x3
              obtain ⟨A9, c9, e9, hl9, hC9⟩ := Kd.R_reads HH6.out
              cases e9
              go_wp2
              go_ret3
              exact ⟨_, _, rfl, hl9, hC9, HB6.out⟩
            · rw [if_neg h40] at hR
              have HR1 := Aside0.mk hR
              have HH4 := Lib.hid (show hs.length < 40 by have := HLN.out.1; omega)
              have HLT := Lib.hid (show (x :: r : List ByteArray).length < 4294967281 by have q := HLN.out; simp only [List.length_cons, List.length_nil] at q ⊢; omega)
              clear hR h40
              go_wp2_with (first | (go_at_call 75; refine HNX.out.mono ?_; rintro ee w5 ⟨rfl, ⟨A5, c5, hk5⟩, hb5, hf5⟩; have HK5 := Aside0.mk hk5; have HB5 := Aside0.mk hb5; have HH5 := Aside0.mk (hops_far HH.out hf5); have HT5 := Lib.hid (HT.out.below hb5); obtain ⟨x0, x1, x2, x3⟩ := hk5.cells; clear hk5 hb5 hf5) | (go_at_call 41; refine (HKD.out _ HT5.out).mono ?_; rintro ee w6 ⟨rfl, hb6⟩; have HK6 := Aside0.mk (HK5.out.below hb6); have HB6 := Aside0.mk (HB5.out.trans (hb6.mono HB5.out.size)); have HH6 := Aside0.mk (Kd.R_below HH5.out hb6); obtain ⟨y0, y1, y2, y3⟩ := HK6.out.cells; have yf := blk_frozen HK6.out.blk 1; clear hb6) | (go_at_call 76; refine (tfollow_any w.heap.size w g p T a n _ _ _ _ hs (rl n) dt ok _ HT.out rfl HB6.out hg HK6.out HND.out HH6.out HOK.out HDD.out HSZ.out HLT.out HH4.out).mono ?_; rintro ee w8 ⟨rfl, ⟨A8, c8, Z8, zc8, hk8, hh8⟩, hb8⟩; have HK8 := Aside0.mk hk8; have HH8 := Aside0.mk hh8; have HB8 := Aside0.mk hb8; clear hk8 hh8 hb8))
              clear x0 x1 x2 x3 y0 y1 y2 y3 yf
              go_roundg k1
              case measure => exact Nat.lt_succ_self _
              case rel =>
                have hpl := partsB_len' dt
                have hn1 : wf (if slashB dt = true then 1 else a) := by
                  by_cases hsl : slashB dt = true
                  · rw [if_pos hsl]; exact wf1
                  · rw [if_neg hsl]; exact HN.out
                refine ⟨_, _, A8, c8, Z8, zc8, hs ++ [⟨rl n, dt⟩], HR1, ?_, ?_, HB8, ⟨hn1⟩, ?_, ?_⟩
                · rw [List.length_append]; exact HK8
                · rw [List.length_append]; exact HH8
                · refine ⟨?_, ?_⟩
                  · have := HH4.out; simp; omega
                  · have q := HLN.out.2
                    have z := HSZ.out
                    simp only [List.length_append, List.length_cons, List.length_nil] at q ⊢
                    omega
                · exact ⟨fun x hx => by
                    rcases List.mem_append.1 hx with hx | hx
                    · exact Nat.le_trans (partsB_sz dt x hx) HSZ.out
                    · exact HZ1.out x hx⟩
        · rw [if_pos (.inl hk3)] at hR
          have HR1 := Aside0.mk hR
          have b4 : (kd != 3) = true := bne_iff_ne.2 hk3
          clear hR HRL hk3
          go_wp2_with (first | (go_at_call 75; refine HNX.out.mono ?_; rintro ee w5 ⟨rfl, ⟨A5, c5, hk5⟩, hb5, hf5⟩; have HK5 := Aside0.mk hk5; have HB5 := Aside0.mk hb5; have HH5 := Aside0.mk (hops_far HH.out hf5); have HT5 := Lib.hid (HT.out.below hb5); obtain ⟨x0, x1, x2, x3⟩ := hk5.cells; clear hk5 hb5 hf5) | (go_at_call 41; refine (HKD.out _ HT5.out).mono ?_; rintro ee w6 ⟨rfl, hb6⟩; have HK6 := Aside0.mk (HK5.out.below hb6); have HB6 := Aside0.mk (HB5.out.trans (hb6.mono HB5.out.size)); have HH6 := Aside0.mk (Kd.R_below HH5.out hb6); obtain ⟨y0, y1, y2, y3⟩ := HK6.out.cells; have yf := blk_frozen HK6.out.blk 1; clear hb6))
          have hk7 := HK6.out.set1 n
          have hH7 := Kd.R_set (g := g) HH6.out HK6.out.blk (by decide) 1 (.int .i64 n)
          have hB7 : Below w.heap.size w (w6.setCell ⟨g, 1, none⟩ (.int .i64 n)) := HB6.out.setCell hg _
          generalize w6.setCell ⟨g, 1, none⟩ (.int .i64 n) = w7 at hk7 hH7 hB7 ⊢
          have HK7 := Aside0.mk hk7
          have HH7 := Aside0.mk hH7
          have HB7 := Aside0.mk hB7
          clear hk7 hH7 hB7 x0 x1 x2 x3 y0 y1 y2 y3 yf
          go_roundg k1
          case measure => exact Nat.lt_succ_self _
          case rel => exact ⟨n, _, A5, c5, Z, zc, hs, HR1, HK7, HH7, HB7, HND, ⟨HLN.out.1, by have q := HLN.out.2; simp at q ⊢; omega⟩, HZ1⟩
end Go.Proofs.Ytjfigngmpagloaa.Tw

namespace Go.Proofs.Ytjfigngmpagloaa.Tw
open Go Go.RowKit Go.Shelf Go.Proofs Go.Proofs.Ytjfigngmpagloaa Go.Proofs.YtjfigngmpagloaaW.PrintWords Go.Proofs.Ytjfigngmpagloaa.Ext Go.Proofs.Ytjfigngmpagloaa.X Go.Proofs.Ytjfigngmpagloaa.Pu
set_option linter.unusedVariables false
set_option linter.unusedSimpArgs false
def putL (L : List RN) (last d : Int) (s : ByteArray) (kind : Int) (data : ByteArray) : List RN := if putRE L d s kind data = 0 then L ++ [⟨last + 1, d, s, kind, data⟩] else L
def putN (L : List RN) (last d : Int) (s : ByteArray) (kind : Int) (data : ByteArray) : Int := if putRE L d s kind data = 0 then last + 1 else last
def putA (L : List RN) (last d : Int) (s : ByteArray) (kind : Int) (data : ByteArray) : Int := if putRE L d s kind data = 0 then last + 1 else 0
theorem tput_calls (p B : Nat) (L : List RN) (last d : Int) (s : ByteArray) (kind : Int) (data : ByteArray) (w : World) (h : TreeB w p B (trOf L last)) (hG : GoodL L last) (hn : wf d) (hs : s.size < 4294967281) (hla : last < 1000000) :
    Calls Try.prog 46 #[pT p, .int .i64 d, .string s, .int .i64 kind, .string data] w fun e w' => e = .returned (.tuple #[.int .i64 (putA L last d s kind data), .int .i64 (putRE L d s kind data)]) ∧ TreeB w' p B (trOf (putL L last d s kind data) (putN L last d s kind data)) ∧ Frm w w' p B := by
  have hl : ((trOf L last).node d).ents.length < 4294967296 := by
    rw [node_of hG]
    have := ents_len L d
    have := hG.len
    show (entsOf L d).length < _
    omega
  have hR : Rt ((trOf L last).node d).ents := by rw [node_of hG]; exact hG.rt d
  have hq := putE_eq hG d s kind data
  by_cases he : putRE L d s kind data = 0
  · refine (put_ok p B (trOf L last) d s kind data w h hn hl hR hs ⟨by have := hG.last1; show 0 ≤ last; omega, hla⟩ (by
      show ((L.find? _).map _) = none
      rw [show (trOf L last).last = last from rfl, fresh hG (show last < last + 1 by omega)]; rfl) (hq.trans he)).mono ?_
    rintro e w' ⟨rfl, hT, hf⟩
    rw [putT_eq hG he] at hT
    unfold putA putL putN
    rw [if_pos he, if_pos he, if_pos he, he]
    exact ⟨rfl, hT, hf⟩
  · refine (put_err p B (trOf L last) d s kind data w h hn hl hR hs (by rw [hq]; exact he)).mono ?_
    rintro e w' ⟨rfl, hb⟩
    unfold putA putL putN
    rw [if_neg he, if_neg he, if_neg he, hq]
    exact ⟨rfl, h.below hb, Frm.ofBelow hb⟩
theorem rput_calls (L : List RN) (last d : Int) (v : Value) (s : ByteArray) (kind : Int) (data : ByteArray) (w : World) (h : RAt w v L last) (hG : GoodL L last) (hla : last < 1000000) :
    Calls Try.prog 47 #[v, .int .i64 d, .string s, .int .i64 kind, .string data] w fun e w' => ∃ v', e = .returned (.tuple #[v', .int .i64 (putA L last d s kind data), .int .i64 (putRE L d s kind data)]) ∧ RAt w' v' (putL L last d s kind data) (putN L last d s kind data) ∧ Below w.heap.size w w' := by
  by_cases he : putRE L d s kind data = 0
  · refine (rput_ok L last v d s kind data w h ⟨by have := hG.last1; omega, hla⟩ he).mono ?_
    rintro e w' ⟨v', rfl, hT, hf⟩
    unfold putA putL putN
    rw [if_pos he, if_pos he, if_pos he, he]
    exact ⟨v', rfl, hT, hf⟩
  · refine (rput_err L last v d s kind data w h (by have := hG.len; omega) he).mono ?_
    rintro e w' ⟨rfl, hb⟩
    unfold putA putL putN
    rw [if_neg he, if_neg he, if_neg he]
    exact ⟨v, rfl, h.below hb, hb⟩
theorem good_put {L : List RN} {last d : Int} {s : ByteArray} {kind : Int} {data : ByteArray} (hG : GoodL L last) : GoodL (putL L last d s kind data) (putN L last d s kind data) := by
  unfold putL putN
  by_cases he : putRE L d s kind data = 0
  · rw [if_pos he, if_pos he]; exact hG.put he
  · rw [if_neg he, if_neg he]; exact hG
abbrev MN := S89
def dirAt (nums : List Int) (x : MN) : Int := if 0 ≤ x.f0 ∧ x.f0 < (nums.length : Int) then nums.getD x.f0.toNat 0 else 1
structure MSt where
  L : List RN
  last : Int
  nums : List Int
def madeStep (st : MSt) (x : MN) : MSt :=
  ⟨putL st.L st.last (dirAt st.nums x) x.f1 x.f2 x.f3, putN st.L st.last (dirAt st.nums x) x.f1 x.f2 x.f3, st.nums ++ [putA st.L st.last (dirAt st.nums x) x.f1 x.f2 x.f3]⟩
def made0 : MSt := ⟨[⟨1, 1, ⟨#[]⟩, 1, ⟨#[]⟩⟩], 1, []⟩
def madeF (l : List MN) : MSt := l.foldl madeStep made0
structure MInv (st : MSt) (i : Nat) : Prop where
  good : GoodL st.L st.last
  len : st.nums.length = i
  last : st.last ≤ (i : Int) + 1
  nums : ∀ n ∈ st.nums, 0 ≤ n ∧ n ≤ st.last
theorem minv0 : MInv made0 0 := ⟨good0, rfl, by decide, by simp [made0]⟩
theorem dirAt_in {st : MSt} {i : Nat} (h : MInv st i) (x : MN) : 0 ≤ dirAt st.nums x ∧ dirAt st.nums x ≤ st.last := by
  unfold dirAt
  have h1 := h.good.last1
  split
  · rename_i hx
    have hlt : x.f0.toNat < st.nums.length := by omega
    rw [List.getD_eq_getElem?_getD, List.getElem?_eq_getElem hlt]
    exact h.nums _ (List.getElem_mem hlt)
  · omega
theorem minv_step {st : MSt} {i : Nat} (h : MInv st i) (x : MN) : MInv (madeStep st x) (i + 1) := by
  have h1 := h.good.last1
  have h2 := h.last
  have hle : st.last ≤ (madeStep st x).last ∧ (madeStep st x).last ≤ st.last + 1 := by
    show st.last ≤ putN _ _ _ _ _ _ ∧ putN _ _ _ _ _ _ ≤ st.last + 1
    unfold putN
    split <;> omega
  refine ⟨good_put h.good, by show (st.nums ++ [_]).length = i + 1; rw [List.length_append, h.len]; rfl, by omega, ?_⟩
  intro n hn
  rcases List.mem_append.1 hn with hn | hn
  · have := h.nums n hn; omega
  · have hn := List.mem_singleton.1 hn
    subst hn
    have : (madeStep st x).last = putN st.L st.last (dirAt st.nums x) x.f1 x.f2 x.f3 := rfl
    rw [this] at hle ⊢
    revert hle
    unfold putN putA
    split <;> omega
end Go.Proofs.Ytjfigngmpagloaa.Tw

namespace Go.Proofs.Ytjfigngmpagloaa.Tw
open Go Go.RowKit Go.Shelf Go.Proofs Go.Proofs.Ytjfigngmpagloaa Go.Proofs.YtjfigngmpagloaaW.PrintWords Go.Proofs.Ytjfigngmpagloaa.Ext Go.Proofs.Ytjfigngmpagloaa.X Go.Proofs.Ytjfigngmpagloaa.Pu
set_option linter.unusedVariables false
set_option linter.unusedSimpArgs false
structure GoodM (L : List RN) : Prop where
  nm : ∀ r ∈ L, r.f0 ≠ 1 → Sp.check r.f2.data.toList = 0
  link : ∀ r ∈ L, r.f3 = 3 → 0 < r.f4.size
  kind : ∀ r ∈ L, 1 ≤ r.f3 ∧ r.f3 ≤ 3
  dirs : ∀ r ∈ L, r.f3 = 1 → r.f4.size = 0
  rank : ∃ d : Int → Nat, (∀ n, d n ≤ L.length) ∧ ∀ r ∈ L, r.f0 ≠ 1 → d r.f1 < d r.f0
theorem mayE_more {kind : Int} {data : ByteArray} (h : mayE kind data = 0) : (1 ≤ kind ∧ kind ≤ 3) ∧ (kind = 3 → 0 < data.size) ∧ (kind = 1 → data.size = 0) := by
  unfold mayE at h
  split at h
  · cases h
  · split at h
    · cases h
    · rename_i h1 h2
      exact ⟨by omega, by omega, by omega⟩
theorem GoodM.put {L : List RN} {last : Int} (hG : GoodL L last) (h : GoodM L) {d : Int} {s : ByteArray} {kind : Int} {data : ByteArray} (he : putRE L d s kind data = 0) : GoodM (L ++ [⟨last + 1, d, s, kind, data⟩]) := by
  obtain ⟨z1, z2, z3, z4, z5⟩ := putRE_zero he
  have hk := dirE_zero z1
  have hm := mayE_more z4
  have old : ∀ n, (atR L n).f3 = 1 → n ≤ last := by
    intro n hn
    obtain ⟨q, hq, hqn, _⟩ := at_kind (L := L) (n := n) (by rw [hn]; decide)
    have := (hG.num q hq).2
    omega
  refine ⟨?_, ?_, ?_, ?_, ?_⟩
  · intro r hr h1
    rcases List.mem_append.1 hr with hr | hr
    · exact h.nm r hr h1
    · have : r = _ := List.mem_singleton.1 hr
      subst this
      exact z2
  · intro r hr h1
    rcases List.mem_append.1 hr with hr | hr
    · exact h.link r hr h1
    · have : r = _ := List.mem_singleton.1 hr
      subst this
      exact hm.2.1 h1
  · intro r hr
    rcases List.mem_append.1 hr with hr | hr
    · exact h.kind r hr
    · have : r = _ := List.mem_singleton.1 hr
      subst this
      exact hm.1
  · intro r hr h1
    rcases List.mem_append.1 hr with hr | hr
    · exact h.dirs r hr h1
    · have : r = _ := List.mem_singleton.1 hr
      subst this
      exact hm.2.2 h1
  · obtain ⟨rk, hb, hd⟩ := h.rank
    refine ⟨fun n => if n = last + 1 then rk d + 1 else rk n, fun n => ?_, ?_⟩
    · have h1 := hb n
      have h2 := hb d
      simp only [List.length_append, List.length_singleton]
      split <;> omega
    · intro r hr h1
      rcases List.mem_append.1 hr with hr | hr
      · have h2 := (hG.num r hr).2
        have h3 := old r.f1 (hG.up r hr)
        simp only []
        rw [if_neg (by omega), if_neg (by omega)]
        exact hd r hr h1
      · have : r = _ := List.mem_singleton.1 hr
        subst this
        have h3 := old d hk
        simp only []
        rw [if_neg (by omega), if_pos trivial]
        omega
theorem goodM0 : GoodM [⟨1, 1, ⟨#[]⟩, 1, ⟨#[]⟩⟩] := by
  refine ⟨fun r hr h => ?_, fun r hr h => ?_, fun r hr => ?_, fun r hr h => ?_, ⟨fun _ => 0, fun _ => Nat.zero_le _, fun r hr h => ?_⟩⟩ <;> rw [List.mem_singleton.1 hr] at *
  · exact absurd rfl h
  · cases h
  · decide
  · rfl
  · exact absurd rfl h
theorem goodM_put {L : List RN} {last d : Int} {s : ByteArray} {kind : Int} {data : ByteArray} (hG : GoodL L last) (h : GoodM L) : GoodM (putL L last d s kind data) := by
  unfold putL
  by_cases he : putRE L d s kind data = 0
  · rw [if_pos he]; exact h.put hG he
  · rw [if_neg he]; exact h
theorem fold_good : ∀ (l : List MN) (st : MSt) (i : Nat), MInv st i → GoodM st.L → MInv (l.foldl madeStep st) (i + l.length) ∧ GoodM (l.foldl madeStep st).L
  | [], st, i, h, m => ⟨h, m⟩
  | x :: l, st, i, h, m => by
    have := fold_good l (madeStep st x) (i + 1) (minv_step h x) (goodM_put h.good m)
    rw [List.foldl_cons, List.length_cons, show i + (l.length + 1) = i + 1 + l.length by omega]
    exact this
theorem made_good (l : List MN) : GoodL (madeF l).L (madeF l).last ∧ GoodM (madeF l).L ∧ (madeF l).last ≤ (l.length : Int) + 1 ∧ (madeF l).L.length ≤ l.length + 1 := by
  have h := fold_good l made0 0 minv0 goodM0
  rw [Nat.zero_add] at h
  refine ⟨h.1.good, h.2, h.1.last, ?_⟩
  have key : ∀ (l : List MN) (st : MSt), (l.foldl madeStep st).L.length ≤ st.L.length + l.length := by
    intro l
    induction l with
    | nil => intro st; simp
    | cons x l ih =>
      intro st
      have h1 := ih (madeStep st x)
      have h2 : (madeStep st x).L.length ≤ st.L.length + 1 := by
        show (putL _ _ _ _ _ _).length ≤ _
        unfold putL
        split <;> simp
      simp only [List.foldl_cons, List.length_cons]
      omega
  have := key l made0
  have h0 : made0.L.length = 1 := rfl
  unfold madeF
  omega
theorem inR_le {L : List RN} {last : Int} (h : GoodL L last) (d : Int) (s : ByteArray) : 0 ≤ inR L d s ∧ inR L d s ≤ last := by
  unfold inR
  cases hf : L.find? (inQ d s) with
  | none => have := h.last1; exact ⟨Int.le_refl _, by show (0 : Int) ≤ last; omega⟩
  | some r =>
    have := h.num r (List.mem_of_find?_eq_some hf)
    show 0 ≤ r.f0 ∧ r.f0 ≤ last
    omega
theorem inR_mem {L : List RN} {last : Int} (h : GoodL L last) {d : Int} {s : ByteArray} (hn : inR L d s ≠ 0) : ∃ r ∈ L, r.f0 = inR L d s ∧ r.f1 = d ∧ r.f2 = s ∧ r.f0 ≠ 1 ∧ atR L (inR L d s) = r := by
  unfold inR at hn ⊢
  cases hf : L.find? (inQ d s) with
  | none => rw [hf] at hn; exact absurd rfl hn
  | some r =>
    have hr := List.mem_of_find?_eq_some hf
    have hq := List.find?_some hf
    simp only [inQ, Bool.and_eq_true, beq_iff_eq, Bool.not_eq_true', beq_eq_false_iff_ne, toL_inj] at hq
    exact ⟨r, hr, rfl, hq.1, hq.2.1, hq.2.2, at_mem h hr⟩
theorem downT_of {L : List RN} {last : Int} (h : GoodL L last) (a : Int) (s : ByteArray) :
    downT (trOf L last) a s = if Sp.check s.data.toList = 0 then (if inR L a s = 0 then (0, 5) else (inR L a s, 0)) else (0, Sp.check s.data.toList) := by
  have h1 := inR_le h a s
  unfold downT
  rw [node_of h a]
  simp only [find_ents h a s, decide_eq_true_eq]
  by_cases h0 : inR L a s = 0
  · rw [if_neg (show ¬ 0 < inR L a s by omega), if_pos h0]
  · rw [if_pos (show 0 < inR L a s by omega), if_neg h0]
end Go.Proofs.Ytjfigngmpagloaa.Tw

namespace Go.Proofs.Ytjfigngmpagloaa.Tw
open Go Go.RowKit Go.Shelf Go.Proofs Go.Proofs.Ytjfigngmpagloaa Go.Proofs.YtjfigngmpagloaaW.PrintWords Go.Proofs.Ytjfigngmpagloaa.Ext Go.Proofs.Ytjfigngmpagloaa.X Go.Proofs.Ytjfigngmpagloaa.Pu
set_option linter.unusedVariables false
set_option linter.unusedSimpArgs false

abbrev R3 := Int × ByteArray × Int
def noS (e : Int) : R3 := (0, ⟨#[]⟩, e)
end Go.Proofs.Ytjfigngmpagloaa.Tw
