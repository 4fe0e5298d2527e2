/- Printed by a program of this session (a turned copy of the kit's print): each Go function as a Lean function, and the proof that the call does just that. -/
import Derived.Test.YtocpdhbkfgolfaaDoorX0
import Derived.Test.YtocpdhbkfgolfaaDoorX16
namespace Go.Proofs.YtocpdhbkfgolfaaDoor.Ext
end Go.Proofs.YtocpdhbkfgolfaaDoor.Ext
namespace Go.Proofs.YtocpdhbkfgolfaaDoor.X
open Go.RowKit Go.Proofs.YtocpdhbkfgolfaaDoorW.PrintWords Go.Proofs.YtocpdhbkfgolfaaDoorW.PrintLast Go.Proofs.YtocpdhbkfgolfaaDoorW.PrintMore Go.Proofs.YtocpdhbkfgolfaaDoor.Ext
attribute [local go_sem] max2_int min2_int max_two min_two max_three min_three max_four min_four   -- for this text's walks alone
set_option linter.unusedVariables false
set_option linter.unusedSimpArgs false

/-! ### linhayref19_verb: function 48 -/
def linhayref19_verb.f (a0 : Int) : Option (ByteArray) := if a0 = 1 then (some (⟨#[109, 107, 100, 105, 114]⟩ : ByteArray)) else (if a0 = 2 then (some (⟨#[114, 109, 100, 105, 114]⟩ : ByteArray)) else (if a0 = 3 then (some (⟨#[108, 105, 110, 107]⟩ : ByteArray)) else (if a0 = 4 then (some (⟨#[117, 110, 108, 105, 110, 107]⟩ : ByteArray)) else (if a0 = 5 then (some (⟨#[109, 111, 118, 101]⟩ : ByteArray)) else (some (⟨#[119, 114, 105, 116, 101]⟩ : ByteArray))))))
set_option maxHeartbeats 8000000 in
set_option maxRecDepth 100000 in
theorem linhayref19_verb.calls (a0 : Int) (r : ByteArray) (w : World) (h : linhayref19_verb.f a0 = some r) :
  Calls Tryd.prog 48 #[.int .i64 a0] w fun e w' => e = .returned (.string r) ∧ Drawn0 w w' := by
 have H : (if a0 = 1 then (some (⟨#[109, 107, 100, 105, 114]⟩ : ByteArray)) else (if a0 = 2 then (some (⟨#[114, 109, 100, 105, 114]⟩ : ByteArray)) else (if a0 = 3 then (some (⟨#[108, 105, 110, 107]⟩ : ByteArray)) else (if a0 = 4 then (some (⟨#[117, 110, 108, 105, 110, 107]⟩ : ByteArray)) else (if a0 = 5 then (some (⟨#[109, 111, 118, 101]⟩ : ByteArray)) else (some (⟨#[119, 114, 105, 116, 101]⟩ : ByteArray))))))) = some r := h
 clear h
 by_cases c2 : a0 = 1
 ·
  rw [if_pos c2] at H
  have c2b0 : (a0 == 1) = true := beq_iff_eq.mpr c2
  have c2b1 : (a0 != 1) = false := bne_eq_false_iff_eq.mpr c2
  clear c2
  obtain rfl := Option.some.inj H
  go_enter Tryd.func48, Tryd.ntmps48
  go_wp2
  go_ret
  exact ⟨by first | rfl | (simp; done) | (simp [*]; done), by repeat (first | exact Drawn0.refl _ | apply Drawn0.step)⟩
 ·
  rw [if_neg c2] at H
  have c2b0 : (a0 == 1) = false := beq_eq_false_iff_ne.mpr c2
  have c2b1 : (a0 != 1) = true := bne_iff_ne.mpr c2
  by_cases c3 : a0 = 2
  ·
   rw [if_pos c3] at H
   have c3b0 : (a0 == 2) = true := beq_iff_eq.mpr c3
   have c3b1 : (a0 != 2) = false := bne_eq_false_iff_eq.mpr c3
   clear c3
   obtain rfl := Option.some.inj H
   go_enter Tryd.func48, Tryd.ntmps48
   go_wp2
   go_ret
   exact ⟨by first | rfl | (simp; done) | (simp [*]; done), by repeat (first | exact Drawn0.refl _ | apply Drawn0.step)⟩
  ·
   rw [if_neg c3] at H
   have c3b0 : (a0 == 2) = false := beq_eq_false_iff_ne.mpr c3
   have c3b1 : (a0 != 2) = true := bne_iff_ne.mpr c3
   by_cases c4 : a0 = 3
   ·
    rw [if_pos c4] at H
    have c4b0 : (a0 == 3) = true := beq_iff_eq.mpr c4
    have c4b1 : (a0 != 3) = false := bne_eq_false_iff_eq.mpr c4
    clear c4
    obtain rfl := Option.some.inj H
    go_enter Tryd.func48, Tryd.ntmps48
    go_wp2
    go_ret
    exact ⟨by first | rfl | (simp; done) | (simp [*]; done), by repeat (first | exact Drawn0.refl _ | apply Drawn0.step)⟩
   ·
    rw [if_neg c4] at H
    have c4b0 : (a0 == 3) = false := beq_eq_false_iff_ne.mpr c4
    have c4b1 : (a0 != 3) = true := bne_iff_ne.mpr c4
    by_cases c5 : a0 = 4
    ·
     rw [if_pos c5] at H
     have c5b0 : (a0 == 4) = true := beq_iff_eq.mpr c5
     have c5b1 : (a0 != 4) = false := bne_eq_false_iff_eq.mpr c5
     clear c5
     obtain rfl := Option.some.inj H
     go_enter Tryd.func48, Tryd.ntmps48
     go_wp2
     go_ret
     exact ⟨by first | rfl | (simp; done) | (simp [*]; done), by repeat (first | exact Drawn0.refl _ | apply Drawn0.step)⟩
    ·
     rw [if_neg c5] at H
     have c5b0 : (a0 == 4) = false := beq_eq_false_iff_ne.mpr c5
     have c5b1 : (a0 != 4) = true := bne_iff_ne.mpr c5
     by_cases c6 : a0 = 5
     ·
      rw [if_pos c6] at H
      have c6b0 : (a0 == 5) = true := beq_iff_eq.mpr c6
      have c6b1 : (a0 != 5) = false := bne_eq_false_iff_eq.mpr c6
      clear c6
      obtain rfl := Option.some.inj H
      go_enter Tryd.func48, Tryd.ntmps48
      go_wp2
      go_ret
      exact ⟨by first | rfl | (simp; done) | (simp [*]; done), by repeat (first | exact Drawn0.refl _ | apply Drawn0.step)⟩
     ·
      rw [if_neg c6] at H
      have c6b0 : (a0 == 5) = false := beq_eq_false_iff_ne.mpr c6
      have c6b1 : (a0 != 5) = true := bne_iff_ne.mpr c6
      obtain rfl := Option.some.inj H
      go_enter Tryd.func48, Tryd.ntmps48
      go_wp2
      go_ret
      exact ⟨by first | rfl | (simp; done) | (simp [*]; done), by repeat (first | exact Drawn0.refl _ | apply Drawn0.step)⟩

/-! ### linhayref19_Parse: function 20 -/
mutual
def linhayref19_Parse.l0 : Nat → List ByteArray → Int → Option (Int × ByteArray × ByteArray × Int)
  | 0, _, _ => none
  | k + 1, x4, x5 => if x5 ≤ 6 then (if x5 = 3 then (linhayref19_Parse.j1 k x4 x5 2 true) else (linhayref19_Parse.j1 k x4 x5 2 (decide (x5 ≥ 5)))) else (some (0, (⟨#[]⟩ : ByteArray), (⟨#[]⟩ : ByteArray), 3))
def linhayref19_Parse.j1 : Nat → List ByteArray → Int → Int → Bool → Option (Int × ByteArray × ByteArray × Int)
  | 0, _, _, _, _ => none
  | k + 1, x4, x5, x6, x23 => if x23 = true then (linhayref19_Parse.j2 k x4 x5 3) else (linhayref19_Parse.j2 k x4 x5 x6)
def linhayref19_Parse.j2 : Nat → List ByteArray → Int → Int → Option (Int × ByteArray × ByteArray × Int)
  | 0, _, _, _ => none
  | k + 1, x4, x5, x6 => if 0 < (x4.length : Int) then ((linhayref19_verb.f x5).bind fun t344 => (if (rdOf ByteArray.empty x4 0).toList = t344.toList then (linhayref19_Parse.j3 k x4 x5 x6 ((x4.length : Int) != x6)) else (linhayref19_Parse.j3 k x4 x5 x6 true))) else (none)
def linhayref19_Parse.j3 : Nat → List ByteArray → Int → Int → Bool → Option (Int × ByteArray × ByteArray × Int)
  | 0, _, _, _, _ => none
  | k + 1, x4, x5, x6, x35 => if x35 = true then (linhayref19_Parse.l0 k x4 (wrap64 (x5 + 1))) else (if 1 < (x4.length : Int) then ((linhayref19_Bare.f k (rdOf ByteArray.empty x4 1)).bind fun bt347 => (if x6 = 3 then (if 2 < (x4.length : Int) then ((linhayref19_Bare.f k (rdOf ByteArray.empty x4 2)).bind fun bt350 => (linhayref19_Parse.j4 k bt347.1 bt347.2 bt350.1 bt350.2 x5 (⟨#[]⟩ : ByteArray) (⟨#[]⟩ : ByteArray))) else (none)) else (linhayref19_Parse.j4 k bt347.1 bt347.2 (⟨#[]⟩ : ByteArray) true x5 (⟨#[]⟩ : ByteArray) (⟨#[]⟩ : ByteArray)))) else (none))
def linhayref19_Parse.j4 : Nat → ByteArray → Bool → ByteArray → Bool → Int → ByteArray → ByteArray → Option (Int × ByteArray × ByteArray × Int)
  | 0, _, _, _, _, _, _, _ => none
  | k + 1, x8, x9, x10, x11, x346000, x346001, x346002 => if x9 = true then (linhayref19_Parse.j5 k x8 x10 (!x11) x346000 x346001 x346002) else (linhayref19_Parse.j5 k x8 x10 true x346000 x346001 x346002)
def linhayref19_Parse.j5 : Nat → ByteArray → ByteArray → Bool → Int → ByteArray → ByteArray → Option (Int × ByteArray × ByteArray × Int)
  | 0, _, _, _, _, _, _ => none
  | k + 1, x8, x10, x59, x346000, x346001, x346002 => if x59 = true then (some (0, (⟨#[]⟩ : ByteArray), (⟨#[]⟩ : ByteArray), 3)) else ((linhayref19_Right.f k x346000 x8 x10).bind fun t352 => (if t352 = true then (some (x346000, x8, x10, 0)) else (some (0, (⟨#[]⟩ : ByteArray), (⟨#[]⟩ : ByteArray), 2))))
end
def linhayref19_Parse.f (k : Nat) (a0 : ByteArray) : Option (Int × ByteArray × ByteArray × Int) := (linhayref19_parts.f k a0).bind fun t340 => (linhayref19_Parse.l0 k t340 1)
theorem linhayref19_Parse.mono_l : ∀ k, (∀ y0 y1, LeO (linhayref19_Parse.l0 k y0 y1) (linhayref19_Parse.l0 (k + 1) y0 y1)) ∧ (∀ y0 y1 y2 y3, LeO (linhayref19_Parse.j1 k y0 y1 y2 y3) (linhayref19_Parse.j1 (k + 1) y0 y1 y2 y3)) ∧ (∀ y0 y1 y2, LeO (linhayref19_Parse.j2 k y0 y1 y2) (linhayref19_Parse.j2 (k + 1) y0 y1 y2)) ∧ (∀ y0 y1 y2 y3, LeO (linhayref19_Parse.j3 k y0 y1 y2 y3) (linhayref19_Parse.j3 (k + 1) y0 y1 y2 y3)) ∧ (∀ y0 y1 y2 y3 y4 y5 y6, LeO (linhayref19_Parse.j4 k y0 y1 y2 y3 y4 y5 y6) (linhayref19_Parse.j4 (k + 1) y0 y1 y2 y3 y4 y5 y6)) ∧ (∀ y0 y1 y2 y3 y4 y5, LeO (linhayref19_Parse.j5 k y0 y1 y2 y3 y4 y5) (linhayref19_Parse.j5 (k + 1) y0 y1 y2 y3 y4 y5))
 | 0 => ⟨fun _ _ r h => by simp [linhayref19_Parse.l0] at h, fun _ _ _ _ r h => by simp [linhayref19_Parse.j1] at h, fun _ _ _ r h => by simp [linhayref19_Parse.j2] at h, fun _ _ _ _ r h => by simp [linhayref19_Parse.j3] at h, fun _ _ _ _ _ _ _ r h => by simp [linhayref19_Parse.j4] at h, fun _ _ _ _ _ _ r h => by simp [linhayref19_Parse.j5] at h⟩
 | k + 1 => by
  obtain ⟨ih0, ih1, ih2, ih3, ih4, ih5⟩ := linhayref19_Parse.mono_l k
  refine ⟨?_, ?_, ?_, ?_, ?_, ?_⟩
  ·
   intro y0 y1
   unfold linhayref19_Parse.l0
   repeat' first
   | (with_reducible exact ih0 _ _)
   | (with_reducible exact ih1 _ _ _ _)
   | (with_reducible exact ih2 _ _ _)
   | (with_reducible exact ih3 _ _ _ _)
   | (with_reducible exact ih4 _ _ _ _ _ _ _)
   | (with_reducible exact ih5 _ _ _ _ _ _)
   | (with_reducible exact linhayref19_Bare.mono _ _)
   | (with_reducible exact linhayref19_Right.mono _ _ _ _)
   | (with_reducible exact linhayref19_parts.mono _ _)
   | (with_reducible exact LeO.refl _)
   | (with_reducible exact LeO.none _)
   | (with_reducible refine LeO.ite ?_ ?_)
   | (with_reducible refine LeO.bind ?_ (fun _ => ?_))
   | exact ih0 _ _
   | exact ih1 _ _ _ _
   | exact ih2 _ _ _
   | exact ih3 _ _ _ _
   | exact ih4 _ _ _ _ _ _ _
   | exact ih5 _ _ _ _ _ _
   | exact linhayref19_Bare.mono _ _
   | exact linhayref19_Right.mono _ _ _ _
   | exact linhayref19_parts.mono _ _
   | exact LeO.none _
   | refine LeO.ite ?_ ?_
   | refine LeO.bind ?_ (fun _ => ?_)
  ·
   intro y0 y1 y2 y3
   unfold linhayref19_Parse.j1
   repeat' first
   | (with_reducible exact ih0 _ _)
   | (with_reducible exact ih1 _ _ _ _)
   | (with_reducible exact ih2 _ _ _)
   | (with_reducible exact ih3 _ _ _ _)
   | (with_reducible exact ih4 _ _ _ _ _ _ _)
   | (with_reducible exact ih5 _ _ _ _ _ _)
   | (with_reducible exact linhayref19_Bare.mono _ _)
   | (with_reducible exact linhayref19_Right.mono _ _ _ _)
   | (with_reducible exact linhayref19_parts.mono _ _)
   | (with_reducible exact LeO.refl _)
   | (with_reducible exact LeO.none _)
   | (with_reducible refine LeO.ite ?_ ?_)
   | (with_reducible refine LeO.bind ?_ (fun _ => ?_))
   | exact ih0 _ _
   | exact ih1 _ _ _ _
   | exact ih2 _ _ _
   | exact ih3 _ _ _ _
   | exact ih4 _ _ _ _ _ _ _
   | exact ih5 _ _ _ _ _ _
   | exact linhayref19_Bare.mono _ _
   | exact linhayref19_Right.mono _ _ _ _
   | exact linhayref19_parts.mono _ _
   | exact LeO.none _
   | refine LeO.ite ?_ ?_
   | refine LeO.bind ?_ (fun _ => ?_)
  ·
   intro y0 y1 y2
   unfold linhayref19_Parse.j2
   repeat' first
   | (with_reducible exact ih0 _ _)
   | (with_reducible exact ih1 _ _ _ _)
   | (with_reducible exact ih2 _ _ _)
   | (with_reducible exact ih3 _ _ _ _)
   | (with_reducible exact ih4 _ _ _ _ _ _ _)
   | (with_reducible exact ih5 _ _ _ _ _ _)
   | (with_reducible exact linhayref19_Bare.mono _ _)
   | (with_reducible exact linhayref19_Right.mono _ _ _ _)
   | (with_reducible exact linhayref19_parts.mono _ _)
   | (with_reducible exact LeO.refl _)
   | (with_reducible exact LeO.none _)
   | (with_reducible refine LeO.ite ?_ ?_)
   | (with_reducible refine LeO.bind ?_ (fun _ => ?_))
   | exact ih0 _ _
   | exact ih1 _ _ _ _
   | exact ih2 _ _ _
   | exact ih3 _ _ _ _
   | exact ih4 _ _ _ _ _ _ _
   | exact ih5 _ _ _ _ _ _
   | exact linhayref19_Bare.mono _ _
   | exact linhayref19_Right.mono _ _ _ _
   | exact linhayref19_parts.mono _ _
   | exact LeO.none _
   | refine LeO.ite ?_ ?_
   | refine LeO.bind ?_ (fun _ => ?_)
  ·
   intro y0 y1 y2 y3
   unfold linhayref19_Parse.j3
   repeat' first
   | (with_reducible exact ih0 _ _)
   | (with_reducible exact ih1 _ _ _ _)
   | (with_reducible exact ih2 _ _ _)
   | (with_reducible exact ih3 _ _ _ _)
   | (with_reducible exact ih4 _ _ _ _ _ _ _)
   | (with_reducible exact ih5 _ _ _ _ _ _)
   | (with_reducible exact linhayref19_Bare.mono _ _)
   | (with_reducible exact linhayref19_Right.mono _ _ _ _)
   | (with_reducible exact linhayref19_parts.mono _ _)
   | (with_reducible exact LeO.refl _)
   | (with_reducible exact LeO.none _)
   | (with_reducible refine LeO.ite ?_ ?_)
   | (with_reducible refine LeO.bind ?_ (fun _ => ?_))
   | exact ih0 _ _
   | exact ih1 _ _ _ _
   | exact ih2 _ _ _
   | exact ih3 _ _ _ _
   | exact ih4 _ _ _ _ _ _ _
   | exact ih5 _ _ _ _ _ _
   | exact linhayref19_Bare.mono _ _
   | exact linhayref19_Right.mono _ _ _ _
   | exact linhayref19_parts.mono _ _
   | exact LeO.none _
   | refine LeO.ite ?_ ?_
   | refine LeO.bind ?_ (fun _ => ?_)
  ·
   intro y0 y1 y2 y3 y4 y5 y6
   unfold linhayref19_Parse.j4
   repeat' first
   | (with_reducible exact ih0 _ _)
   | (with_reducible exact ih1 _ _ _ _)
   | (with_reducible exact ih2 _ _ _)
   | (with_reducible exact ih3 _ _ _ _)
   | (with_reducible exact ih4 _ _ _ _ _ _ _)
   | (with_reducible exact ih5 _ _ _ _ _ _)
   | (with_reducible exact linhayref19_Bare.mono _ _)
   | (with_reducible exact linhayref19_Right.mono _ _ _ _)
   | (with_reducible exact linhayref19_parts.mono _ _)
   | (with_reducible exact LeO.refl _)
   | (with_reducible exact LeO.none _)
   | (with_reducible refine LeO.ite ?_ ?_)
   | (with_reducible refine LeO.bind ?_ (fun _ => ?_))
   | exact ih0 _ _
   | exact ih1 _ _ _ _
   | exact ih2 _ _ _
   | exact ih3 _ _ _ _
   | exact ih4 _ _ _ _ _ _ _
   | exact ih5 _ _ _ _ _ _
   | exact linhayref19_Bare.mono _ _
   | exact linhayref19_Right.mono _ _ _ _
   | exact linhayref19_parts.mono _ _
   | exact LeO.none _
   | refine LeO.ite ?_ ?_
   | refine LeO.bind ?_ (fun _ => ?_)
  ·
   intro y0 y1 y2 y3 y4 y5
   unfold linhayref19_Parse.j5
   repeat' first
   | (with_reducible exact ih0 _ _)
   | (with_reducible exact ih1 _ _ _ _)
   | (with_reducible exact ih2 _ _ _)
   | (with_reducible exact ih3 _ _ _ _)
   | (with_reducible exact ih4 _ _ _ _ _ _ _)
   | (with_reducible exact ih5 _ _ _ _ _ _)
   | (with_reducible exact linhayref19_Bare.mono _ _)
   | (with_reducible exact linhayref19_Right.mono _ _ _ _)
   | (with_reducible exact linhayref19_parts.mono _ _)
   | (with_reducible exact LeO.refl _)
   | (with_reducible exact LeO.none _)
   | (with_reducible refine LeO.ite ?_ ?_)
   | (with_reducible refine LeO.bind ?_ (fun _ => ?_))
   | exact ih0 _ _
   | exact ih1 _ _ _ _
   | exact ih2 _ _ _
   | exact ih3 _ _ _ _
   | exact ih4 _ _ _ _ _ _ _
   | exact ih5 _ _ _ _ _ _
   | exact linhayref19_Bare.mono _ _
   | exact linhayref19_Right.mono _ _ _ _
   | exact linhayref19_parts.mono _ _
   | exact LeO.none _
   | refine LeO.ite ?_ ?_
   | refine LeO.bind ?_ (fun _ => ?_)
theorem linhayref19_Parse.mono : ∀ a0 k, LeO (linhayref19_Parse.f k a0) (linhayref19_Parse.f (k + 1) a0) := by
 intro a0 k
 obtain ⟨ih0, ih1, ih2, ih3, ih4, ih5⟩ := linhayref19_Parse.mono_l k
 unfold linhayref19_Parse.f
 repeat' first
   | (with_reducible exact ih0 _ _)
   | (with_reducible exact ih1 _ _ _ _)
   | (with_reducible exact ih2 _ _ _)
   | (with_reducible exact ih3 _ _ _ _)
   | (with_reducible exact ih4 _ _ _ _ _ _ _)
   | (with_reducible exact ih5 _ _ _ _ _ _)
   | (with_reducible exact linhayref19_Bare.mono _ _)
   | (with_reducible exact linhayref19_Right.mono _ _ _ _)
   | (with_reducible exact linhayref19_parts.mono _ _)
   | (with_reducible exact LeO.refl _)
   | (with_reducible exact LeO.none _)
   | (with_reducible refine LeO.ite ?_ ?_)
   | (with_reducible refine LeO.bind ?_ (fun _ => ?_))
   | exact ih0 _ _
   | exact ih1 _ _ _ _
   | exact ih2 _ _ _
   | exact ih3 _ _ _ _
   | exact ih4 _ _ _ _ _ _ _
   | exact ih5 _ _ _ _ _ _
   | exact linhayref19_Bare.mono _ _
   | exact linhayref19_Right.mono _ _ _ _
   | exact linhayref19_parts.mono _ _
   | exact LeO.none _
   | refine LeO.ite ?_ ?_
   | refine LeO.bind ?_ (fun _ => ?_)
set_option maxHeartbeats 8000000 in
set_option maxRecDepth 100000 in
theorem linhayref19_Parse.calls (k : Nat) (a0 : ByteArray) (r1 : Int) (r2 : ByteArray) (r3 : ByteArray) (r4 : Int) (w : World) (h : linhayref19_Parse.f k a0 = some (r1, r2, r3, r4)) :
  Calls Tryd.prog 20 #[.string a0] w fun e w' => e = .returned (.tuple #[.agg #[.int .i64 r1, .string r2, .string r3], .int .i64 r4]) ∧ Below w.heap.size w w' := by
 have hu35 := Tryd.underlying35
 have HB := Aside0.mk (Below.refl w.heap.size w)
 have H : ((linhayref19_parts.f k a0).bind fun t340 => (linhayref19_Parse.l0 k t340 1)) = some (r1, r2, r3, r4) := h
 clear h
 replace H := Option.bind_eq_some_iff.mp H
 obtain ⟨t340, A20, H⟩ := H
 replace H : (linhayref19_Parse.l0 k t340 1) = some (r1, r2, r3, r4) := H
 have A2 := Aside0.mk A20
 clear A20
 have H' := Aside0.mk H
 clear H
 go_enter Tryd.func20, Tryd.ntmps20
 go_wp2_with (first | ((with_reducible refine gate_dst (N := 2) rfl ?_); (try (refine gate_guard (by rfl) ?_; dsimp only)); refine box_event ?hg (N := 2) ?hd (cs := #[.int .i64 0, .string (⟨#[]⟩ : ByteArray), .string (⟨#[]⟩ : ByteArray)]) (t := 35) ?hr ?_; (case hd => rfl); (case hg => rfl); (case hr => first | (go_simp; done) | (go_simp; rfl)); intro gb339 hg w3 hbox hb; have n0_ := Aside0.mk (below_step (by repeat (first | (with_reducible first | exact HB.out | apply below_alloc | apply pw_below_drewN | apply below_drew1) | exact HB.out)) hb); have n1_ := Aside0.mk (hbox); have n2_ := Aside0.mk ((by rw [hg]; exact (below_size (by repeat (first | (with_reducible first | exact HB.out | apply below_alloc | apply pw_below_drewN | apply below_drew1) | exact HB.out))) : w.heap.size ≤ gb339)); have n3_ := Aside0.mk ((by rw [hg]; exact (below_size (by repeat (first | (with_reducible first | exact HB.out | apply below_alloc | apply pw_below_drewN | apply below_drew1) | exact HB.out))) : w.heap.size ≤ gb339)); clear HB; have HB := n0_; have BK339 := n1_; have GW339 := n2_; have GE339 := n3_; clear n0_ n1_ n2_ n3_; clear hb hbox hg) | (go_at_call 47; (with_reducible refine (linhayref19_parts.calls k a0 t340 _ A2.out).mono ?_); rintro e w4 ⟨v341, rfl, ho0, hb⟩; have n0_ := Aside0.mk (Kd.R_lower ho0 (below_size (by repeat (first | (with_reducible first | exact HB.out | apply below_alloc | apply pw_below_drewN | apply below_drew1 | refine below_set ?_ GE339.out) | exact HB.out)))); have n1_ := Aside0.mk (blk_below (g := gb339) (o := .cells #[.int .i64 0, .string (⟨#[]⟩ : ByteArray), .string (⟨#[]⟩ : ByteArray)] 35 (0, 0)) (by (with_reducible repeat (first | refine blk_drewN ?_ _ | refine blk_drew ?_ | refine blk_alloc ?_ _)); exact BK339.out) hb); have n2_ := Aside0.mk (below_step (by repeat (first | (with_reducible first | exact HB.out | apply below_alloc | apply pw_below_drewN | apply below_drew1 | refine below_set ?_ GE339.out) | exact HB.out)) hb); clear BK339; clear HB; have HO342 := n0_; have BK339 := n1_; have HB := n2_; clear n0_ n1_ n2_; (try clear hb); (try clear hb2); (try clear hk); (try clear hi); (try clear ho0)))
 repeat (go_quiet (first | ((with_reducible refine gate_dst (N := 2) rfl ?_); (try (refine gate_guard (by rfl) ?_; dsimp only)); refine box_event ?hg (N := 2) ?hd (cs := #[.int .i64 0, .string (⟨#[]⟩ : ByteArray), .string (⟨#[]⟩ : ByteArray)]) (t := 35) ?hr ?_; (case hd => rfl); (case hg => rfl); (case hr => first | (go_simp; done) | (go_simp; rfl)); intro gb339 hg w3 hbox hb; have n0_ := Aside0.mk (below_step (by repeat (first | (with_reducible first | exact HB.out | apply below_alloc | apply pw_below_drewN | apply below_drew1) | exact HB.out)) hb); have n1_ := Aside0.mk (hbox); have n2_ := Aside0.mk ((by rw [hg]; exact (below_size (by repeat (first | (with_reducible first | exact HB.out | apply below_alloc | apply pw_below_drewN | apply below_drew1) | exact HB.out))) : w.heap.size ≤ gb339)); have n3_ := Aside0.mk ((by rw [hg]; exact (below_size (by repeat (first | (with_reducible first | exact HB.out | apply below_alloc | apply pw_below_drewN | apply below_drew1) | exact HB.out))) : w.heap.size ≤ gb339)); clear HB; have HB := n0_; have BK339 := n1_; have GW339 := n2_; have GE339 := n3_; clear n0_ n1_ n2_ n3_; clear hb hbox hg) | (go_at_call 47; (with_reducible refine (linhayref19_parts.calls k a0 t340 _ A2.out).mono ?_); rintro e w4 ⟨v341, rfl, ho0, hb⟩; have n0_ := Aside0.mk (Kd.R_lower ho0 (below_size (by repeat (first | (with_reducible first | exact HB.out | apply below_alloc | apply pw_below_drewN | apply below_drew1 | refine below_set ?_ GE339.out) | exact HB.out)))); have n1_ := Aside0.mk (blk_below (g := gb339) (o := .cells #[.int .i64 0, .string (⟨#[]⟩ : ByteArray), .string (⟨#[]⟩ : ByteArray)] 35 (0, 0)) (by (with_reducible repeat (first | refine blk_drewN ?_ _ | refine blk_drew ?_ | refine blk_alloc ?_ _)); exact BK339.out) hb); have n2_ := Aside0.mk (below_step (by repeat (first | (with_reducible first | exact HB.out | apply below_alloc | apply pw_below_drewN | apply below_drew1 | refine below_set ?_ GE339.out) | exact HB.out)) hb); clear BK339; clear HB; have HO342 := n0_; have BK339 := n1_; have HB := n2_; clear n0_ n1_ n2_; (try clear hb); (try clear hb2); (try clear hk); (try clear hi); (try clear ho0))); try go_wp2_with (first | ((with_reducible refine gate_dst (N := 2) rfl ?_); (try (refine gate_guard (by rfl) ?_; dsimp only)); refine box_event ?hg (N := 2) ?hd (cs := #[.int .i64 0, .string (⟨#[]⟩ : ByteArray), .string (⟨#[]⟩ : ByteArray)]) (t := 35) ?hr ?_; (case hd => rfl); (case hg => rfl); (case hr => first | (go_simp; done) | (go_simp; rfl)); intro gb339 hg w3 hbox hb; have n0_ := Aside0.mk (below_step (by repeat (first | (with_reducible first | exact HB.out | apply below_alloc | apply pw_below_drewN | apply below_drew1) | exact HB.out)) hb); have n1_ := Aside0.mk (hbox); have n2_ := Aside0.mk ((by rw [hg]; exact (below_size (by repeat (first | (with_reducible first | exact HB.out | apply below_alloc | apply pw_below_drewN | apply below_drew1) | exact HB.out))) : w.heap.size ≤ gb339)); have n3_ := Aside0.mk ((by rw [hg]; exact (below_size (by repeat (first | (with_reducible first | exact HB.out | apply below_alloc | apply pw_below_drewN | apply below_drew1) | exact HB.out))) : w.heap.size ≤ gb339)); clear HB; have HB := n0_; have BK339 := n1_; have GW339 := n2_; have GE339 := n3_; clear n0_ n1_ n2_ n3_; clear hb hbox hg) | (go_at_call 47; (with_reducible refine (linhayref19_parts.calls k a0 t340 _ A2.out).mono ?_); rintro e w4 ⟨v341, rfl, ho0, hb⟩; have n0_ := Aside0.mk (Kd.R_lower ho0 (below_size (by repeat (first | (with_reducible first | exact HB.out | apply below_alloc | apply pw_below_drewN | apply below_drew1 | refine below_set ?_ GE339.out) | exact HB.out)))); have n1_ := Aside0.mk (blk_below (g := gb339) (o := .cells #[.int .i64 0, .string (⟨#[]⟩ : ByteArray), .string (⟨#[]⟩ : ByteArray)] 35 (0, 0)) (by (with_reducible repeat (first | refine blk_drewN ?_ _ | refine blk_drew ?_ | refine blk_alloc ?_ _)); exact BK339.out) hb); have n2_ := Aside0.mk (below_step (by repeat (first | (with_reducible first | exact HB.out | apply below_alloc | apply pw_below_drewN | apply below_drew1 | refine below_set ?_ GE339.out) | exact HB.out)) hb); clear BK339; clear HB; have HO342 := n0_; have BK339 := n1_; have HB := n2_; clear n0_ n1_ n2_; (try clear hb); (try clear hb2); (try clear hk); (try clear hi); (try clear ho0))))
 go_loopg [5] k (fun kq v5 w' => ∃ (x5_1 : Int) (x340000_1 : Int) (x340001_1 : ByteArray) (x340002_1 : ByteArray), v5 = .int .i64 x5_1 ∧ Aside0 (linhayref19_Parse.l0 kq t340 x5_1 = some (r1, r2, r3, r4)) ∧ Aside0 (kq ≤ k) ∧ Aside0 (Kd.R Kd.string 9 w' w.heap.size (fun _ => True) v341 t340) ∧ Aside0 (w'.heap[gb339]? = some (.cells #[.int .i64 x340000_1, .string x340001_1, .string x340002_1] 35 (0, 0))) ∧ Aside0 (Below w.heap.size w w'))
 case atStart => exact ⟨(1), (0), ((⟨#[]⟩ : ByteArray)), ((⟨#[]⟩ : ByteArray)), (by first | rfl | (simp; done) | (simp [*]; done)), H', ⟨Nat.le_refl _⟩, ⟨by (with_reducible repeat (first | apply Kd.R_alloc | apply Kd.R_drewN | apply Kd.R_drew)); first | exact HO342.out | exact own_cut HO342.out⟩, ⟨by (with_reducible repeat (first | refine blk_drewN ?_ _ | refine blk_drew ?_ | refine blk_alloc ?_ _)); exact BK339.out⟩, ⟨by repeat (first | (with_reducible first | exact HB.out | apply below_alloc | apply pw_below_drewN | apply below_drew1 | refine below_set ?_ GE339.out) | exact HB.out)⟩⟩
 case round =>
  clear H'
  try clear c2
  try clear p2
  obtain ⟨x5_1, x340000_1, x340001_1, x340002_1, rfl, HA, HK1, HO_4, BK339, HB⟩ := hrel
  cases gk with
  | zero => exact absurd HA.out (by simp [linhayref19_Parse.l0])
  | succ k1 =>
   have H := HA.out
   clear HA
   simp only [linhayref19_Parse.l0] at H
   by_cases c5 : x5_1 ≤ 6
   ·
    rw [if_pos c5] at H
    have c5b0 : decide (x5_1 ≤ 6) = true := decide_eq_true c5
    clear c5
    have HC6 := Aside0.mk H
    clear H
    go_upto_region 6 with (fail)
    repeat (go_quiet (fail); go_upto_region 6 with (fail))
    go_cut [23] (fun v23 wc => ∃ (kq : Nat) (x23_5 : Bool), v23 = .bool x23_5 ∧ Aside0 (linhayref19_Parse.j1 kq t340 x5_1 2 x23_5 = some (r1, r2, r3, r4)) ∧ Aside0 (kq ≤ k1) ∧ Aside0 (Kd.R Kd.string 9 wc w.heap.size (fun _ => True) v341 t340) ∧ Aside0 (wc.heap[gb339]? = some (.cells #[.int .i64 x340000_1, .string x340001_1, .string x340002_1] 35 (0, 0))) ∧ Aside0 (Below w.heap.size w wc))
    case first =>
     have H := HC6.out
     clear HC6
     by_cases c7 : x5_1 = 3
     ·
      rw [if_pos c7] at H
      have c7b0 : (x5_1 == 3) = true := beq_iff_eq.mpr c7
      have c7b1 : (x5_1 != 3) = false := bne_eq_false_iff_eq.mpr c7
      clear c7
      (first | rw [c7b0] | (simp only [i64_w, i32_w]; rw [c7b0]) | skip)
      have H' := Aside0.mk H
      clear H
      go_wp2
      repeat (go_quiet (fail); try go_wp2)
      go_meet
      case rel => exact ⟨_, (true), (by first | rfl | (simp; done) | (simp [*]; done)), H', ⟨by have := HK1.out; first | omega | exact Nat.le_refl _⟩, ⟨by (with_reducible repeat (first | apply Kd.R_alloc | apply Kd.R_drewN | apply Kd.R_drew)); first | exact HO_4.out | exact own_cut HO_4.out⟩, ⟨by (with_reducible repeat (first | refine blk_drewN ?_ _ | refine blk_drew ?_ | refine blk_alloc ?_ _)); exact BK339.out⟩, ⟨by repeat (first | (with_reducible first | exact HB.out | apply below_alloc | apply pw_below_drewN | apply below_drew1 | refine below_set ?_ GE339.out) | exact HB.out)⟩⟩
     ·
      rw [if_neg c7] at H
      have c7b0 : (x5_1 == 3) = false := beq_eq_false_iff_ne.mpr c7
      have c7b1 : (x5_1 != 3) = true := bne_iff_ne.mpr c7
      (first | rw [c7b0] | (simp only [i64_w, i32_w]; rw [c7b0]) | skip)
      have H' := Aside0.mk H
      clear H
      go_wp2
      repeat (go_quiet (fail); try go_wp2)
      go_meet
      case rel => exact ⟨_, (decide (x5_1 ≥ 5)), (by first | rfl | (simp; done) | (simp [*]; done)), H', ⟨by have := HK1.out; first | omega | exact Nat.le_refl _⟩, ⟨by (with_reducible repeat (first | apply Kd.R_alloc | apply Kd.R_drewN | apply Kd.R_drew)); first | exact HO_4.out | exact own_cut HO_4.out⟩, ⟨by (with_reducible repeat (first | refine blk_drewN ?_ _ | refine blk_drew ?_ | refine blk_alloc ?_ _)); exact BK339.out⟩, ⟨by repeat (first | (with_reducible first | exact HB.out | apply below_alloc | apply pw_below_drewN | apply below_drew1 | refine below_set ?_ GE339.out) | exact HB.out)⟩⟩
    case rest =>
     clear HC6
     try clear c2
     try clear p2
     try clear c5
     try clear c5b0
     try clear c7
     try clear c7b0
     try clear c7b1
     try clear p2
     obtain ⟨kq, x23_5, rfl, HA, HJ5, HO_4, BK339, HB⟩ := hcut
     cases kq with
     | zero => exact absurd HA.out (by simp [linhayref19_Parse.j1])
     | succ kj5 =>
      have H := HA.out
      clear HA
      simp only [linhayref19_Parse.j1] at H
      have HC8 := Aside0.mk H
      clear H
      go_upto_if 23 with (fail)
      repeat (go_quiet (fail); go_upto_if 23 with (fail))
      go_cut [6] (fun v6 wc => ∃ (kq : Nat) (x6_7 : Int), v6 = .int .i64 x6_7 ∧ Aside0 (linhayref19_Parse.j2 kq t340 x5_1 x6_7 = some (r1, r2, r3, r4)) ∧ Aside0 (kq ≤ kj5) ∧ Aside0 (Kd.R Kd.string 9 wc w.heap.size (fun _ => True) v341 t340) ∧ Aside0 (wc.heap[gb339]? = some (.cells #[.int .i64 x340000_1, .string x340001_1, .string x340002_1] 35 (0, 0))) ∧ Aside0 (Below w.heap.size w wc))
      case first =>
       have H := HC8.out
       clear HC8
       by_cases c9 : x23_5 = true
       ·
        subst c9
        have H1 : (linhayref19_Parse.j2 kj5 t340 x5_1 3) = some (r1, r2, r3, r4) := by rw [if_pos rfl] at H; exact H
        clear H
        have H := H1
        clear H1
        have H' := Aside0.mk H
        clear H
        go_wp2
        repeat (go_quiet (fail); try go_wp2)
        go_meet
        case rel => exact ⟨_, (3), (by first | rfl | (simp; done) | (simp [*]; done)), H', ⟨by have := HK1.out; have := HJ5.out; first | omega | exact Nat.le_refl _⟩, ⟨by (with_reducible repeat (first | apply Kd.R_alloc | apply Kd.R_drewN | apply Kd.R_drew)); first | exact HO_4.out | exact own_cut HO_4.out⟩, ⟨by (with_reducible repeat (first | refine blk_drewN ?_ _ | refine blk_drew ?_ | refine blk_alloc ?_ _)); exact BK339.out⟩, ⟨by repeat (first | (with_reducible first | exact HB.out | apply below_alloc | apply pw_below_drewN | apply below_drew1 | refine below_set ?_ GE339.out) | exact HB.out)⟩⟩
       ·
        replace c9 := Bool.eq_false_iff.mpr c9
        subst c9
        have H1 : (linhayref19_Parse.j2 kj5 t340 x5_1 2) = some (r1, r2, r3, r4) := by rw [if_neg (show ¬ (false = true) by decide)] at H; exact H
        clear H
        have H := H1
        clear H1
        have H' := Aside0.mk H
        clear H
        go_wp2
        repeat (go_quiet (fail); try go_wp2)
        go_meet
        case rel => exact ⟨_, (2), (by first | rfl | (simp; done) | (simp [*]; done)), H', ⟨by have := HK1.out; have := HJ5.out; first | omega | exact Nat.le_refl _⟩, ⟨by (with_reducible repeat (first | apply Kd.R_alloc | apply Kd.R_drewN | apply Kd.R_drew)); first | exact HO_4.out | exact own_cut HO_4.out⟩, ⟨by (with_reducible repeat (first | refine blk_drewN ?_ _ | refine blk_drew ?_ | refine blk_alloc ?_ _)); exact BK339.out⟩, ⟨by repeat (first | (with_reducible first | exact HB.out | apply below_alloc | apply pw_below_drewN | apply below_drew1 | refine below_set ?_ GE339.out) | exact HB.out)⟩⟩
      case rest =>
       clear HC8
       try clear c2
       try clear p2
       try clear c5
       try clear c5b0
       try clear c7
       try clear c7b0
       try clear c7b1
       try clear c9
       try clear p2
       obtain ⟨kq, x6_7, rfl, HA, HJ7, HO_4, BK339, HB⟩ := hcut
       cases kq with
       | zero => exact absurd HA.out (by simp [linhayref19_Parse.j2])
       | succ kj7 =>
        have H := HA.out
        clear HA
        simp only [linhayref19_Parse.j2] at H
        have HC10 := Aside0.mk H
        clear H
        go_upto_region 8 with (fail)
        repeat (go_quiet (fail); go_upto_region 8 with (fail))
        go_cut [35] (fun v35 wc => ∃ (kq : Nat) (x35_9 : Bool), v35 = .bool x35_9 ∧ Aside0 (linhayref19_Parse.j3 kq t340 x5_1 x6_7 x35_9 = some (r1, r2, r3, r4)) ∧ Aside0 (kq ≤ kj7) ∧ Aside0 (Kd.R Kd.string 9 wc w.heap.size (fun _ => True) v341 t340) ∧ Aside0 (wc.heap[gb339]? = some (.cells #[.int .i64 x340000_1, .string x340001_1, .string x340002_1] 35 (0, 0))) ∧ Aside0 (Below w.heap.size w wc))
        case first =>
         have H := HC10.out
         clear HC10
         by_cases c11 : 0 < (t340.length : Int)
         ·
          rw [if_pos c11] at H
          have c11b0 : decide (0 < (t340.length : Int)) = true := decide_eq_true c11
          have c11b1 : decide (0 < t340.length) = true := decide_eq_true (by omega)
          clear c11
          (first | rw [c11b0] | (simp only [i64_w, i32_w]; rw [c11b0]) | skip)
          replace H := Option.bind_eq_some_iff.mp H
          obtain ⟨t344, A120, H⟩ := H
          replace H : (if (rdOf ByteArray.empty t340 0).toList = t344.toList then (linhayref19_Parse.j3 kj7 t340 x5_1 x6_7 ((t340.length : Int) != x6_7)) else (linhayref19_Parse.j3 kj7 t340 x5_1 x6_7 true)) = some (r1, r2, r3, r4) := H
          have A12 := Aside0.mk A120
          clear A120
          by_cases c13 : (rdOf ByteArray.empty t340 0).toList = t344.toList
          ·
           rw [if_pos c13] at H
           have c13b0 : ((rdOf ByteArray.empty t340 0).toList == t344.toList) = true := beq_iff_eq.mpr c13
           have c13b1 : ((rdOf ByteArray.empty t340 0).toList != t344.toList) = false := bne_eq_false_iff_eq.mpr c13
           clear c13
           have H' := Aside0.mk H
           clear H
           obtain ⟨Ao14, co14, eo14⟩ := Kd.R_slice HO_4.out
           subst eo14
           have p343 : 0 ≤ (0 : Int) := (by omega)
           have q343 : 0 < (t340.length : Int) := of_decide_eq_true (by first | (with_reducible assumption) | assumption)
           obtain ⟨ad343, e343, hx343_0⟩ := Kd.at_string (Kd.R_reads' HO_4.out).2.2 0 p343 q343
           cases e343
           have qi343 : (0 < t340.length) = True := eq_true (by omega)
           (try rw [show ((0 : Int)).toNat = 0 from rfl] at hx343_0)
           (try rw [Addr.add_zero'] at hx343_0)
           replace p343 := eq_true p343
           replace q343 := eq_true q343
           go_wp2_with (first | (go_at_call 48; (with_reducible refine (linhayref19_verb.calls x5_1 t344 _ A12.out).mono ?_); rintro e w' ⟨rfl, ⟨nd, rfl⟩⟩; (try first | exact ⟨rfl, _, World.drewN_drewN _ _ _⟩ | exact ⟨rfl, _, Eq.trans (World.drewN_drewN _ _ _) (congrArg (World.drewN _) (Nat.add_assoc _ _ _))⟩)))
           repeat (go_quiet (first | (go_at_call 48; (with_reducible refine (linhayref19_verb.calls x5_1 t344 _ A12.out).mono ?_); rintro e w' ⟨rfl, ⟨nd, rfl⟩⟩; (try first | exact ⟨rfl, _, World.drewN_drewN _ _ _⟩ | exact ⟨rfl, _, Eq.trans (World.drewN_drewN _ _ _) (congrArg (World.drewN _) (Nat.add_assoc _ _ _))⟩))); try go_wp2_with (first | (go_at_call 48; (with_reducible refine (linhayref19_verb.calls x5_1 t344 _ A12.out).mono ?_); rintro e w' ⟨rfl, ⟨nd, rfl⟩⟩; (try first | exact ⟨rfl, _, World.drewN_drewN _ _ _⟩ | exact ⟨rfl, _, Eq.trans (World.drewN_drewN _ _ _) (congrArg (World.drewN _) (Nat.add_assoc _ _ _))⟩))))
           go_meet
           case rel => exact ⟨_, (((t340.length : Int) != x6_7)), (by first | rfl | (simp; done) | (simp [*]; done)), H', ⟨by have := HK1.out; have := HJ5.out; have := HJ7.out; first | omega | exact Nat.le_refl _⟩, ⟨by (with_reducible repeat (first | apply Kd.R_alloc | apply Kd.R_drewN | apply Kd.R_drew)); first | exact HO_4.out | exact own_cut HO_4.out⟩, ⟨by (with_reducible repeat (first | refine blk_drewN ?_ _ | refine blk_drew ?_ | refine blk_alloc ?_ _)); exact BK339.out⟩, ⟨by repeat (first | (with_reducible first | exact HB.out | apply below_alloc | apply pw_below_drewN | apply below_drew1 | refine below_set ?_ GE339.out) | exact HB.out)⟩⟩
          ·
           rw [if_neg c13] at H
           have c13b0 : ((rdOf ByteArray.empty t340 0).toList == t344.toList) = false := beq_eq_false_iff_ne.mpr c13
           have c13b1 : ((rdOf ByteArray.empty t340 0).toList != t344.toList) = true := bne_iff_ne.mpr c13
           have H' := Aside0.mk H
           clear H
           obtain ⟨Ao15, co15, eo15⟩ := Kd.R_slice HO_4.out
           subst eo15
           have p343 : 0 ≤ (0 : Int) := (by omega)
           have q343 : 0 < (t340.length : Int) := of_decide_eq_true (by first | (with_reducible assumption) | assumption)
           obtain ⟨ad343, e343, hx343_0⟩ := Kd.at_string (Kd.R_reads' HO_4.out).2.2 0 p343 q343
           cases e343
           have qi343 : (0 < t340.length) = True := eq_true (by omega)
           (try rw [show ((0 : Int)).toNat = 0 from rfl] at hx343_0)
           (try rw [Addr.add_zero'] at hx343_0)
           replace p343 := eq_true p343
           replace q343 := eq_true q343
           go_wp2_with (first | (go_at_call 48; (with_reducible refine (linhayref19_verb.calls x5_1 t344 _ A12.out).mono ?_); rintro e w' ⟨rfl, ⟨nd, rfl⟩⟩; (try first | exact ⟨rfl, _, World.drewN_drewN _ _ _⟩ | exact ⟨rfl, _, Eq.trans (World.drewN_drewN _ _ _) (congrArg (World.drewN _) (Nat.add_assoc _ _ _))⟩)))
           repeat (go_quiet (first | (go_at_call 48; (with_reducible refine (linhayref19_verb.calls x5_1 t344 _ A12.out).mono ?_); rintro e w' ⟨rfl, ⟨nd, rfl⟩⟩; (try first | exact ⟨rfl, _, World.drewN_drewN _ _ _⟩ | exact ⟨rfl, _, Eq.trans (World.drewN_drewN _ _ _) (congrArg (World.drewN _) (Nat.add_assoc _ _ _))⟩))); try go_wp2_with (first | (go_at_call 48; (with_reducible refine (linhayref19_verb.calls x5_1 t344 _ A12.out).mono ?_); rintro e w' ⟨rfl, ⟨nd, rfl⟩⟩; (try first | exact ⟨rfl, _, World.drewN_drewN _ _ _⟩ | exact ⟨rfl, _, Eq.trans (World.drewN_drewN _ _ _) (congrArg (World.drewN _) (Nat.add_assoc _ _ _))⟩))))
           go_meet
           case rel => exact ⟨_, (true), (by first | rfl | (simp; done) | (simp [*]; done)), H', ⟨by have := HK1.out; have := HJ5.out; have := HJ7.out; first | omega | exact Nat.le_refl _⟩, ⟨by (with_reducible repeat (first | apply Kd.R_alloc | apply Kd.R_drewN | apply Kd.R_drew)); first | exact HO_4.out | exact own_cut HO_4.out⟩, ⟨by (with_reducible repeat (first | refine blk_drewN ?_ _ | refine blk_drew ?_ | refine blk_alloc ?_ _)); exact BK339.out⟩, ⟨by repeat (first | (with_reducible first | exact HB.out | apply below_alloc | apply pw_below_drewN | apply below_drew1 | refine below_set ?_ GE339.out) | exact HB.out)⟩⟩
         ·
          rw [if_neg c11] at H
          exact absurd H (by simp)
        case rest =>
         clear HC10
         try clear c1
         try clear c2
         try clear p2
         try clear p3
         try clear q3
         try clear hx3
         try clear qi3
         try clear c5
         try clear c5b0
         try clear c7
         try clear c7b0
         try clear c7b1
         try clear c9
         try clear c11
         try clear c11b0
         try clear c11b1
         try clear c13
         try clear c13b0
         try clear c13b1
         try clear hx343_0
         try clear p2
         try clear p343
         try clear q343
         obtain ⟨kq, x35_9, rfl, HA, HJ9, HO_4, BK339, HB⟩ := hcut
         cases kq with
         | zero => exact absurd HA.out (by simp [linhayref19_Parse.j3])
         | succ kj9 =>
          have H := HA.out
          clear HA
          simp only [linhayref19_Parse.j3] at H
          by_cases c16 : x35_9 = true
          ·
           subst c16
           have H1 : (linhayref19_Parse.l0 kj9 t340 (wrap64 (x5_1 + 1))) = some (r1, r2, r3, r4) := by rw [if_pos rfl] at H; exact H
           clear H
           have H := H1
           clear H1
           have H' := Aside0.mk H
           clear H
           go_wp2
           repeat (go_quiet (fail); try go_wp2)
           go_roundg kj9
           case measure => have := HK1.out; have := HJ5.out; have := HJ7.out; have := HJ9.out; omega
           case rel => exact ⟨(wrap64 (x5_1 + 1)), (x340000_1), (x340001_1), (x340002_1), (by first | rfl | (simp; done) | (simp [*]; done)), H', ⟨by have := HK1.out; have := HJ5.out; have := HJ7.out; have := HJ9.out; omega⟩, ⟨by (with_reducible repeat (first | apply Kd.R_alloc | apply Kd.R_drewN | apply Kd.R_drew)); first | exact HO_4.out | exact own_cut HO_4.out⟩, ⟨by (with_reducible repeat (first | refine blk_drewN ?_ _ | refine blk_drew ?_ | refine blk_alloc ?_ _)); exact BK339.out⟩, ⟨by repeat (first | (with_reducible first | exact HB.out | apply below_alloc | apply pw_below_drewN | apply below_drew1 | refine below_set ?_ GE339.out) | exact HB.out)⟩⟩
          ·
           replace c16 := Bool.eq_false_iff.mpr c16
           subst c16
           have H1 : (if 1 < (t340.length : Int) then ((linhayref19_Bare.f kj9 (rdOf ByteArray.empty t340 1)).bind fun bt347 => (if x6_7 = 3 then (if 2 < (t340.length : Int) then ((linhayref19_Bare.f kj9 (rdOf ByteArray.empty t340 2)).bind fun bt350 => (linhayref19_Parse.j4 kj9 bt347.1 bt347.2 bt350.1 bt350.2 x5_1 (⟨#[]⟩ : ByteArray) (⟨#[]⟩ : ByteArray))) else (none)) else (linhayref19_Parse.j4 kj9 bt347.1 bt347.2 (⟨#[]⟩ : ByteArray) true x5_1 (⟨#[]⟩ : ByteArray) (⟨#[]⟩ : ByteArray)))) else (none)) = some (r1, r2, r3, r4) := by rw [if_neg (show ¬ (false = true) by decide)] at H; exact H
           clear H
           have H := H1
           clear H1
           by_cases c17 : 1 < (t340.length : Int)
           ·
            rw [if_pos c17] at H
            have c17b0 : decide (1 < (t340.length : Int)) = true := decide_eq_true c17
            have c17b1 : decide (1 < t340.length) = true := decide_eq_true (by omega)
            clear c17
            replace H := Option.bind_eq_some_iff.mp H
            obtain ⟨⟨t347, t348⟩, A180, H⟩ := H
            replace H : (if x6_7 = 3 then (if 2 < (t340.length : Int) then ((linhayref19_Bare.f kj9 (rdOf ByteArray.empty t340 2)).bind fun bt350 => (linhayref19_Parse.j4 kj9 t347 t348 bt350.1 bt350.2 x5_1 (⟨#[]⟩ : ByteArray) (⟨#[]⟩ : ByteArray))) else (none)) else (linhayref19_Parse.j4 kj9 t347 t348 (⟨#[]⟩ : ByteArray) true x5_1 (⟨#[]⟩ : ByteArray) (⟨#[]⟩ : ByteArray))) = some (r1, r2, r3, r4) := H
            have A18 := Aside0.mk A180
            clear A180
            have HC19 := Aside0.mk H
            clear H
            go_upto_if 46 with (first | ((with_reducible refine gate_dst (N := 7) rfl ?_); (try (refine gate_guard (by rfl) ?_; dsimp only)); refine box_event ?hg (N := 7) ?hd (cs := #[.int .i64 0, .string (⟨#[]⟩ : ByteArray), .string (⟨#[]⟩ : ByteArray)]) (t := 35) ?hr ?_; (case hd => rfl); (case hg => rfl); (case hr => first | (go_simp; done) | (go_simp; rfl)); intro gb345 hg w20 hbox hb; have n0_ := Aside0.mk (Kd.R_below (by (with_reducible repeat (first | apply Kd.R_alloc | apply Kd.R_drewN | apply Kd.R_drew)); exact HO_4.out) hb); have n1_ := Aside0.mk (blk_below (g := gb339) (o := .cells #[.int .i64 x340000_1, .string x340001_1, .string x340002_1] 35 (0, 0)) (by (with_reducible repeat (first | refine blk_drewN ?_ _ | refine blk_drew ?_ | refine blk_alloc ?_ _)); exact BK339.out) hb); have n2_ := Aside0.mk (below_step (by repeat (first | (with_reducible first | exact HB.out | apply below_alloc | apply pw_below_drewN | apply below_drew1 | refine below_set ?_ GE339.out) | exact HB.out)) hb); have n3_ := Aside0.mk (hbox); have n4_ := Aside0.mk ((by rw [hg]; exact (below_size (by repeat (first | (with_reducible first | exact HB.out | apply below_alloc | apply pw_below_drewN | apply below_drew1 | refine below_set ?_ GE339.out) | exact HB.out))) : w.heap.size ≤ gb345)); have n5_ := Aside0.mk ((by rw [hg]; exact (below_size (by repeat (first | (with_reducible first | exact HB.out | apply below_alloc | apply pw_below_drewN | apply below_drew1 | refine below_set ?_ GE339.out) | exact HB.out))) : w.heap.size ≤ gb345)); have n6_ := Aside0.mk ((by rw [hg]; exact Nat.ne_of_lt (blk_lt (g := gb339) (o := .cells #[.int .i64 x340000_1, .string x340001_1, .string x340002_1] 35 (0, 0)) (by (with_reducible repeat (first | refine blk_drewN ?_ _ | refine blk_drew ?_ | refine blk_alloc ?_ _)); exact BK339.out)) : gb339 ≠ gb345)); have n7_ := Aside0.mk ((by rw [hg]; exact Nat.ne_of_gt (blk_lt (g := gb339) (o := .cells #[.int .i64 x340000_1, .string x340001_1, .string x340002_1] 35 (0, 0)) (by (with_reducible repeat (first | refine blk_drewN ?_ _ | refine blk_drew ?_ | refine blk_alloc ?_ _)); exact BK339.out)) : gb345 ≠ gb339)); clear HO_4; clear BK339; clear HB; have HO_4 := n0_; have BK339 := n1_; have HB := n2_; have BK345 := n3_; have GW345 := n4_; have GE345 := n5_; have NB339_345 := n6_; have NB345_339 := n7_; clear n0_ n1_ n2_ n3_ n4_ n5_ n6_ n7_; clear hb hbox hg; have hnb21 := NB345_339.out; have hnc21 := NB339_345.out; have hcz22_0 : w20.cell? ⟨gb345, 0, none⟩ = some (.int .i64 0) := (blk_cell BK345.out 0).trans rfl; have hcz22_1 : w20.cell? ⟨gb345, 1, none⟩ = some (.string (⟨#[]⟩ : ByteArray)) := (blk_cell BK345.out 1).trans rfl; have hcz22_2 : w20.cell? ⟨gb345, 2, none⟩ = some (.string (⟨#[]⟩ : ByteArray)) := (blk_cell BK345.out 2).trans rfl; have hfz22_0 := blk_frozen BK345.out 0; have hfz22_1 := blk_frozen BK345.out 1; have hfz22_2 := blk_frozen BK345.out 2; obtain ⟨Ao23, co23, eo23⟩ := Kd.R_slice HO_4.out; subst eo23; have p346 : 0 ≤ (1 : Int) := (by omega); have q346 : 1 < (t340.length : Int) := of_decide_eq_true (by first | (with_reducible assumption) | assumption); obtain ⟨ad346, e346, hx346_0⟩ := Kd.at_string (Kd.R_reads' HO_4.out).2.2 1 p346 q346; cases e346; (try simp only [show (1 : Int).toNat = 1 from rfl, Nat.reduceMul, Nat.reduceEqDiff, Go.Addr.add, ↓reduceIte] at hx346_0); have qi346 : (1 < t340.length) = True := eq_true (by omega); (try rw [show ((1 : Int)).toNat = 1 from rfl] at hx346_0); have hn346_0 : ad346.block ≠ gb345 := Kd.own_blk (Kd.R_ne HO_4.out BK345.out (by decide)); have hn346_1 : ad346.block ≠ gb345 := Kd.own_blk (Kd.R_ne HO_4.out BK345.out (by decide)); have hn346_2 : ad346.block ≠ gb345 := Kd.own_blk (Kd.R_ne HO_4.out BK345.out (by decide)); replace hx346_0 := (cell_far (p := ⟨gb345, 0, none⟩) (by first | (rw [add_block]; exact hn346_0) | (show (Addr.add _ _).block ≠ _; rw [add_block]; exact hn346_0) | exact hn346_0) (.int .i64 x5_1)).trans hx346_0; replace hx346_0 := (cell_far (p := ⟨gb345, 1, none⟩) (by first | (rw [add_block]; exact hn346_1) | (show (Addr.add _ _).block ≠ _; rw [add_block]; exact hn346_1) | exact hn346_1) (.string (⟨#[]⟩ : ByteArray))).trans hx346_0; replace hx346_0 := (cell_far (p := ⟨gb345, 2, none⟩) (by first | (rw [add_block]; exact hn346_2) | (show (Addr.add _ _).block ≠ _; rw [add_block]; exact hn346_2) | exact hn346_2) (.string (⟨#[]⟩ : ByteArray))).trans hx346_0; (try have hy346_0 := fun (n_ : Nat) => (show (((((w20.drewN n_).setCell ⟨gb345, 0, none⟩ (.int .i64 x5_1)).setCell ⟨gb345, 1, none⟩ (.string (⟨#[]⟩ : ByteArray))).setCell ⟨gb345, 2, none⟩ (.string (⟨#[]⟩ : ByteArray)))).cell? _ = some _ from hx346_0)); clear hn346_0; clear hn346_1; clear hn346_2; replace p346 := eq_true p346; replace q346 := eq_true q346) | (go_at_call 22; (with_reducible refine (linhayref19_Bare.calls kj9 (rdOf ByteArray.empty t340 1) t347 t348 _ A18.out).mono ?_); rintro e w24 ⟨rfl, hb⟩; have n0_ := Aside0.mk (Kd.R_below (by (with_reducible repeat (first | apply Kd.R_alloc | apply Kd.R_drewN | apply Kd.R_drew)); exact (Kd.R_mono (Kd.R_far (p := ⟨gb345, 2, none⟩) (Kd.R_far (p := ⟨gb345, 1, none⟩) (Kd.R_far (p := ⟨gb345, 0, none⟩) (Kd.R_types HO_4.out BK345.out (by decide)) (fun _ hk => hk.2) (.int .i64 x5_1)) (fun _ hk => hk.2) (.string (⟨#[]⟩ : ByteArray))) (fun _ hk => hk.2) (.string (⟨#[]⟩ : ByteArray))) (fun _ h_ => h_.1))) hb); have n1_ := Aside0.mk (blk_below (g := gb339) (o := .cells #[.int .i64 x340000_1, .string x340001_1, .string x340002_1] 35 (0, 0)) (by (with_reducible repeat (first | refine blk_drewN ?_ _ | refine blk_drew ?_ | refine blk_alloc ?_ _)); refine blk_far ?_ NB339_345.out _; (with_reducible repeat (first | refine blk_drewN ?_ _ | refine blk_drew ?_ | refine blk_alloc ?_ _)); refine blk_far ?_ NB339_345.out _; (with_reducible repeat (first | refine blk_drewN ?_ _ | refine blk_drew ?_ | refine blk_alloc ?_ _)); refine blk_far ?_ NB339_345.out _; (with_reducible repeat (first | refine blk_drewN ?_ _ | refine blk_drew ?_ | refine blk_alloc ?_ _)); exact BK339.out) hb); have n2_ := Aside0.mk (blk_below (g := gb345) (o := .cells #[.int .i64 x5_1, .string (⟨#[]⟩ : ByteArray), .string (⟨#[]⟩ : ByteArray)] 35 (0, 0)) (by (with_reducible repeat (first | refine blk_drewN ?_ _ | refine blk_drew ?_ | refine blk_alloc ?_ _)); refine blk_put (cs := #[.int .i64 x5_1, .string (⟨#[]⟩ : ByteArray), .string (⟨#[]⟩ : ByteArray)]) ?_ 2 _ rfl; (with_reducible repeat (first | refine blk_drewN ?_ _ | refine blk_drew ?_ | refine blk_alloc ?_ _)); refine blk_put (cs := #[.int .i64 x5_1, .string (⟨#[]⟩ : ByteArray), .string (⟨#[]⟩ : ByteArray)]) ?_ 1 _ rfl; (with_reducible repeat (first | refine blk_drewN ?_ _ | refine blk_drew ?_ | refine blk_alloc ?_ _)); refine blk_put (cs := #[.int .i64 0, .string (⟨#[]⟩ : ByteArray), .string (⟨#[]⟩ : ByteArray)]) ?_ 0 _ rfl; (with_reducible repeat (first | refine blk_drewN ?_ _ | refine blk_drew ?_ | refine blk_alloc ?_ _)); exact BK345.out) hb); have n3_ := Aside0.mk (below_step (by repeat (first | (with_reducible first | exact HB.out | apply below_alloc | apply pw_below_drewN | apply below_drew1 | refine below_set ?_ GE339.out | refine below_set ?_ GE345.out) | exact HB.out)) hb); clear HO_4; clear BK339; clear BK345; clear HB; have HO_4 := n0_; have BK339 := n1_; have BK345 := n2_; have HB := n3_; clear n0_ n1_ n2_ n3_; (try clear hb); (try clear hb2); (try clear hk); (try clear hi)))
            repeat (go_quiet (first | ((with_reducible refine gate_dst (N := 7) rfl ?_); (try (refine gate_guard (by rfl) ?_; dsimp only)); refine box_event ?hg (N := 7) ?hd (cs := #[.int .i64 0, .string (⟨#[]⟩ : ByteArray), .string (⟨#[]⟩ : ByteArray)]) (t := 35) ?hr ?_; (case hd => rfl); (case hg => rfl); (case hr => first | (go_simp; done) | (go_simp; rfl)); intro gb345 hg w20 hbox hb; have n0_ := Aside0.mk (Kd.R_below (by (with_reducible repeat (first | apply Kd.R_alloc | apply Kd.R_drewN | apply Kd.R_drew)); exact HO_4.out) hb); have n1_ := Aside0.mk (blk_below (g := gb339) (o := .cells #[.int .i64 x340000_1, .string x340001_1, .string x340002_1] 35 (0, 0)) (by (with_reducible repeat (first | refine blk_drewN ?_ _ | refine blk_drew ?_ | refine blk_alloc ?_ _)); exact BK339.out) hb); have n2_ := Aside0.mk (below_step (by repeat (first | (with_reducible first | exact HB.out | apply below_alloc | apply pw_below_drewN | apply below_drew1 | refine below_set ?_ GE339.out) | exact HB.out)) hb); have n3_ := Aside0.mk (hbox); have n4_ := Aside0.mk ((by rw [hg]; exact (below_size (by repeat (first | (with_reducible first | exact HB.out | apply below_alloc | apply pw_below_drewN | apply below_drew1 | refine below_set ?_ GE339.out) | exact HB.out))) : w.heap.size ≤ gb345)); have n5_ := Aside0.mk ((by rw [hg]; exact (below_size (by repeat (first | (with_reducible first | exact HB.out | apply below_alloc | apply pw_below_drewN | apply below_drew1 | refine below_set ?_ GE339.out) | exact HB.out))) : w.heap.size ≤ gb345)); have n6_ := Aside0.mk ((by rw [hg]; exact Nat.ne_of_lt (blk_lt (g := gb339) (o := .cells #[.int .i64 x340000_1, .string x340001_1, .string x340002_1] 35 (0, 0)) (by (with_reducible repeat (first | refine blk_drewN ?_ _ | refine blk_drew ?_ | refine blk_alloc ?_ _)); exact BK339.out)) : gb339 ≠ gb345)); have n7_ := Aside0.mk ((by rw [hg]; exact Nat.ne_of_gt (blk_lt (g := gb339) (o := .cells #[.int .i64 x340000_1, .string x340001_1, .string x340002_1] 35 (0, 0)) (by (with_reducible repeat (first | refine blk_drewN ?_ _ | refine blk_drew ?_ | refine blk_alloc ?_ _)); exact BK339.out)) : gb345 ≠ gb339)); clear HO_4; clear BK339; clear HB; have HO_4 := n0_; have BK339 := n1_; have HB := n2_; have BK345 := n3_; have GW345 := n4_; have GE345 := n5_; have NB339_345 := n6_; have NB345_339 := n7_; clear n0_ n1_ n2_ n3_ n4_ n5_ n6_ n7_; clear hb hbox hg; have hnb21 := NB345_339.out; have hnc21 := NB339_345.out; have hcz22_0 : w20.cell? ⟨gb345, 0, none⟩ = some (.int .i64 0) := (blk_cell BK345.out 0).trans rfl; have hcz22_1 : w20.cell? ⟨gb345, 1, none⟩ = some (.string (⟨#[]⟩ : ByteArray)) := (blk_cell BK345.out 1).trans rfl; have hcz22_2 : w20.cell? ⟨gb345, 2, none⟩ = some (.string (⟨#[]⟩ : ByteArray)) := (blk_cell BK345.out 2).trans rfl; have hfz22_0 := blk_frozen BK345.out 0; have hfz22_1 := blk_frozen BK345.out 1; have hfz22_2 := blk_frozen BK345.out 2; obtain ⟨Ao23, co23, eo23⟩ := Kd.R_slice HO_4.out; subst eo23; have p346 : 0 ≤ (1 : Int) := (by omega); have q346 : 1 < (t340.length : Int) := of_decide_eq_true (by first | (with_reducible assumption) | assumption); obtain ⟨ad346, e346, hx346_0⟩ := Kd.at_string (Kd.R_reads' HO_4.out).2.2 1 p346 q346; cases e346; (try simp only [show (1 : Int).toNat = 1 from rfl, Nat.reduceMul, Nat.reduceEqDiff, Go.Addr.add, ↓reduceIte] at hx346_0); have qi346 : (1 < t340.length) = True := eq_true (by omega); (try rw [show ((1 : Int)).toNat = 1 from rfl] at hx346_0); have hn346_0 : ad346.block ≠ gb345 := Kd.own_blk (Kd.R_ne HO_4.out BK345.out (by decide)); have hn346_1 : ad346.block ≠ gb345 := Kd.own_blk (Kd.R_ne HO_4.out BK345.out (by decide)); have hn346_2 : ad346.block ≠ gb345 := Kd.own_blk (Kd.R_ne HO_4.out BK345.out (by decide)); replace hx346_0 := (cell_far (p := ⟨gb345, 0, none⟩) (by first | (rw [add_block]; exact hn346_0) | (show (Addr.add _ _).block ≠ _; rw [add_block]; exact hn346_0) | exact hn346_0) (.int .i64 x5_1)).trans hx346_0; replace hx346_0 := (cell_far (p := ⟨gb345, 1, none⟩) (by first | (rw [add_block]; exact hn346_1) | (show (Addr.add _ _).block ≠ _; rw [add_block]; exact hn346_1) | exact hn346_1) (.string (⟨#[]⟩ : ByteArray))).trans hx346_0; replace hx346_0 := (cell_far (p := ⟨gb345, 2, none⟩) (by first | (rw [add_block]; exact hn346_2) | (show (Addr.add _ _).block ≠ _; rw [add_block]; exact hn346_2) | exact hn346_2) (.string (⟨#[]⟩ : ByteArray))).trans hx346_0; (try have hy346_0 := fun (n_ : Nat) => (show (((((w20.drewN n_).setCell ⟨gb345, 0, none⟩ (.int .i64 x5_1)).setCell ⟨gb345, 1, none⟩ (.string (⟨#[]⟩ : ByteArray))).setCell ⟨gb345, 2, none⟩ (.string (⟨#[]⟩ : ByteArray)))).cell? _ = some _ from hx346_0)); clear hn346_0; clear hn346_1; clear hn346_2; replace p346 := eq_true p346; replace q346 := eq_true q346) | (go_at_call 22; (with_reducible refine (linhayref19_Bare.calls kj9 (rdOf ByteArray.empty t340 1) t347 t348 _ A18.out).mono ?_); rintro e w24 ⟨rfl, hb⟩; have n0_ := Aside0.mk (Kd.R_below (by (with_reducible repeat (first | apply Kd.R_alloc | apply Kd.R_drewN | apply Kd.R_drew)); exact (Kd.R_mono (Kd.R_far (p := ⟨gb345, 2, none⟩) (Kd.R_far (p := ⟨gb345, 1, none⟩) (Kd.R_far (p := ⟨gb345, 0, none⟩) (Kd.R_types HO_4.out BK345.out (by decide)) (fun _ hk => hk.2) (.int .i64 x5_1)) (fun _ hk => hk.2) (.string (⟨#[]⟩ : ByteArray))) (fun _ hk => hk.2) (.string (⟨#[]⟩ : ByteArray))) (fun _ h_ => h_.1))) hb); have n1_ := Aside0.mk (blk_below (g := gb339) (o := .cells #[.int .i64 x340000_1, .string x340001_1, .string x340002_1] 35 (0, 0)) (by (with_reducible repeat (first | refine blk_drewN ?_ _ | refine blk_drew ?_ | refine blk_alloc ?_ _)); refine blk_far ?_ NB339_345.out _; (with_reducible repeat (first | refine blk_drewN ?_ _ | refine blk_drew ?_ | refine blk_alloc ?_ _)); refine blk_far ?_ NB339_345.out _; (with_reducible repeat (first | refine blk_drewN ?_ _ | refine blk_drew ?_ | refine blk_alloc ?_ _)); refine blk_far ?_ NB339_345.out _; (with_reducible repeat (first | refine blk_drewN ?_ _ | refine blk_drew ?_ | refine blk_alloc ?_ _)); exact BK339.out) hb); have n2_ := Aside0.mk (blk_below (g := gb345) (o := .cells #[.int .i64 x5_1, .string (⟨#[]⟩ : ByteArray), .string (⟨#[]⟩ : ByteArray)] 35 (0, 0)) (by (with_reducible repeat (first | refine blk_drewN ?_ _ | refine blk_drew ?_ | refine blk_alloc ?_ _)); refine blk_put (cs := #[.int .i64 x5_1, .string (⟨#[]⟩ : ByteArray), .string (⟨#[]⟩ : ByteArray)]) ?_ 2 _ rfl; (with_reducible repeat (first | refine blk_drewN ?_ _ | refine blk_drew ?_ | refine blk_alloc ?_ _)); refine blk_put (cs := #[.int .i64 x5_1, .string (⟨#[]⟩ : ByteArray), .string (⟨#[]⟩ : ByteArray)]) ?_ 1 _ rfl; (with_reducible repeat (first | refine blk_drewN ?_ _ | refine blk_drew ?_ | refine blk_alloc ?_ _)); refine blk_put (cs := #[.int .i64 0, .string (⟨#[]⟩ : ByteArray), .string (⟨#[]⟩ : ByteArray)]) ?_ 0 _ rfl; (with_reducible repeat (first | refine blk_drewN ?_ _ | refine blk_drew ?_ | refine blk_alloc ?_ _)); exact BK345.out) hb); have n3_ := Aside0.mk (below_step (by repeat (first | (with_reducible first | exact HB.out | apply below_alloc | apply pw_below_drewN | apply below_drew1 | refine below_set ?_ GE339.out | refine below_set ?_ GE345.out) | exact HB.out)) hb); clear HO_4; clear BK339; clear BK345; clear HB; have HO_4 := n0_; have BK339 := n1_; have BK345 := n2_; have HB := n3_; clear n0_ n1_ n2_ n3_; (try clear hb); (try clear hb2); (try clear hk); (try clear hi))); go_upto_if 46 with (first | ((with_reducible refine gate_dst (N := 7) rfl ?_); (try (refine gate_guard (by rfl) ?_; dsimp only)); refine box_event ?hg (N := 7) ?hd (cs := #[.int .i64 0, .string (⟨#[]⟩ : ByteArray), .string (⟨#[]⟩ : ByteArray)]) (t := 35) ?hr ?_; (case hd => rfl); (case hg => rfl); (case hr => first | (go_simp; done) | (go_simp; rfl)); intro gb345 hg w20 hbox hb; have n0_ := Aside0.mk (Kd.R_below (by (with_reducible repeat (first | apply Kd.R_alloc | apply Kd.R_drewN | apply Kd.R_drew)); exact HO_4.out) hb); have n1_ := Aside0.mk (blk_below (g := gb339) (o := .cells #[.int .i64 x340000_1, .string x340001_1, .string x340002_1] 35 (0, 0)) (by (with_reducible repeat (first | refine blk_drewN ?_ _ | refine blk_drew ?_ | refine blk_alloc ?_ _)); exact BK339.out) hb); have n2_ := Aside0.mk (below_step (by repeat (first | (with_reducible first | exact HB.out | apply below_alloc | apply pw_below_drewN | apply below_drew1 | refine below_set ?_ GE339.out) | exact HB.out)) hb); have n3_ := Aside0.mk (hbox); have n4_ := Aside0.mk ((by rw [hg]; exact (below_size (by repeat (first | (with_reducible first | exact HB.out | apply below_alloc | apply pw_below_drewN | apply below_drew1 | refine below_set ?_ GE339.out) | exact HB.out))) : w.heap.size ≤ gb345)); have n5_ := Aside0.mk ((by rw [hg]; exact (below_size (by repeat (first | (with_reducible first | exact HB.out | apply below_alloc | apply pw_below_drewN | apply below_drew1 | refine below_set ?_ GE339.out) | exact HB.out))) : w.heap.size ≤ gb345)); have n6_ := Aside0.mk ((by rw [hg]; exact Nat.ne_of_lt (blk_lt (g := gb339) (o := .cells #[.int .i64 x340000_1, .string x340001_1, .string x340002_1] 35 (0, 0)) (by (with_reducible repeat (first | refine blk_drewN ?_ _ | refine blk_drew ?_ | refine blk_alloc ?_ _)); exact BK339.out)) : gb339 ≠ gb345)); have n7_ := Aside0.mk ((by rw [hg]; exact Nat.ne_of_gt (blk_lt (g := gb339) (o := .cells #[.int .i64 x340000_1, .string x340001_1, .string x340002_1] 35 (0, 0)) (by (with_reducible repeat (first | refine blk_drewN ?_ _ | refine blk_drew ?_ | refine blk_alloc ?_ _)); exact BK339.out)) : gb345 ≠ gb339)); clear HO_4; clear BK339; clear HB; have HO_4 := n0_; have BK339 := n1_; have HB := n2_; have BK345 := n3_; have GW345 := n4_; have GE345 := n5_; have NB339_345 := n6_; have NB345_339 := n7_; clear n0_ n1_ n2_ n3_ n4_ n5_ n6_ n7_; clear hb hbox hg; have hnb21 := NB345_339.out; have hnc21 := NB339_345.out; have hcz22_0 : w20.cell? ⟨gb345, 0, none⟩ = some (.int .i64 0) := (blk_cell BK345.out 0).trans rfl; have hcz22_1 : w20.cell? ⟨gb345, 1, none⟩ = some (.string (⟨#[]⟩ : ByteArray)) := (blk_cell BK345.out 1).trans rfl; have hcz22_2 : w20.cell? ⟨gb345, 2, none⟩ = some (.string (⟨#[]⟩ : ByteArray)) := (blk_cell BK345.out 2).trans rfl; have hfz22_0 := blk_frozen BK345.out 0; have hfz22_1 := blk_frozen BK345.out 1; have hfz22_2 := blk_frozen BK345.out 2; obtain ⟨Ao23, co23, eo23⟩ := Kd.R_slice HO_4.out; subst eo23; have p346 : 0 ≤ (1 : Int) := (by omega); have q346 : 1 < (t340.length : Int) := of_decide_eq_true (by first | (with_reducible assumption) | assumption); obtain ⟨ad346, e346, hx346_0⟩ := Kd.at_string (Kd.R_reads' HO_4.out).2.2 1 p346 q346; cases e346; (try simp only [show (1 : Int).toNat = 1 from rfl, Nat.reduceMul, Nat.reduceEqDiff, Go.Addr.add, ↓reduceIte] at hx346_0); have qi346 : (1 < t340.length) = True := eq_true (by omega); (try rw [show ((1 : Int)).toNat = 1 from rfl] at hx346_0); have hn346_0 : ad346.block ≠ gb345 := Kd.own_blk (Kd.R_ne HO_4.out BK345.out (by decide)); have hn346_1 : ad346.block ≠ gb345 := Kd.own_blk (Kd.R_ne HO_4.out BK345.out (by decide)); have hn346_2 : ad346.block ≠ gb345 := Kd.own_blk (Kd.R_ne HO_4.out BK345.out (by decide)); replace hx346_0 := (cell_far (p := ⟨gb345, 0, none⟩) (by first | (rw [add_block]; exact hn346_0) | (show (Addr.add _ _).block ≠ _; rw [add_block]; exact hn346_0) | exact hn346_0) (.int .i64 x5_1)).trans hx346_0; replace hx346_0 := (cell_far (p := ⟨gb345, 1, none⟩) (by first | (rw [add_block]; exact hn346_1) | (show (Addr.add _ _).block ≠ _; rw [add_block]; exact hn346_1) | exact hn346_1) (.string (⟨#[]⟩ : ByteArray))).trans hx346_0; replace hx346_0 := (cell_far (p := ⟨gb345, 2, none⟩) (by first | (rw [add_block]; exact hn346_2) | (show (Addr.add _ _).block ≠ _; rw [add_block]; exact hn346_2) | exact hn346_2) (.string (⟨#[]⟩ : ByteArray))).trans hx346_0; (try have hy346_0 := fun (n_ : Nat) => (show (((((w20.drewN n_).setCell ⟨gb345, 0, none⟩ (.int .i64 x5_1)).setCell ⟨gb345, 1, none⟩ (.string (⟨#[]⟩ : ByteArray))).setCell ⟨gb345, 2, none⟩ (.string (⟨#[]⟩ : ByteArray)))).cell? _ = some _ from hx346_0)); clear hn346_0; clear hn346_1; clear hn346_2; replace p346 := eq_true p346; replace q346 := eq_true q346) | (go_at_call 22; (with_reducible refine (linhayref19_Bare.calls kj9 (rdOf ByteArray.empty t340 1) t347 t348 _ A18.out).mono ?_); rintro e w24 ⟨rfl, hb⟩; have n0_ := Aside0.mk (Kd.R_below (by (with_reducible repeat (first | apply Kd.R_alloc | apply Kd.R_drewN | apply Kd.R_drew)); exact (Kd.R_mono (Kd.R_far (p := ⟨gb345, 2, none⟩) (Kd.R_far (p := ⟨gb345, 1, none⟩) (Kd.R_far (p := ⟨gb345, 0, none⟩) (Kd.R_types HO_4.out BK345.out (by decide)) (fun _ hk => hk.2) (.int .i64 x5_1)) (fun _ hk => hk.2) (.string (⟨#[]⟩ : ByteArray))) (fun _ hk => hk.2) (.string (⟨#[]⟩ : ByteArray))) (fun _ h_ => h_.1))) hb); have n1_ := Aside0.mk (blk_below (g := gb339) (o := .cells #[.int .i64 x340000_1, .string x340001_1, .string x340002_1] 35 (0, 0)) (by (with_reducible repeat (first | refine blk_drewN ?_ _ | refine blk_drew ?_ | refine blk_alloc ?_ _)); refine blk_far ?_ NB339_345.out _; (with_reducible repeat (first | refine blk_drewN ?_ _ | refine blk_drew ?_ | refine blk_alloc ?_ _)); refine blk_far ?_ NB339_345.out _; (with_reducible repeat (first | refine blk_drewN ?_ _ | refine blk_drew ?_ | refine blk_alloc ?_ _)); refine blk_far ?_ NB339_345.out _; (with_reducible repeat (first | refine blk_drewN ?_ _ | refine blk_drew ?_ | refine blk_alloc ?_ _)); exact BK339.out) hb); have n2_ := Aside0.mk (blk_below (g := gb345) (o := .cells #[.int .i64 x5_1, .string (⟨#[]⟩ : ByteArray), .string (⟨#[]⟩ : ByteArray)] 35 (0, 0)) (by (with_reducible repeat (first | refine blk_drewN ?_ _ | refine blk_drew ?_ | refine blk_alloc ?_ _)); refine blk_put (cs := #[.int .i64 x5_1, .string (⟨#[]⟩ : ByteArray), .string (⟨#[]⟩ : ByteArray)]) ?_ 2 _ rfl; (with_reducible repeat (first | refine blk_drewN ?_ _ | refine blk_drew ?_ | refine blk_alloc ?_ _)); refine blk_put (cs := #[.int .i64 x5_1, .string (⟨#[]⟩ : ByteArray), .string (⟨#[]⟩ : ByteArray)]) ?_ 1 _ rfl; (with_reducible repeat (first | refine blk_drewN ?_ _ | refine blk_drew ?_ | refine blk_alloc ?_ _)); refine blk_put (cs := #[.int .i64 0, .string (⟨#[]⟩ : ByteArray), .string (⟨#[]⟩ : ByteArray)]) ?_ 0 _ rfl; (with_reducible repeat (first | refine blk_drewN ?_ _ | refine blk_drew ?_ | refine blk_alloc ?_ _)); exact BK345.out) hb); have n3_ := Aside0.mk (below_step (by repeat (first | (with_reducible first | exact HB.out | apply below_alloc | apply pw_below_drewN | apply below_drew1 | refine below_set ?_ GE339.out | refine below_set ?_ GE345.out) | exact HB.out)) hb); clear HO_4; clear BK339; clear BK345; clear HB; have HO_4 := n0_; have BK339 := n1_; have BK345 := n2_; have HB := n3_; clear n0_ n1_ n2_ n3_; (try clear hb); (try clear hb2); (try clear hk); (try clear hi))))
            (try simp only [Act.put, List.setIfInBounds_toArray, List.set_cons_zero, List.set_cons_succ])
            go_cut [10, 11] (fun v10 v11 wc => ∃ (kq : Nat) (x10_18 : ByteArray) (x11_18 : Bool), v10 = .string x10_18 ∧ v11 = .bool x11_18 ∧ Aside0 (linhayref19_Parse.j4 kq t347 t348 x10_18 x11_18 x5_1 (⟨#[]⟩ : ByteArray) (⟨#[]⟩ : ByteArray) = some (r1, r2, r3, r4)) ∧ Aside0 (kq ≤ kj9) ∧ Aside0 (wc.heap[gb339]? = some (.cells #[.int .i64 x340000_1, .string x340001_1, .string x340002_1] 35 (0, 0))) ∧ Aside0 (wc.heap[gb345]? = some (.cells #[.int .i64 x5_1, .string (⟨#[]⟩ : ByteArray), .string (⟨#[]⟩ : ByteArray)] 35 (0, 0))) ∧ Aside0 (Below w.heap.size w wc))
            case first =>
             have H := HC19.out
             clear HC19
             by_cases c25 : x6_7 = 3
             ·
              rw [if_pos c25] at H
              have c25b0 : (x6_7 == 3) = true := beq_iff_eq.mpr c25
              have c25b1 : (x6_7 != 3) = false := bne_eq_false_iff_eq.mpr c25
              clear c25
              (first | rw [c25b0] | (simp only [i64_w, i32_w]; rw [c25b0]) | skip)
              by_cases c26 : 2 < (t340.length : Int)
              ·
               rw [if_pos c26] at H
               have c26b0 : decide (2 < (t340.length : Int)) = true := decide_eq_true c26
               have c26b1 : decide (2 < t340.length) = true := decide_eq_true (by omega)
               clear c26
               replace H := Option.bind_eq_some_iff.mp H
               obtain ⟨⟨t350, t351⟩, A270, H⟩ := H
               replace H : (linhayref19_Parse.j4 kj9 t347 t348 t350 t351 x5_1 (⟨#[]⟩ : ByteArray) (⟨#[]⟩ : ByteArray)) = some (r1, r2, r3, r4) := H
               have A27 := Aside0.mk A270
               clear A270
               have H' := Aside0.mk H
               clear H
               have p349 : 0 ≤ (2 : Int) := (by omega)
               have q349 : 2 < (t340.length : Int) := of_decide_eq_true (by first | (with_reducible assumption) | assumption)
               obtain ⟨ad349, e349, hx349_0⟩ := Kd.at_string (Kd.R_reads' HO_4.out).2.2 2 p349 q349
               obtain rfl : ad346 = ad349 := (by injection e349)
               (try simp only [show (2 : Int).toNat = 2 from rfl, Nat.reduceMul, Nat.reduceEqDiff, Go.Addr.add, ↓reduceIte] at hx349_0)
               have qi349 : (2 < t340.length) = True := eq_true (by omega)
               (try rw [show ((2 : Int)).toNat = 2 from rfl] at hx349_0)
               replace p349 := eq_true p349
               replace q349 := eq_true q349
               go_wp2_with (first | (go_at_call 22; (with_reducible refine (linhayref19_Bare.calls kj9 (rdOf ByteArray.empty t340 2) t350 t351 _ A27.out).mono ?_); rintro e w28 ⟨rfl, hb⟩; have n0_ := Aside0.mk (Kd.R_below (by (with_reducible repeat (first | apply Kd.R_alloc | apply Kd.R_drewN | apply Kd.R_drew)); exact HO_4.out) hb); have n1_ := Aside0.mk (blk_below (g := gb339) (o := .cells #[.int .i64 x340000_1, .string x340001_1, .string x340002_1] 35 (0, 0)) (by (with_reducible repeat (first | refine blk_drewN ?_ _ | refine blk_drew ?_ | refine blk_alloc ?_ _)); exact BK339.out) hb); have n2_ := Aside0.mk (blk_below (g := gb345) (o := .cells #[.int .i64 x5_1, .string (⟨#[]⟩ : ByteArray), .string (⟨#[]⟩ : ByteArray)] 35 (0, 0)) (by (with_reducible repeat (first | refine blk_drewN ?_ _ | refine blk_drew ?_ | refine blk_alloc ?_ _)); exact BK345.out) hb); have n3_ := Aside0.mk (below_step (by repeat (first | (with_reducible first | exact HB.out | apply below_alloc | apply pw_below_drewN | apply below_drew1 | refine below_set ?_ GE339.out | refine below_set ?_ GE345.out) | exact HB.out)) hb); clear HO_4; clear BK339; clear BK345; clear HB; have HO_4 := n0_; have BK339 := n1_; have BK345 := n2_; have HB := n3_; clear n0_ n1_ n2_ n3_; (try clear hb); (try clear hb2); (try clear hk); (try clear hi)))
               repeat (go_quiet (first | (go_at_call 22; (with_reducible refine (linhayref19_Bare.calls kj9 (rdOf ByteArray.empty t340 2) t350 t351 _ A27.out).mono ?_); rintro e w28 ⟨rfl, hb⟩; have n0_ := Aside0.mk (Kd.R_below (by (with_reducible repeat (first | apply Kd.R_alloc | apply Kd.R_drewN | apply Kd.R_drew)); exact HO_4.out) hb); have n1_ := Aside0.mk (blk_below (g := gb339) (o := .cells #[.int .i64 x340000_1, .string x340001_1, .string x340002_1] 35 (0, 0)) (by (with_reducible repeat (first | refine blk_drewN ?_ _ | refine blk_drew ?_ | refine blk_alloc ?_ _)); exact BK339.out) hb); have n2_ := Aside0.mk (blk_below (g := gb345) (o := .cells #[.int .i64 x5_1, .string (⟨#[]⟩ : ByteArray), .string (⟨#[]⟩ : ByteArray)] 35 (0, 0)) (by (with_reducible repeat (first | refine blk_drewN ?_ _ | refine blk_drew ?_ | refine blk_alloc ?_ _)); exact BK345.out) hb); have n3_ := Aside0.mk (below_step (by repeat (first | (with_reducible first | exact HB.out | apply below_alloc | apply pw_below_drewN | apply below_drew1 | refine below_set ?_ GE339.out | refine below_set ?_ GE345.out) | exact HB.out)) hb); clear HO_4; clear BK339; clear BK345; clear HB; have HO_4 := n0_; have BK339 := n1_; have BK345 := n2_; have HB := n3_; clear n0_ n1_ n2_ n3_; (try clear hb); (try clear hb2); (try clear hk); (try clear hi))); try go_wp2_with (first | (go_at_call 22; (with_reducible refine (linhayref19_Bare.calls kj9 (rdOf ByteArray.empty t340 2) t350 t351 _ A27.out).mono ?_); rintro e w28 ⟨rfl, hb⟩; have n0_ := Aside0.mk (Kd.R_below (by (with_reducible repeat (first | apply Kd.R_alloc | apply Kd.R_drewN | apply Kd.R_drew)); exact HO_4.out) hb); have n1_ := Aside0.mk (blk_below (g := gb339) (o := .cells #[.int .i64 x340000_1, .string x340001_1, .string x340002_1] 35 (0, 0)) (by (with_reducible repeat (first | refine blk_drewN ?_ _ | refine blk_drew ?_ | refine blk_alloc ?_ _)); exact BK339.out) hb); have n2_ := Aside0.mk (blk_below (g := gb345) (o := .cells #[.int .i64 x5_1, .string (⟨#[]⟩ : ByteArray), .string (⟨#[]⟩ : ByteArray)] 35 (0, 0)) (by (with_reducible repeat (first | refine blk_drewN ?_ _ | refine blk_drew ?_ | refine blk_alloc ?_ _)); exact BK345.out) hb); have n3_ := Aside0.mk (below_step (by repeat (first | (with_reducible first | exact HB.out | apply below_alloc | apply pw_below_drewN | apply below_drew1 | refine below_set ?_ GE339.out | refine below_set ?_ GE345.out) | exact HB.out)) hb); clear HO_4; clear BK339; clear BK345; clear HB; have HO_4 := n0_; have BK339 := n1_; have BK345 := n2_; have HB := n3_; clear n0_ n1_ n2_ n3_; (try clear hb); (try clear hb2); (try clear hk); (try clear hi))))
               go_meet
               case rel => exact ⟨_, (t350), (t351), (by first | rfl | (simp; done) | (simp [*]; done)), (by first | rfl | (simp; done) | (simp [*]; done)), H', ⟨by have := HK1.out; have := HJ5.out; have := HJ7.out; have := HJ9.out; first | omega | exact Nat.le_refl _⟩, ⟨by (with_reducible repeat (first | refine blk_drewN ?_ _ | refine blk_drew ?_ | refine blk_alloc ?_ _)); exact BK339.out⟩, ⟨by (with_reducible repeat (first | refine blk_drewN ?_ _ | refine blk_drew ?_ | refine blk_alloc ?_ _)); exact BK345.out⟩, ⟨by repeat (first | (with_reducible first | exact HB.out | apply below_alloc | apply pw_below_drewN | apply below_drew1 | refine below_set ?_ GE339.out | refine below_set ?_ GE345.out) | exact HB.out)⟩⟩
              ·
               rw [if_neg c26] at H
               exact absurd H (by simp)
             ·
              rw [if_neg c25] at H
              have c25b0 : (x6_7 == 3) = false := beq_eq_false_iff_ne.mpr c25
              have c25b1 : (x6_7 != 3) = true := bne_iff_ne.mpr c25
              (first | rw [c25b0] | (simp only [i64_w, i32_w]; rw [c25b0]) | skip)
              have H' := Aside0.mk H
              clear H
              go_wp2
              repeat (go_quiet (fail); try go_wp2)
              go_meet
              case rel => exact ⟨_, ((⟨#[]⟩ : ByteArray)), (true), (by first | rfl | (simp; done) | (simp [*]; done)), (by first | rfl | (simp; done) | (simp [*]; done)), H', ⟨by have := HK1.out; have := HJ5.out; have := HJ7.out; have := HJ9.out; first | omega | exact Nat.le_refl _⟩, ⟨by (with_reducible repeat (first | refine blk_drewN ?_ _ | refine blk_drew ?_ | refine blk_alloc ?_ _)); exact BK339.out⟩, ⟨by (with_reducible repeat (first | refine blk_drewN ?_ _ | refine blk_drew ?_ | refine blk_alloc ?_ _)); exact BK345.out⟩, ⟨by repeat (first | (with_reducible first | exact HB.out | apply below_alloc | apply pw_below_drewN | apply below_drew1 | refine below_set ?_ GE339.out | refine below_set ?_ GE345.out) | exact HB.out)⟩⟩
            case rest =>
             clear HC19
             try clear c1
             try clear c2
             try clear p2
             try clear p3
             try clear q3
             try clear hx3
             try clear qi3
             try clear c5
             try clear c5b0
             try clear p6
             try clear c7
             try clear c7b0
             try clear c7b1
             try clear c9
             try clear c11
             try clear c11b0
             try clear c11b1
             try clear c13
             try clear c13b0
             try clear c13b1
             try clear c16
             try clear c17
             try clear c17b0
             try clear c17b1
             try clear c20
             try clear c21
             try clear c25
             try clear c25b0
             try clear c25b1
             try clear c26
             try clear c26b0
             try clear c26b1
             try clear hcz22_0
             try clear hcz22_1
             try clear hcz22_2
             try clear hfz22_0
             try clear hfz22_1
             try clear hfz22_2
             try clear hx343_0
             try clear hx346_0
             try clear hx349_0
             try clear p2
             try clear p3
             try clear p343
             try clear p346
             try clear p349
             try clear q3
             try clear q343
             try clear q346
             try clear q349
             obtain ⟨kq, x10_18, x11_18, rfl, rfl, HA, HJ18, BK339, BK345, HB⟩ := hcut
             cases kq with
             | zero => exact absurd HA.out (by simp [linhayref19_Parse.j4])
             | succ kj18 =>
              have H := HA.out
              clear HA
              simp only [linhayref19_Parse.j4] at H
              have HC29 := Aside0.mk H
              clear H
              go_upto_region 14 with (fail)
              repeat (go_quiet (fail); go_upto_region 14 with (fail))
              go_cut [59] (fun v59 wc => ∃ (kq : Nat) (x59_28 : Bool), v59 = .bool x59_28 ∧ Aside0 (linhayref19_Parse.j5 kq t347 x10_18 x59_28 x5_1 (⟨#[]⟩ : ByteArray) (⟨#[]⟩ : ByteArray) = some (r1, r2, r3, r4)) ∧ Aside0 (kq ≤ kj18) ∧ Aside0 (wc.heap[gb339]? = some (.cells #[.int .i64 x340000_1, .string x340001_1, .string x340002_1] 35 (0, 0))) ∧ Aside0 (wc.heap[gb345]? = some (.cells #[.int .i64 x5_1, .string (⟨#[]⟩ : ByteArray), .string (⟨#[]⟩ : ByteArray)] 35 (0, 0))) ∧ Aside0 (Below w.heap.size w wc))
              case first =>
               have H := HC29.out
               clear HC29
               by_cases c30 : t348 = true
               ·
                subst c30
                have H1 : (linhayref19_Parse.j5 kj18 t347 x10_18 (!x11_18) x5_1 (⟨#[]⟩ : ByteArray) (⟨#[]⟩ : ByteArray)) = some (r1, r2, r3, r4) := by rw [if_pos rfl] at H; exact H
                clear H
                have H := H1
                clear H1
                have H' := Aside0.mk H
                clear H
                go_wp2
                repeat (go_quiet (fail); try go_wp2)
                go_meet
                case rel => exact ⟨_, (!x11_18), (by first | rfl | (simp; done) | (simp [*]; done)), H', ⟨by have := HK1.out; have := HJ5.out; have := HJ7.out; have := HJ9.out; have := HJ18.out; first | omega | exact Nat.le_refl _⟩, ⟨by (with_reducible repeat (first | refine blk_drewN ?_ _ | refine blk_drew ?_ | refine blk_alloc ?_ _)); exact BK339.out⟩, ⟨by (with_reducible repeat (first | refine blk_drewN ?_ _ | refine blk_drew ?_ | refine blk_alloc ?_ _)); exact BK345.out⟩, ⟨by repeat (first | (with_reducible first | exact HB.out | apply below_alloc | apply pw_below_drewN | apply below_drew1 | refine below_set ?_ GE339.out | refine below_set ?_ GE345.out) | exact HB.out)⟩⟩
               ·
                replace c30 := Bool.eq_false_iff.mpr c30
                subst c30
                have H1 : (linhayref19_Parse.j5 kj18 t347 x10_18 true x5_1 (⟨#[]⟩ : ByteArray) (⟨#[]⟩ : ByteArray)) = some (r1, r2, r3, r4) := by rw [if_neg (show ¬ (false = true) by decide)] at H; exact H
                clear H
                have H := H1
                clear H1
                have H' := Aside0.mk H
                clear H
                go_wp2
                repeat (go_quiet (fail); try go_wp2)
                go_meet
                case rel => exact ⟨_, (true), (by first | rfl | (simp; done) | (simp [*]; done)), H', ⟨by have := HK1.out; have := HJ5.out; have := HJ7.out; have := HJ9.out; have := HJ18.out; first | omega | exact Nat.le_refl _⟩, ⟨by (with_reducible repeat (first | refine blk_drewN ?_ _ | refine blk_drew ?_ | refine blk_alloc ?_ _)); exact BK339.out⟩, ⟨by (with_reducible repeat (first | refine blk_drewN ?_ _ | refine blk_drew ?_ | refine blk_alloc ?_ _)); exact BK345.out⟩, ⟨by repeat (first | (with_reducible first | exact HB.out | apply below_alloc | apply pw_below_drewN | apply below_drew1 | refine below_set ?_ GE339.out | refine below_set ?_ GE345.out) | exact HB.out)⟩⟩
              case rest =>
               clear HC29
               try clear c1
               try clear c2
               try clear p2
               try clear c3
               try clear p3
               try clear q3
               try clear hx3
               try clear qi3
               try clear c5
               try clear c5b0
               try clear p6
               try clear c7
               try clear c7b0
               try clear c7b1
               try clear c9
               try clear c11
               try clear c11b0
               try clear c11b1
               try clear c13
               try clear c13b0
               try clear c13b1
               try clear c16
               try clear c17
               try clear c17b0
               try clear c17b1
               try clear c20
               try clear c21
               try clear c25
               try clear c25b0
               try clear c25b1
               try clear c26
               try clear c26b0
               try clear c26b1
               try clear c30
               try clear hcz22_0
               try clear hcz22_1
               try clear hcz22_2
               try clear hfz22_0
               try clear hfz22_1
               try clear hfz22_2
               try clear hx343_0
               try clear hx346_0
               try clear hx349_0
               try clear p2
               try clear p3
               try clear p343
               try clear p346
               try clear p349
               try clear p6
               try clear q3
               try clear q343
               try clear q346
               try clear q349
               obtain ⟨kq, x59_28, rfl, HA, HJ28, BK339, BK345, HB⟩ := hcut
               cases kq with
               | zero => exact absurd HA.out (by simp [linhayref19_Parse.j5])
               | succ kj28 =>
                have H := HA.out
                clear HA
                simp only [linhayref19_Parse.j5] at H
                by_cases c31 : x59_28 = true
                ·
                 subst c31
                 have H1 : (some (0, (⟨#[]⟩ : ByteArray), (⟨#[]⟩ : ByteArray), 3)) = some (r1, r2, r3, r4) := by rw [if_pos rfl] at H; exact H
                 clear H
                 have H := H1
                 clear H1
                 simp only [Option.some.injEq, Prod.mk.injEq] at H
                 obtain ⟨rfl, rfl, rfl, rfl⟩ := H
                 have hnb32 := NB339_345.out
                 have hnc32 := NB345_339.out
                 have hcz33_0 : wc.cell? ⟨gb339, 0, none⟩ = some (.int .i64 x340000_1) := (blk_cell BK339.out 0).trans rfl
                 have hcz33_1 : wc.cell? ⟨gb339, 1, none⟩ = some (.string x340001_1) := (blk_cell BK339.out 1).trans rfl
                 have hcz33_2 : wc.cell? ⟨gb339, 2, none⟩ = some (.string x340002_1) := (blk_cell BK339.out 2).trans rfl
                 have hfz33_0 := blk_frozen BK339.out 0
                 have hfz33_1 := blk_frozen BK339.out 1
                 have hfz33_2 := blk_frozen BK339.out 2
                 go_wp2
                 repeat (go_quiet (fail); try go_wp2)
                 refine bodyPost_ret (results_ct rfl _ _ gb339 35 #[.int .i64 0, .string (⟨#[]⟩ : ByteArray), .string (⟨#[]⟩ : ByteArray)] (0, 0) _ rfl (by (with_reducible repeat (first | refine blk_drewN ?_ _ | refine blk_drew ?_ | refine blk_alloc ?_ _)); refine blk_put (cs := #[.int .i64 0, .string (⟨#[]⟩ : ByteArray), .string x340002_1]) ?_ 2 _ rfl; (with_reducible repeat (first | refine blk_drewN ?_ _ | refine blk_drew ?_ | refine blk_alloc ?_ _)); refine blk_put (cs := #[.int .i64 0, .string x340001_1, .string x340002_1]) ?_ 1 _ rfl; (with_reducible repeat (first | refine blk_drewN ?_ _ | refine blk_drew ?_ | refine blk_alloc ?_ _)); refine blk_put (cs := #[.int .i64 x340000_1, .string x340001_1, .string x340002_1]) ?_ 0 _ rfl; (with_reducible repeat (first | refine blk_drewN ?_ _ | refine blk_drew ?_ | refine blk_alloc ?_ _)); exact BK339.out) Tryd.underlying35 rfl (by kernel_rfl)) rfl ?_
                 exact ⟨by first | rfl | (simp [errW_none, errW_some] <;> rfl) | (simp [*, errW_none, errW_some] <;> rfl) | (simp [errW_none, errW_some, bne_nil]; done) | (simp [*, bne_nil]; done), by repeat (first | (with_reducible first | exact HB.out | apply below_alloc | apply pw_below_drewN | apply below_drew1 | refine below_set ?_ GE339.out | refine below_set ?_ GE345.out) | exact HB.out)⟩
                ·
                 replace c31 := Bool.eq_false_iff.mpr c31
                 subst c31
                 have H1 : ((linhayref19_Right.f kj28 x5_1 t347 x10_18).bind fun t352 => (if t352 = true then (some (x5_1, t347, x10_18, 0)) else (some (0, (⟨#[]⟩ : ByteArray), (⟨#[]⟩ : ByteArray), 2)))) = some (r1, r2, r3, r4) := by rw [if_neg (show ¬ (false = true) by decide)] at H; exact H
                 clear H
                 have H := H1
                 clear H1
                 replace H := Option.bind_eq_some_iff.mp H
                 obtain ⟨t352, A340, H⟩ := H
                 replace H : (if t352 = true then (some (x5_1, t347, x10_18, 0)) else (some (0, (⟨#[]⟩ : ByteArray), (⟨#[]⟩ : ByteArray), 2))) = some (r1, r2, r3, r4) := H
                 have A34 := Aside0.mk A340
                 clear A340
                 by_cases c35 : t352 = true
                 ·
                  subst c35
                  have H1 : (some (x5_1, t347, x10_18, 0)) = some (r1, r2, r3, r4) := by rw [if_pos rfl] at H; exact H
                  clear H
                  have H := H1
                  clear H1
                  simp only [Option.some.injEq, Prod.mk.injEq] at H
                  obtain ⟨rfl, rfl, rfl, rfl⟩ := H
                  have hnb36 := NB345_339.out
                  have hnc36 := NB339_345.out
                  have hcz37_0 : wc.cell? ⟨gb345, 0, none⟩ = some (.int .i64 x5_1) := (blk_cell BK345.out 0).trans rfl
                  have hcz37_1 : wc.cell? ⟨gb345, 1, none⟩ = some (.string (⟨#[]⟩ : ByteArray)) := (blk_cell BK345.out 1).trans rfl
                  have hcz37_2 : wc.cell? ⟨gb345, 2, none⟩ = some (.string (⟨#[]⟩ : ByteArray)) := (blk_cell BK345.out 2).trans rfl
                  have hfz37_0 := blk_frozen BK345.out 0
                  have hfz37_1 := blk_frozen BK345.out 1
                  have hfz37_2 := blk_frozen BK345.out 2
                  go_wp2_with (first | (go_at_call 27; (with_reducible refine (linhayref19_Right.calls kj28 x5_1 t347 x10_18 true _ A34.out).mono ?_); rintro e w38 ⟨rfl, hb⟩; have n0_ := Aside0.mk (blk_below (g := gb339) (o := .cells #[.int .i64 x340000_1, .string x340001_1, .string x340002_1] 35 (0, 0)) (by (with_reducible repeat (first | refine blk_drewN ?_ _ | refine blk_drew ?_ | refine blk_alloc ?_ _)); refine blk_far ?_ NB339_345.out _; (with_reducible repeat (first | refine blk_drewN ?_ _ | refine blk_drew ?_ | refine blk_alloc ?_ _)); refine blk_far ?_ NB339_345.out _; (with_reducible repeat (first | refine blk_drewN ?_ _ | refine blk_drew ?_ | refine blk_alloc ?_ _)); exact BK339.out) hb); have n1_ := Aside0.mk (blk_below (g := gb345) (o := .cells #[.int .i64 x5_1, .string t347, .string x10_18] 35 (0, 0)) (by (with_reducible repeat (first | refine blk_drewN ?_ _ | refine blk_drew ?_ | refine blk_alloc ?_ _)); refine blk_put (cs := #[.int .i64 x5_1, .string t347, .string (⟨#[]⟩ : ByteArray)]) ?_ 2 _ rfl; (with_reducible repeat (first | refine blk_drewN ?_ _ | refine blk_drew ?_ | refine blk_alloc ?_ _)); refine blk_put (cs := #[.int .i64 x5_1, .string (⟨#[]⟩ : ByteArray), .string (⟨#[]⟩ : ByteArray)]) ?_ 1 _ rfl; (with_reducible repeat (first | refine blk_drewN ?_ _ | refine blk_drew ?_ | refine blk_alloc ?_ _)); exact BK345.out) hb); have n2_ := Aside0.mk (below_step (by repeat (first | (with_reducible first | exact HB.out | apply below_alloc | apply pw_below_drewN | apply below_drew1 | refine below_set ?_ GE339.out | refine below_set ?_ GE345.out) | exact HB.out)) hb); clear BK339; clear BK345; clear HB; have BK339 := n0_; have BK345 := n1_; have HB := n2_; clear n0_ n1_ n2_; (try clear hb); (try clear hb2); (try clear hk); (try clear hi); have hcz39_0 : w38.cell? ⟨gb345, 0, none⟩ = some (.int .i64 x5_1) := (blk_cell BK345.out 0).trans rfl; have hcz39_1 : w38.cell? ⟨gb345, 1, none⟩ = some (.string t347) := (blk_cell BK345.out 1).trans rfl; have hcz39_2 : w38.cell? ⟨gb345, 2, none⟩ = some (.string x10_18) := (blk_cell BK345.out 2).trans rfl; have hfz39_0 := blk_frozen BK345.out 0; have hfz39_1 := blk_frozen BK345.out 1; have hfz39_2 := blk_frozen BK345.out 2; have hcz40_0 : w38.cell? ⟨gb339, 0, none⟩ = some (.int .i64 x340000_1) := (blk_cell BK339.out 0).trans rfl; have hcz40_1 : w38.cell? ⟨gb339, 1, none⟩ = some (.string x340001_1) := (blk_cell BK339.out 1).trans rfl; have hcz40_2 : w38.cell? ⟨gb339, 2, none⟩ = some (.string x340002_1) := (blk_cell BK339.out 2).trans rfl; have hfz40_0 := blk_frozen BK339.out 0; have hfz40_1 := blk_frozen BK339.out 1; have hfz40_2 := blk_frozen BK339.out 2))
                  repeat (go_quiet (first | (go_at_call 27; (with_reducible refine (linhayref19_Right.calls kj28 x5_1 t347 x10_18 true _ A34.out).mono ?_); rintro e w38 ⟨rfl, hb⟩; have n0_ := Aside0.mk (blk_below (g := gb339) (o := .cells #[.int .i64 x340000_1, .string x340001_1, .string x340002_1] 35 (0, 0)) (by (with_reducible repeat (first | refine blk_drewN ?_ _ | refine blk_drew ?_ | refine blk_alloc ?_ _)); refine blk_far ?_ NB339_345.out _; (with_reducible repeat (first | refine blk_drewN ?_ _ | refine blk_drew ?_ | refine blk_alloc ?_ _)); refine blk_far ?_ NB339_345.out _; (with_reducible repeat (first | refine blk_drewN ?_ _ | refine blk_drew ?_ | refine blk_alloc ?_ _)); exact BK339.out) hb); have n1_ := Aside0.mk (blk_below (g := gb345) (o := .cells #[.int .i64 x5_1, .string t347, .string x10_18] 35 (0, 0)) (by (with_reducible repeat (first | refine blk_drewN ?_ _ | refine blk_drew ?_ | refine blk_alloc ?_ _)); refine blk_put (cs := #[.int .i64 x5_1, .string t347, .string (⟨#[]⟩ : ByteArray)]) ?_ 2 _ rfl; (with_reducible repeat (first | refine blk_drewN ?_ _ | refine blk_drew ?_ | refine blk_alloc ?_ _)); refine blk_put (cs := #[.int .i64 x5_1, .string (⟨#[]⟩ : ByteArray), .string (⟨#[]⟩ : ByteArray)]) ?_ 1 _ rfl; (with_reducible repeat (first | refine blk_drewN ?_ _ | refine blk_drew ?_ | refine blk_alloc ?_ _)); exact BK345.out) hb); have n2_ := Aside0.mk (below_step (by repeat (first | (with_reducible first | exact HB.out | apply below_alloc | apply pw_below_drewN | apply below_drew1 | refine below_set ?_ GE339.out | refine below_set ?_ GE345.out) | exact HB.out)) hb); clear BK339; clear BK345; clear HB; have BK339 := n0_; have BK345 := n1_; have HB := n2_; clear n0_ n1_ n2_; (try clear hb); (try clear hb2); (try clear hk); (try clear hi); have hcz39_0 : w38.cell? ⟨gb345, 0, none⟩ = some (.int .i64 x5_1) := (blk_cell BK345.out 0).trans rfl; have hcz39_1 : w38.cell? ⟨gb345, 1, none⟩ = some (.string t347) := (blk_cell BK345.out 1).trans rfl; have hcz39_2 : w38.cell? ⟨gb345, 2, none⟩ = some (.string x10_18) := (blk_cell BK345.out 2).trans rfl; have hfz39_0 := blk_frozen BK345.out 0; have hfz39_1 := blk_frozen BK345.out 1; have hfz39_2 := blk_frozen BK345.out 2; have hcz40_0 : w38.cell? ⟨gb339, 0, none⟩ = some (.int .i64 x340000_1) := (blk_cell BK339.out 0).trans rfl; have hcz40_1 : w38.cell? ⟨gb339, 1, none⟩ = some (.string x340001_1) := (blk_cell BK339.out 1).trans rfl; have hcz40_2 : w38.cell? ⟨gb339, 2, none⟩ = some (.string x340002_1) := (blk_cell BK339.out 2).trans rfl; have hfz40_0 := blk_frozen BK339.out 0; have hfz40_1 := blk_frozen BK339.out 1; have hfz40_2 := blk_frozen BK339.out 2)); try go_wp2_with (first | (go_at_call 27; (with_reducible refine (linhayref19_Right.calls kj28 x5_1 t347 x10_18 true _ A34.out).mono ?_); rintro e w38 ⟨rfl, hb⟩; have n0_ := Aside0.mk (blk_below (g := gb339) (o := .cells #[.int .i64 x340000_1, .string x340001_1, .string x340002_1] 35 (0, 0)) (by (with_reducible repeat (first | refine blk_drewN ?_ _ | refine blk_drew ?_ | refine blk_alloc ?_ _)); refine blk_far ?_ NB339_345.out _; (with_reducible repeat (first | refine blk_drewN ?_ _ | refine blk_drew ?_ | refine blk_alloc ?_ _)); refine blk_far ?_ NB339_345.out _; (with_reducible repeat (first | refine blk_drewN ?_ _ | refine blk_drew ?_ | refine blk_alloc ?_ _)); exact BK339.out) hb); have n1_ := Aside0.mk (blk_below (g := gb345) (o := .cells #[.int .i64 x5_1, .string t347, .string x10_18] 35 (0, 0)) (by (with_reducible repeat (first | refine blk_drewN ?_ _ | refine blk_drew ?_ | refine blk_alloc ?_ _)); refine blk_put (cs := #[.int .i64 x5_1, .string t347, .string (⟨#[]⟩ : ByteArray)]) ?_ 2 _ rfl; (with_reducible repeat (first | refine blk_drewN ?_ _ | refine blk_drew ?_ | refine blk_alloc ?_ _)); refine blk_put (cs := #[.int .i64 x5_1, .string (⟨#[]⟩ : ByteArray), .string (⟨#[]⟩ : ByteArray)]) ?_ 1 _ rfl; (with_reducible repeat (first | refine blk_drewN ?_ _ | refine blk_drew ?_ | refine blk_alloc ?_ _)); exact BK345.out) hb); have n2_ := Aside0.mk (below_step (by repeat (first | (with_reducible first | exact HB.out | apply below_alloc | apply pw_below_drewN | apply below_drew1 | refine below_set ?_ GE339.out | refine below_set ?_ GE345.out) | exact HB.out)) hb); clear BK339; clear BK345; clear HB; have BK339 := n0_; have BK345 := n1_; have HB := n2_; clear n0_ n1_ n2_; (try clear hb); (try clear hb2); (try clear hk); (try clear hi); have hcz39_0 : w38.cell? ⟨gb345, 0, none⟩ = some (.int .i64 x5_1) := (blk_cell BK345.out 0).trans rfl; have hcz39_1 : w38.cell? ⟨gb345, 1, none⟩ = some (.string t347) := (blk_cell BK345.out 1).trans rfl; have hcz39_2 : w38.cell? ⟨gb345, 2, none⟩ = some (.string x10_18) := (blk_cell BK345.out 2).trans rfl; have hfz39_0 := blk_frozen BK345.out 0; have hfz39_1 := blk_frozen BK345.out 1; have hfz39_2 := blk_frozen BK345.out 2; have hcz40_0 : w38.cell? ⟨gb339, 0, none⟩ = some (.int .i64 x340000_1) := (blk_cell BK339.out 0).trans rfl; have hcz40_1 : w38.cell? ⟨gb339, 1, none⟩ = some (.string x340001_1) := (blk_cell BK339.out 1).trans rfl; have hcz40_2 : w38.cell? ⟨gb339, 2, none⟩ = some (.string x340002_1) := (blk_cell BK339.out 2).trans rfl; have hfz40_0 := blk_frozen BK339.out 0; have hfz40_1 := blk_frozen BK339.out 1; have hfz40_2 := blk_frozen BK339.out 2)))
                  refine bodyPost_ret (results_ct rfl _ _ gb339 35 #[.int .i64 x5_1, .string t347, .string x10_18] (0, 0) _ rfl (by (with_reducible repeat (first | refine blk_drewN ?_ _ | refine blk_drew ?_ | refine blk_alloc ?_ _)); refine blk_put (cs := #[.int .i64 x5_1, .string t347, .string x340002_1]) ?_ 2 _ rfl; (with_reducible repeat (first | refine blk_drewN ?_ _ | refine blk_drew ?_ | refine blk_alloc ?_ _)); refine blk_put (cs := #[.int .i64 x5_1, .string x340001_1, .string x340002_1]) ?_ 1 _ rfl; (with_reducible repeat (first | refine blk_drewN ?_ _ | refine blk_drew ?_ | refine blk_alloc ?_ _)); refine blk_put (cs := #[.int .i64 x340000_1, .string x340001_1, .string x340002_1]) ?_ 0 _ rfl; (with_reducible repeat (first | refine blk_drewN ?_ _ | refine blk_drew ?_ | refine blk_alloc ?_ _)); exact BK339.out) Tryd.underlying35 rfl (by kernel_rfl)) rfl ?_
                  exact ⟨by first | rfl | (simp [errW_none, errW_some] <;> rfl) | (simp [*, errW_none, errW_some] <;> rfl) | (simp [errW_none, errW_some, bne_nil]; done) | (simp [*, bne_nil]; done), by repeat (first | (with_reducible first | exact HB.out | apply below_alloc | apply pw_below_drewN | apply below_drew1 | refine below_set ?_ GE339.out | refine below_set ?_ GE345.out) | exact HB.out)⟩
                 ·
                  replace c35 := Bool.eq_false_iff.mpr c35
                  subst c35
                  have H1 : (some (0, (⟨#[]⟩ : ByteArray), (⟨#[]⟩ : ByteArray), 2)) = some (r1, r2, r3, r4) := by rw [if_neg (show ¬ (false = true) by decide)] at H; exact H
                  clear H
                  have H := H1
                  clear H1
                  simp only [Option.some.injEq, Prod.mk.injEq] at H
                  obtain ⟨rfl, rfl, rfl, rfl⟩ := H
                  have hnb41 := NB345_339.out
                  have hnc41 := NB339_345.out
                  have hcz42_0 : wc.cell? ⟨gb345, 0, none⟩ = some (.int .i64 x5_1) := (blk_cell BK345.out 0).trans rfl
                  have hcz42_1 : wc.cell? ⟨gb345, 1, none⟩ = some (.string (⟨#[]⟩ : ByteArray)) := (blk_cell BK345.out 1).trans rfl
                  have hcz42_2 : wc.cell? ⟨gb345, 2, none⟩ = some (.string (⟨#[]⟩ : ByteArray)) := (blk_cell BK345.out 2).trans rfl
                  have hfz42_0 := blk_frozen BK345.out 0
                  have hfz42_1 := blk_frozen BK345.out 1
                  have hfz42_2 := blk_frozen BK345.out 2
                  go_wp2_with (first | (go_at_call 27; (with_reducible refine (linhayref19_Right.calls kj28 x5_1 t347 x10_18 false _ A34.out).mono ?_); rintro e w43 ⟨rfl, hb⟩; have n0_ := Aside0.mk (blk_below (g := gb339) (o := .cells #[.int .i64 x340000_1, .string x340001_1, .string x340002_1] 35 (0, 0)) (by (with_reducible repeat (first | refine blk_drewN ?_ _ | refine blk_drew ?_ | refine blk_alloc ?_ _)); refine blk_far ?_ NB339_345.out _; (with_reducible repeat (first | refine blk_drewN ?_ _ | refine blk_drew ?_ | refine blk_alloc ?_ _)); refine blk_far ?_ NB339_345.out _; (with_reducible repeat (first | refine blk_drewN ?_ _ | refine blk_drew ?_ | refine blk_alloc ?_ _)); exact BK339.out) hb); have n1_ := Aside0.mk (blk_below (g := gb345) (o := .cells #[.int .i64 x5_1, .string t347, .string x10_18] 35 (0, 0)) (by (with_reducible repeat (first | refine blk_drewN ?_ _ | refine blk_drew ?_ | refine blk_alloc ?_ _)); refine blk_put (cs := #[.int .i64 x5_1, .string t347, .string (⟨#[]⟩ : ByteArray)]) ?_ 2 _ rfl; (with_reducible repeat (first | refine blk_drewN ?_ _ | refine blk_drew ?_ | refine blk_alloc ?_ _)); refine blk_put (cs := #[.int .i64 x5_1, .string (⟨#[]⟩ : ByteArray), .string (⟨#[]⟩ : ByteArray)]) ?_ 1 _ rfl; (with_reducible repeat (first | refine blk_drewN ?_ _ | refine blk_drew ?_ | refine blk_alloc ?_ _)); exact BK345.out) hb); have n2_ := Aside0.mk (below_step (by repeat (first | (with_reducible first | exact HB.out | apply below_alloc | apply pw_below_drewN | apply below_drew1 | refine below_set ?_ GE339.out | refine below_set ?_ GE345.out) | exact HB.out)) hb); clear BK339; clear BK345; clear HB; have BK339 := n0_; have BK345 := n1_; have HB := n2_; clear n0_ n1_ n2_; (try clear hb); (try clear hb2); (try clear hk); (try clear hi); have hcz44_0 : w43.cell? ⟨gb339, 0, none⟩ = some (.int .i64 x340000_1) := (blk_cell BK339.out 0).trans rfl; have hcz44_1 : w43.cell? ⟨gb339, 1, none⟩ = some (.string x340001_1) := (blk_cell BK339.out 1).trans rfl; have hcz44_2 : w43.cell? ⟨gb339, 2, none⟩ = some (.string x340002_1) := (blk_cell BK339.out 2).trans rfl; have hfz44_0 := blk_frozen BK339.out 0; have hfz44_1 := blk_frozen BK339.out 1; have hfz44_2 := blk_frozen BK339.out 2))
                  repeat (go_quiet (first | (go_at_call 27; (with_reducible refine (linhayref19_Right.calls kj28 x5_1 t347 x10_18 false _ A34.out).mono ?_); rintro e w43 ⟨rfl, hb⟩; have n0_ := Aside0.mk (blk_below (g := gb339) (o := .cells #[.int .i64 x340000_1, .string x340001_1, .string x340002_1] 35 (0, 0)) (by (with_reducible repeat (first | refine blk_drewN ?_ _ | refine blk_drew ?_ | refine blk_alloc ?_ _)); refine blk_far ?_ NB339_345.out _; (with_reducible repeat (first | refine blk_drewN ?_ _ | refine blk_drew ?_ | refine blk_alloc ?_ _)); refine blk_far ?_ NB339_345.out _; (with_reducible repeat (first | refine blk_drewN ?_ _ | refine blk_drew ?_ | refine blk_alloc ?_ _)); exact BK339.out) hb); have n1_ := Aside0.mk (blk_below (g := gb345) (o := .cells #[.int .i64 x5_1, .string t347, .string x10_18] 35 (0, 0)) (by (with_reducible repeat (first | refine blk_drewN ?_ _ | refine blk_drew ?_ | refine blk_alloc ?_ _)); refine blk_put (cs := #[.int .i64 x5_1, .string t347, .string (⟨#[]⟩ : ByteArray)]) ?_ 2 _ rfl; (with_reducible repeat (first | refine blk_drewN ?_ _ | refine blk_drew ?_ | refine blk_alloc ?_ _)); refine blk_put (cs := #[.int .i64 x5_1, .string (⟨#[]⟩ : ByteArray), .string (⟨#[]⟩ : ByteArray)]) ?_ 1 _ rfl; (with_reducible repeat (first | refine blk_drewN ?_ _ | refine blk_drew ?_ | refine blk_alloc ?_ _)); exact BK345.out) hb); have n2_ := Aside0.mk (below_step (by repeat (first | (with_reducible first | exact HB.out | apply below_alloc | apply pw_below_drewN | apply below_drew1 | refine below_set ?_ GE339.out | refine below_set ?_ GE345.out) | exact HB.out)) hb); clear BK339; clear BK345; clear HB; have BK339 := n0_; have BK345 := n1_; have HB := n2_; clear n0_ n1_ n2_; (try clear hb); (try clear hb2); (try clear hk); (try clear hi); have hcz44_0 : w43.cell? ⟨gb339, 0, none⟩ = some (.int .i64 x340000_1) := (blk_cell BK339.out 0).trans rfl; have hcz44_1 : w43.cell? ⟨gb339, 1, none⟩ = some (.string x340001_1) := (blk_cell BK339.out 1).trans rfl; have hcz44_2 : w43.cell? ⟨gb339, 2, none⟩ = some (.string x340002_1) := (blk_cell BK339.out 2).trans rfl; have hfz44_0 := blk_frozen BK339.out 0; have hfz44_1 := blk_frozen BK339.out 1; have hfz44_2 := blk_frozen BK339.out 2)); try go_wp2_with (first | (go_at_call 27; (with_reducible refine (linhayref19_Right.calls kj28 x5_1 t347 x10_18 false _ A34.out).mono ?_); rintro e w43 ⟨rfl, hb⟩; have n0_ := Aside0.mk (blk_below (g := gb339) (o := .cells #[.int .i64 x340000_1, .string x340001_1, .string x340002_1] 35 (0, 0)) (by (with_reducible repeat (first | refine blk_drewN ?_ _ | refine blk_drew ?_ | refine blk_alloc ?_ _)); refine blk_far ?_ NB339_345.out _; (with_reducible repeat (first | refine blk_drewN ?_ _ | refine blk_drew ?_ | refine blk_alloc ?_ _)); refine blk_far ?_ NB339_345.out _; (with_reducible repeat (first | refine blk_drewN ?_ _ | refine blk_drew ?_ | refine blk_alloc ?_ _)); exact BK339.out) hb); have n1_ := Aside0.mk (blk_below (g := gb345) (o := .cells #[.int .i64 x5_1, .string t347, .string x10_18] 35 (0, 0)) (by (with_reducible repeat (first | refine blk_drewN ?_ _ | refine blk_drew ?_ | refine blk_alloc ?_ _)); refine blk_put (cs := #[.int .i64 x5_1, .string t347, .string (⟨#[]⟩ : ByteArray)]) ?_ 2 _ rfl; (with_reducible repeat (first | refine blk_drewN ?_ _ | refine blk_drew ?_ | refine blk_alloc ?_ _)); refine blk_put (cs := #[.int .i64 x5_1, .string (⟨#[]⟩ : ByteArray), .string (⟨#[]⟩ : ByteArray)]) ?_ 1 _ rfl; (with_reducible repeat (first | refine blk_drewN ?_ _ | refine blk_drew ?_ | refine blk_alloc ?_ _)); exact BK345.out) hb); have n2_ := Aside0.mk (below_step (by repeat (first | (with_reducible first | exact HB.out | apply below_alloc | apply pw_below_drewN | apply below_drew1 | refine below_set ?_ GE339.out | refine below_set ?_ GE345.out) | exact HB.out)) hb); clear BK339; clear BK345; clear HB; have BK339 := n0_; have BK345 := n1_; have HB := n2_; clear n0_ n1_ n2_; (try clear hb); (try clear hb2); (try clear hk); (try clear hi); have hcz44_0 : w43.cell? ⟨gb339, 0, none⟩ = some (.int .i64 x340000_1) := (blk_cell BK339.out 0).trans rfl; have hcz44_1 : w43.cell? ⟨gb339, 1, none⟩ = some (.string x340001_1) := (blk_cell BK339.out 1).trans rfl; have hcz44_2 : w43.cell? ⟨gb339, 2, none⟩ = some (.string x340002_1) := (blk_cell BK339.out 2).trans rfl; have hfz44_0 := blk_frozen BK339.out 0; have hfz44_1 := blk_frozen BK339.out 1; have hfz44_2 := blk_frozen BK339.out 2)))
                  refine bodyPost_ret (results_ct rfl _ _ gb339 35 #[.int .i64 0, .string (⟨#[]⟩ : ByteArray), .string (⟨#[]⟩ : ByteArray)] (0, 0) _ rfl (by (with_reducible repeat (first | refine blk_drewN ?_ _ | refine blk_drew ?_ | refine blk_alloc ?_ _)); refine blk_put (cs := #[.int .i64 0, .string (⟨#[]⟩ : ByteArray), .string x340002_1]) ?_ 2 _ rfl; (with_reducible repeat (first | refine blk_drewN ?_ _ | refine blk_drew ?_ | refine blk_alloc ?_ _)); refine blk_put (cs := #[.int .i64 0, .string x340001_1, .string x340002_1]) ?_ 1 _ rfl; (with_reducible repeat (first | refine blk_drewN ?_ _ | refine blk_drew ?_ | refine blk_alloc ?_ _)); refine blk_put (cs := #[.int .i64 x340000_1, .string x340001_1, .string x340002_1]) ?_ 0 _ rfl; (with_reducible repeat (first | refine blk_drewN ?_ _ | refine blk_drew ?_ | refine blk_alloc ?_ _)); exact BK339.out) Tryd.underlying35 rfl (by kernel_rfl)) rfl ?_
                  exact ⟨by first | rfl | (simp [errW_none, errW_some] <;> rfl) | (simp [*, errW_none, errW_some] <;> rfl) | (simp [errW_none, errW_some, bne_nil]; done) | (simp [*, bne_nil]; done), by repeat (first | (with_reducible first | exact HB.out | apply below_alloc | apply pw_below_drewN | apply below_drew1 | refine below_set ?_ GE339.out | refine below_set ?_ GE345.out) | exact HB.out)⟩
           ·
            rw [if_neg c17] at H
            exact absurd H (by simp)
   ·
    rw [if_neg c5] at H
    have c5b0 : decide (x5_1 ≤ 6) = false := decide_eq_false c5
    clear c5
    simp only [Option.some.injEq, Prod.mk.injEq] at H
    obtain ⟨rfl, rfl, rfl, rfl⟩ := H
    have hcz45_0 : wr.cell? ⟨gb339, 0, none⟩ = some (.int .i64 x340000_1) := (blk_cell BK339.out 0).trans rfl
    have hcz45_1 : wr.cell? ⟨gb339, 1, none⟩ = some (.string x340001_1) := (blk_cell BK339.out 1).trans rfl
    have hcz45_2 : wr.cell? ⟨gb339, 2, none⟩ = some (.string x340002_1) := (blk_cell BK339.out 2).trans rfl
    have hfz45_0 := blk_frozen BK339.out 0
    have hfz45_1 := blk_frozen BK339.out 1
    have hfz45_2 := blk_frozen BK339.out 2
    go_wp2
    repeat (go_quiet (fail); try go_wp2)
    refine bodyPost_ret (results_ct rfl _ _ gb339 35 #[.int .i64 0, .string (⟨#[]⟩ : ByteArray), .string (⟨#[]⟩ : ByteArray)] (0, 0) _ rfl (by (with_reducible repeat (first | refine blk_drewN ?_ _ | refine blk_drew ?_ | refine blk_alloc ?_ _)); refine blk_put (cs := #[.int .i64 0, .string (⟨#[]⟩ : ByteArray), .string x340002_1]) ?_ 2 _ rfl; (with_reducible repeat (first | refine blk_drewN ?_ _ | refine blk_drew ?_ | refine blk_alloc ?_ _)); refine blk_put (cs := #[.int .i64 0, .string x340001_1, .string x340002_1]) ?_ 1 _ rfl; (with_reducible repeat (first | refine blk_drewN ?_ _ | refine blk_drew ?_ | refine blk_alloc ?_ _)); refine blk_put (cs := #[.int .i64 x340000_1, .string x340001_1, .string x340002_1]) ?_ 0 _ rfl; (with_reducible repeat (first | refine blk_drewN ?_ _ | refine blk_drew ?_ | refine blk_alloc ?_ _)); exact BK339.out) Tryd.underlying35 rfl (by kernel_rfl)) rfl ?_
    exact ⟨by first | rfl | (simp [errW_none, errW_some] <;> rfl) | (simp [*, errW_none, errW_some] <;> rfl) | (simp [errW_none, errW_some, bne_nil]; done) | (simp [*, bne_nil]; done), by repeat (first | (with_reducible first | exact HB.out | apply below_alloc | apply pw_below_drewN | apply below_drew1 | refine below_set ?_ GE339.out) | exact HB.out)⟩

/-! ### linhayref19_hex: function 51 -/
def linhayref19_hex.f (a0 : Int) : Option (ByteArray) := if a0 < 10 then (some (strOfNums (([(wrap64 (48 + a0)) % 256] : List Int)))) else (some (strOfNums (([(wrap64 (55 + a0)) % 256] : List Int))))
set_option maxHeartbeats 8000000 in
set_option maxRecDepth 100000 in
theorem linhayref19_hex.calls (a0 : Int) (r : ByteArray) (w : World) (h : linhayref19_hex.f a0 = some r) :
  Calls Tryd.prog 51 #[.int .i64 a0] w fun e w' => e = .returned (.string r) ∧ Below w.heap.size w w' := by
 have HB := Aside0.mk (Below.refl w.heap.size w)
 have H : (if a0 < 10 then (some (strOfNums (([(wrap64 (48 + a0)) % 256] : List Int)))) else (some (strOfNums (([(wrap64 (55 + a0)) % 256] : List Int))))) = some r := h
 clear h
 by_cases c2 : a0 < 10
 ·
  rw [if_pos c2] at H
  have c2b0 : decide (a0 < 10) = true := decide_eq_true c2
  clear c2
  obtain ⟨y353, hy353⟩ : ∃ y_ : List Int, y_ = (([(wrap64 (48 + a0)) % 256] : List Int)) := ⟨_, rfl⟩
  replace H : (some (strOfNums y353)) = some r := by first | (rw [hy353]; with_reducible exact H) | (have H2_ := (Option.bind_some _ _).symm.trans H; rw [hy353]; with_reducible exact H2_) | (have H2_ := (Option.bind_some _ _).symm.trans H; with_reducible exact H2_) | with_reducible exact H | (rw [hy353]; exact H) | exact H
  have Ny353 := Aside0.mk hy353
  clear hy353
  obtain rfl := Option.some.inj H
  go_enter Tryd.func51, Tryd.ntmps51
  go_wp2_with (first | ((with_reducible refine gate_dst (N := 8) rfl ?_); refine Kd.R_lit (Kd.int .u8) _ 5 ?hg (N := 8) ?hd (xs := ([(wrap64 (48 + a0)) % 256] : List Int)) (inner := [.int .u8 ((wrap64 (48 + a0)) % 256)]) (ok := fun _ => True) (okp := fun _ => True) ?hr ?hp (fun _ hk => hk) trivial (Below.refl _ _) (Nat.le_refl _) (by simp) ?_; (case hd => rfl); (case hg => rfl); (case hr => first | (go_simp; done) | (go_simp; rfl)); (case hp => exact (Reps.one (show Kd.M (Kd.int .u8) _ _ _ ((wrap64 (48 + a0)) % 256) [.int .u8 ((wrap64 (48 + a0)) % 256)] from rfl) (Reps.none _ _))); intro v354 w3 ho4 hb hg_ hnew_; clear hg_ hnew_; (first | rw [← Ny353.out] at ho4 | (simp only [Int.reduceToNat] at ho4; rw [← Ny353.out] at ho4)); have n0_ := Aside0.mk (Kd.R_lower ho4 (below_size (by repeat (first | (with_reducible first | exact HB.out | apply below_alloc | apply pw_below_drewN | apply below_drew1) | exact HB.out)))); have n1_ := Aside0.mk (below_step (by repeat (first | (with_reducible first | exact HB.out | apply below_alloc | apply pw_below_drewN | apply below_drew1) | exact HB.out)) hb); clear HB; have HO355 := n0_; have HB := n1_; clear n0_ n1_; clear hb ho4; have hcv5 := own_string (P := Tryd.prog) Tryd.underlying61 Tryd.underlying5 Tryd.underlying9 (Kd.own_of_R HO355.out)))
  go_ret
  exact ⟨by first | rfl | (simp [errW_none, errW_some] <;> rfl) | (simp [*, errW_none, errW_some] <;> rfl) | (simp [errW_none, errW_some, bne_nil]; done) | (simp [*, bne_nil]; done), by repeat (first | (with_reducible first | exact HB.out | apply below_alloc | apply pw_below_drewN | apply below_drew1) | exact HB.out)⟩
 ·
  rw [if_neg c2] at H
  have c2b0 : decide (a0 < 10) = false := decide_eq_false c2
  clear c2
  obtain ⟨y356, hy356⟩ : ∃ y_ : List Int, y_ = (([(wrap64 (55 + a0)) % 256] : List Int)) := ⟨_, rfl⟩
  replace H : (some (strOfNums y356)) = some r := by first | (rw [hy356]; with_reducible exact H) | (have H2_ := (Option.bind_some _ _).symm.trans H; rw [hy356]; with_reducible exact H2_) | (have H2_ := (Option.bind_some _ _).symm.trans H; with_reducible exact H2_) | with_reducible exact H | (rw [hy356]; exact H) | exact H
  have Ny356 := Aside0.mk hy356
  clear hy356
  obtain rfl := Option.some.inj H
  go_enter Tryd.func51, Tryd.ntmps51
  go_wp2_with (first | ((with_reducible refine gate_dst (N := 13) rfl ?_); refine Kd.R_lit (Kd.int .u8) _ 5 ?hg (N := 13) ?hd (xs := ([(wrap64 (55 + a0)) % 256] : List Int)) (inner := [.int .u8 ((wrap64 (55 + a0)) % 256)]) (ok := fun _ => True) (okp := fun _ => True) ?hr ?hp (fun _ hk => hk) trivial (Below.refl _ _) (Nat.le_refl _) (by simp) ?_; (case hd => rfl); (case hg => rfl); (case hr => first | (go_simp; done) | (go_simp; rfl)); (case hp => exact (Reps.one (show Kd.M (Kd.int .u8) _ _ _ ((wrap64 (55 + a0)) % 256) [.int .u8 ((wrap64 (55 + a0)) % 256)] from rfl) (Reps.none _ _))); intro v357 w6 ho7 hb hg_ hnew_; clear hg_ hnew_; (first | rw [← Ny356.out] at ho7 | (simp only [Int.reduceToNat] at ho7; rw [← Ny356.out] at ho7)); have n0_ := Aside0.mk (Kd.R_lower ho7 (below_size (by repeat (first | (with_reducible first | exact HB.out | apply below_alloc | apply pw_below_drewN | apply below_drew1) | exact HB.out)))); have n1_ := Aside0.mk (below_step (by repeat (first | (with_reducible first | exact HB.out | apply below_alloc | apply pw_below_drewN | apply below_drew1) | exact HB.out)) hb); clear HB; have HO358 := n0_; have HB := n1_; clear n0_ n1_; clear hb ho7; have hcv8 := own_string (P := Tryd.prog) Tryd.underlying61 Tryd.underlying5 Tryd.underlying9 (Kd.own_of_R HO358.out)))
  go_ret
  exact ⟨by first | rfl | (simp [errW_none, errW_some] <;> rfl) | (simp [*, errW_none, errW_some] <;> rfl) | (simp [errW_none, errW_some, bne_nil]; done) | (simp [*, bne_nil]; done), by repeat (first | (with_reducible first | exact HB.out | apply below_alloc | apply pw_below_drewN | apply below_drew1) | exact HB.out)⟩

/-! ### linhayref19_Shield: function 24 -/
mutual
def linhayref19_Shield.l0 : Nat → ByteArray → ByteArray → Int → Option (ByteArray)
  | 0, _, _, _ => none
  | k + 1, x0, x3, x4 => if x4 < (x0.size : Int) then (if 0 ≤ x4 then (if (wrap64 (bt x0 x4)) < 33 then (linhayref19_Shield.j1 k x0 x3 x4 (wrap64 (bt x0 x4)) true) else (if (wrap64 (bt x0 x4)) > 126 then (linhayref19_Shield.j1 k x0 x3 x4 (wrap64 (bt x0 x4)) true) else (linhayref19_Shield.j1 k x0 x3 x4 (wrap64 (bt x0 x4)) ((wrap64 (bt x0 x4)) == 37)))) else (none)) else (some x3)
def linhayref19_Shield.j1 : Nat → ByteArray → ByteArray → Int → Int → Bool → Option (ByteArray)
  | 0, _, _, _, _, _ => none
  | k + 1, x0, x3, x4, x5, x25 => if x25 = true then ((linhayref19_hex.f (wrap64 (Int.tdiv x5 16))).bind fun t359 => (if 1 + t359.size ≤ 9223372036854775807 then ((linhayref19_hex.f (Int.tmod x5 16)).bind fun t360 => (if ((⟨#[37]⟩ : ByteArray) ++ t359).size + t360.size ≤ 9223372036854775807 then (if x3.size + (((⟨#[37]⟩ : ByteArray) ++ t359) ++ t360).size ≤ 9223372036854775807 then (linhayref19_Shield.l0 k x0 (x3 ++ (((⟨#[37]⟩ : ByteArray) ++ t359) ++ t360)) (wrap64 (x4 + 1))) else (none)) else (none))) else (none))) else (if 0 ≤ x4 then (if x4 ≤ (wrap64 (x4 + 1)) then (if (wrap64 (x4 + 1)) ≤ (x0.size : Int) then (if x3.size + (x0.extract (x4 : Int).toNat ((wrap64 (x4 + 1)) : Int).toNat).size ≤ 9223372036854775807 then (linhayref19_Shield.l0 k x0 (x3 ++ (x0.extract (x4 : Int).toNat ((wrap64 (x4 + 1)) : Int).toNat)) (wrap64 (x4 + 1))) else (none)) else (none)) else (none)) else (none))
end
def linhayref19_Shield.f (k : Nat) (a0 : ByteArray) : Option (ByteArray) := linhayref19_Shield.l0 k a0 (⟨#[]⟩ : ByteArray) 0
theorem linhayref19_Shield.mono_l : ∀ k, (∀ y0 y1 y2, LeO (linhayref19_Shield.l0 k y0 y1 y2) (linhayref19_Shield.l0 (k + 1) y0 y1 y2)) ∧ (∀ y0 y1 y2 y3 y4, LeO (linhayref19_Shield.j1 k y0 y1 y2 y3 y4) (linhayref19_Shield.j1 (k + 1) y0 y1 y2 y3 y4))
 | 0 => ⟨fun _ _ _ r h => by simp [linhayref19_Shield.l0] at h, fun _ _ _ _ _ r h => by simp [linhayref19_Shield.j1] at h⟩
 | k + 1 => by
  obtain ⟨ih0, ih1⟩ := linhayref19_Shield.mono_l k
  refine ⟨?_, ?_⟩
  ·
   intro y0 y1 y2
   unfold linhayref19_Shield.l0
   repeat' first
   | (with_reducible exact ih0 _ _ _)
   | (with_reducible exact ih1 _ _ _ _ _)
   | (with_reducible exact LeO.refl _)
   | (with_reducible exact LeO.none _)
   | (with_reducible refine LeO.ite ?_ ?_)
   | (with_reducible refine LeO.bind ?_ (fun _ => ?_))
   | exact ih0 _ _ _
   | exact ih1 _ _ _ _ _
   | exact LeO.none _
   | refine LeO.ite ?_ ?_
   | refine LeO.bind ?_ (fun _ => ?_)
  ·
   intro y0 y1 y2 y3 y4
   unfold linhayref19_Shield.j1
   repeat' first
   | (with_reducible exact ih0 _ _ _)
   | (with_reducible exact ih1 _ _ _ _ _)
   | (with_reducible exact LeO.refl _)
   | (with_reducible exact LeO.none _)
   | (with_reducible refine LeO.ite ?_ ?_)
   | (with_reducible refine LeO.bind ?_ (fun _ => ?_))
   | exact ih0 _ _ _
   | exact ih1 _ _ _ _ _
   | exact LeO.none _
   | refine LeO.ite ?_ ?_
   | refine LeO.bind ?_ (fun _ => ?_)
theorem linhayref19_Shield.mono : ∀ a0 k, LeO (linhayref19_Shield.f k a0) (linhayref19_Shield.f (k + 1) a0) := by
 intro a0 k
 obtain ⟨ih0, ih1⟩ := linhayref19_Shield.mono_l k
 unfold linhayref19_Shield.f
 repeat' first
   | (with_reducible exact ih0 _ _ _)
   | (with_reducible exact ih1 _ _ _ _ _)
   | (with_reducible exact LeO.refl _)
   | (with_reducible exact LeO.none _)
   | (with_reducible refine LeO.ite ?_ ?_)
   | (with_reducible refine LeO.bind ?_ (fun _ => ?_))
   | exact ih0 _ _ _
   | exact ih1 _ _ _ _ _
   | exact LeO.none _
   | refine LeO.ite ?_ ?_
   | refine LeO.bind ?_ (fun _ => ?_)
set_option maxHeartbeats 8000000 in
set_option maxRecDepth 100000 in
theorem linhayref19_Shield.calls (k : Nat) (a0 : ByteArray) (r : ByteArray) (w : World) (h : linhayref19_Shield.f k a0 = some r) :
  Calls Tryd.prog 24 #[.string a0] w fun e w' => e = .returned (.string r) ∧ Below w.heap.size w w' := by
 have HB := Aside0.mk (Below.refl w.heap.size w)
 have H : (linhayref19_Shield.l0 k a0 (⟨#[]⟩ : ByteArray) 0) = some r := h
 clear h
 have H' := Aside0.mk H
 clear H
 go_enter Tryd.func24, Tryd.ntmps24
 go_wp2
 go_loopg [3, 4] k (fun kq v3 v4 w' => ∃ (x3_1 : ByteArray) (x4_1 : Int), v3 = .string x3_1 ∧ v4 = .int .i64 x4_1 ∧ Aside0 (linhayref19_Shield.l0 kq a0 x3_1 x4_1 = some r) ∧ Aside0 (kq ≤ k) ∧ Aside0 (Below w.heap.size w w'))
 case atStart => exact ⟨((⟨#[]⟩ : ByteArray)), (0), (by first | rfl | (simp; done) | (simp [*]; done)), (by first | rfl | (simp; done) | (simp [*]; done)), H', ⟨Nat.le_refl _⟩, ⟨by repeat (first | (with_reducible first | exact HB.out | apply below_alloc | apply pw_below_drewN | apply below_drew1) | exact HB.out)⟩⟩
 case round =>
  clear H'
  obtain ⟨x3_1, x4_1, rfl, rfl, HA, HK1, HB⟩ := hrel
  cases gk with
  | zero => exact absurd HA.out (by simp [linhayref19_Shield.l0])
  | succ k1 =>
   have H := HA.out
   clear HA
   simp only [linhayref19_Shield.l0] at H
   by_cases c2 : x4_1 < (a0.size : Int)
   ·
    rw [if_pos c2] at H
    have c2b0 : decide (x4_1 < (a0.size : Int)) = true := decide_eq_true c2
    clear c2
    by_cases c3 : 0 ≤ x4_1
    ·
     rw [if_pos c3] at H
     have c3b0 : decide (0 ≤ x4_1) = true := decide_eq_true c3
     clear c3
     have HC5 := Aside0.mk H
     clear H
     have p4 : 0 ≤ (x4_1 : Int) := of_decide_eq_true (by first | (with_reducible assumption) | assumption)
     have q4 : x4_1 < (a0.size : Int) := of_decide_eq_true (by first | (with_reducible assumption) | assumption)
     have hx4 := bt_at a0 x4_1
     replace p4 := eq_true p4
     replace q4 := eq_true q4
     go_upto_region 6 with (fail)
     go_cut [25] (fun v25 wc => ∃ (kq : Nat) (x25_4 : Bool), v25 = .bool x25_4 ∧ Aside0 (linhayref19_Shield.j1 kq a0 x3_1 x4_1 (wrap64 (bt a0 x4_1)) x25_4 = some r) ∧ Aside0 (kq ≤ k1) ∧ Aside0 (Below w.heap.size w wc))
     case first =>
      have H := HC5.out
      clear HC5
      by_cases c6 : (wrap64 (bt a0 x4_1)) < 33
      ·
       rw [if_pos c6] at H
       have c6b0 : decide ((wrap64 (bt a0 x4_1)) < 33) = true := decide_eq_true c6
       clear c6
       (first | rw [c6b0] | (simp only [i64_w, i32_w]; rw [c6b0]) | skip)
       have H' := Aside0.mk H
       clear H
       go_wp2
       go_meet
       case rel => exact ⟨_, (true), (by first | rfl | (simp; done) | (simp [*]; done)), H', ⟨by have := HK1.out; first | omega | exact Nat.le_refl _⟩, ⟨by repeat (first | (with_reducible first | exact HB.out | apply below_alloc | apply pw_below_drewN | apply below_drew1) | exact HB.out)⟩⟩
      ·
       rw [if_neg c6] at H
       have c6b0 : decide ((wrap64 (bt a0 x4_1)) < 33) = false := decide_eq_false c6
       clear c6
       (first | rw [c6b0] | (simp only [i64_w, i32_w]; rw [c6b0]) | skip)
       by_cases c7 : (wrap64 (bt a0 x4_1)) > 126
       ·
        rw [if_pos c7] at H
        have c7b0 : decide (126 < (wrap64 (bt a0 x4_1))) = true := decide_eq_true c7
        clear c7
        have H' := Aside0.mk H
        clear H
        go_wp2
        go_meet
        case rel => exact ⟨_, (true), (by first | rfl | (simp; done) | (simp [*]; done)), H', ⟨by have := HK1.out; first | omega | exact Nat.le_refl _⟩, ⟨by repeat (first | (with_reducible first | exact HB.out | apply below_alloc | apply pw_below_drewN | apply below_drew1) | exact HB.out)⟩⟩
       ·
        rw [if_neg c7] at H
        have c7b0 : decide (126 < (wrap64 (bt a0 x4_1))) = false := decide_eq_false c7
        clear c7
        have H' := Aside0.mk H
        clear H
        go_wp2
        go_meet
        case rel => exact ⟨_, (((wrap64 (bt a0 x4_1)) == 37)), (by first | rfl | (simp; done) | (simp [*]; done)), H', ⟨by have := HK1.out; first | omega | exact Nat.le_refl _⟩, ⟨by repeat (first | (with_reducible first | exact HB.out | apply below_alloc | apply pw_below_drewN | apply below_drew1) | exact HB.out)⟩⟩
     case rest =>
      clear HC5
      try clear c2
      try clear c2b0
      try clear p2
      try clear c3
      try clear c3b0
      try clear p4
      try clear q4
      try clear hx4
      try clear c6
      try clear c6b0
      try clear p6
      try clear c7
      try clear c7b0
      try clear p4
      try clear q4
      obtain ⟨kq, x25_4, rfl, HA, HJ4, HB⟩ := hcut
      cases kq with
      | zero => exact absurd HA.out (by simp [linhayref19_Shield.j1])
      | succ kj4 =>
       have H := HA.out
       clear HA
       simp only [linhayref19_Shield.j1] at H
       by_cases c8 : x25_4 = true
       ·
        subst c8
        have H1 : ((linhayref19_hex.f (wrap64 (Int.tdiv (wrap64 (bt a0 x4_1)) 16))).bind fun t359 => (if 1 + t359.size ≤ 9223372036854775807 then ((linhayref19_hex.f (Int.tmod (wrap64 (bt a0 x4_1)) 16)).bind fun t360 => (if ((⟨#[37]⟩ : ByteArray) ++ t359).size + t360.size ≤ 9223372036854775807 then (if x3_1.size + (((⟨#[37]⟩ : ByteArray) ++ t359) ++ t360).size ≤ 9223372036854775807 then (linhayref19_Shield.l0 kj4 a0 (x3_1 ++ (((⟨#[37]⟩ : ByteArray) ++ t359) ++ t360)) (wrap64 (x4_1 + 1))) else (none)) else (none))) else (none))) = some r := by rw [if_pos rfl] at H; exact H
        clear H
        have H := H1
        clear H1
        replace H := Option.bind_eq_some_iff.mp H
        obtain ⟨t359, A90, H⟩ := H
        replace H : (if 1 + t359.size ≤ 9223372036854775807 then ((linhayref19_hex.f (Int.tmod (wrap64 (bt a0 x4_1)) 16)).bind fun t360 => (if ((⟨#[37]⟩ : ByteArray) ++ t359).size + t360.size ≤ 9223372036854775807 then (if x3_1.size + (((⟨#[37]⟩ : ByteArray) ++ t359) ++ t360).size ≤ 9223372036854775807 then (linhayref19_Shield.l0 kj4 a0 (x3_1 ++ (((⟨#[37]⟩ : ByteArray) ++ t359) ++ t360)) (wrap64 (x4_1 + 1))) else (none)) else (none))) else (none)) = some r := H
        have A9 := Aside0.mk A90
        clear A90
        by_cases c10 : 1 + t359.size ≤ 9223372036854775807
        ·
         rw [if_pos c10] at H
         have c10b0 := eq_true c10
         have c10b1 : decide (1 + t359.size ≤ 9223372036854775807) = true := decide_eq_true c10
         try have c10b2 : (9223372036854775807 < 1 + t359.size) = False := eq_false (Nat.not_lt.2 c10)
         try (have c10b3 : ∀ m_ : Nat, 9223372036854775807 ≤ m_ → 1 + t359.size ≤ m_ := fun m_ h_ => Nat.le_trans c10 h_; simp [go_sem, *] at c10b3; have c10b4 := eq_false (Nat.not_lt.2 (c10b3 _ (Nat.le_refl _))); clear c10b3)
         replace H := Option.bind_eq_some_iff.mp H
         obtain ⟨t360, A110, H⟩ := H
         replace H : (if ((⟨#[37]⟩ : ByteArray) ++ t359).size + t360.size ≤ 9223372036854775807 then (if x3_1.size + (((⟨#[37]⟩ : ByteArray) ++ t359) ++ t360).size ≤ 9223372036854775807 then (linhayref19_Shield.l0 kj4 a0 (x3_1 ++ (((⟨#[37]⟩ : ByteArray) ++ t359) ++ t360)) (wrap64 (x4_1 + 1))) else (none)) else (none)) = some r := H
         have A11 := Aside0.mk A110
         clear A110
         by_cases c12 : ((⟨#[37]⟩ : ByteArray) ++ t359).size + t360.size ≤ 9223372036854775807
         ·
          rw [if_pos c12] at H
          have c12b0 := eq_true c12
          have c12b1 : decide (((⟨#[37]⟩ : ByteArray) ++ t359).size + t360.size ≤ 9223372036854775807) = true := decide_eq_true c12
          try have c12b2 : (9223372036854775807 < ((⟨#[37]⟩ : ByteArray) ++ t359).size + t360.size) = False := eq_false (Nat.not_lt.2 c12)
          try (have c12b3 : ∀ m_ : Nat, 9223372036854775807 ≤ m_ → ((⟨#[37]⟩ : ByteArray) ++ t359).size + t360.size ≤ m_ := fun m_ h_ => Nat.le_trans c12 h_; simp [go_sem, *] at c12b3; have c12b4 := eq_false (Nat.not_lt.2 (c12b3 _ (Nat.le_refl _))); clear c12b3)
          by_cases c13 : x3_1.size + (((⟨#[37]⟩ : ByteArray) ++ t359) ++ t360).size ≤ 9223372036854775807
          ·
           rw [if_pos c13] at H
           have c13b0 := eq_true c13
           have c13b1 : decide (x3_1.size + (((⟨#[37]⟩ : ByteArray) ++ t359) ++ t360).size ≤ 9223372036854775807) = true := decide_eq_true c13
           try have c13b2 : (9223372036854775807 < x3_1.size + (((⟨#[37]⟩ : ByteArray) ++ t359) ++ t360).size) = False := eq_false (Nat.not_lt.2 c13)
           try (have c13b3 : ∀ m_ : Nat, 9223372036854775807 ≤ m_ → x3_1.size + (((⟨#[37]⟩ : ByteArray) ++ t359) ++ t360).size ≤ m_ := fun m_ h_ => Nat.le_trans c13 h_; simp [go_sem, *] at c13b3; have c13b4 := eq_false (Nat.not_lt.2 (c13b3 _ (Nat.le_refl _))); clear c13b3)
           have H' := Aside0.mk H
           clear H
           go_wp2_with (first | ((with_reducible refine gate_callee (f := 51) rfl ?_); refine goesL_ (some 29) rfl rfl Tryd.func51 (by kernel_rfl) rfl #[.int .i64 (wrap64 (Int.tdiv (wrap64 (bt a0 x4_1)) 16))] rfl (by (try simp only [List.map_toArray, List.map_cons, List.map_nil]); first | done | rfl | (simp only [List.length_drop, List.length_take]; rfl)) ?_; (with_reducible refine (linhayref19_hex.calls (wrap64 (Int.tdiv (wrap64 (bt a0 x4_1)) 16)) t359 _ A9.out).mono ?_); rintro e w14 ⟨rfl, hb⟩; refine ⟨_, rfl, ?_⟩; have n0_ := Aside0.mk (below_step (by repeat (first | (with_reducible first | exact HB.out | apply below_alloc | apply pw_below_drewN | apply below_drew1) | exact HB.out)) hb); clear HB; have HB := n0_; clear n0_; (try clear hb); (try clear hb2); (try clear hk); (try clear hi)) | ((with_reducible refine gate_callee (f := 51) rfl ?_); refine goesL_ (some 33) rfl rfl Tryd.func51 (by kernel_rfl) rfl #[.int .i64 (Int.tmod (wrap64 (bt a0 x4_1)) 16)] rfl (by (try simp only [List.map_toArray, List.map_cons, List.map_nil]); first | done | rfl | (simp only [List.length_drop, List.length_take]; rfl)) ?_; (with_reducible refine (linhayref19_hex.calls (Int.tmod (wrap64 (bt a0 x4_1)) 16) t360 _ A11.out).mono ?_); rintro e w15 ⟨rfl, hb⟩; refine ⟨_, rfl, ?_⟩; have n0_ := Aside0.mk (below_step (by repeat (first | (with_reducible first | exact HB.out | apply below_alloc | apply pw_below_drewN | apply below_drew1) | exact HB.out)) hb); clear HB; have HB := n0_; clear n0_; (try clear hb); (try clear hb2); (try clear hk); (try clear hi)))
           go_roundg kj4
           case measure => have := HK1.out; have := HJ4.out; omega
           case rel => exact ⟨(x3_1 ++ (((⟨#[37]⟩ : ByteArray) ++ t359) ++ t360)), (wrap64 (x4_1 + 1)), (by first | rfl | (simp; done) | (simp [*]; done)), (by first | rfl | (simp; done) | (simp [*]; done)), H', ⟨by have := HK1.out; have := HJ4.out; omega⟩, ⟨by repeat (first | (with_reducible first | exact HB.out | apply below_alloc | apply pw_below_drewN | apply below_drew1) | exact HB.out)⟩⟩
          ·
           rw [if_neg c13] at H
           exact absurd H (by simp)
         ·
          rw [if_neg c12] at H
          exact absurd H (by simp)
        ·
         rw [if_neg c10] at H
         exact absurd H (by simp)
       ·
        replace c8 := Bool.eq_false_iff.mpr c8
        subst c8
        have H1 : (if 0 ≤ x4_1 then (if x4_1 ≤ (wrap64 (x4_1 + 1)) then (if (wrap64 (x4_1 + 1)) ≤ (a0.size : Int) then (if x3_1.size + (a0.extract (x4_1 : Int).toNat ((wrap64 (x4_1 + 1)) : Int).toNat).size ≤ 9223372036854775807 then (linhayref19_Shield.l0 kj4 a0 (x3_1 ++ (a0.extract (x4_1 : Int).toNat ((wrap64 (x4_1 + 1)) : Int).toNat)) (wrap64 (x4_1 + 1))) else (none)) else (none)) else (none)) else (none)) = some r := by rw [if_neg (show ¬ (false = true) by decide)] at H; exact H
        clear H
        have H := H1
        clear H1
        by_cases c16 : 0 ≤ x4_1
        ·
         rw [if_pos c16] at H
         have c16b0 := eq_true c16
         have c16b1 : decide (0 ≤ x4_1) = true := decide_eq_true c16
         clear c16
         by_cases c17 : x4_1 ≤ (wrap64 (x4_1 + 1))
         ·
          rw [if_pos c17] at H
          have c17b0 := eq_true c17
          have c17b1 : decide (x4_1 ≤ (wrap64 (x4_1 + 1))) = true := decide_eq_true c17
          by_cases c18 : (wrap64 (x4_1 + 1)) ≤ (a0.size : Int)
          ·
           rw [if_pos c18] at H
           have c18b0 := eq_true c18
           have c18b1 : decide ((wrap64 (x4_1 + 1)) ≤ (a0.size : Int)) = true := decide_eq_true c18
           by_cases c19 : x3_1.size + (a0.extract (x4_1 : Int).toNat ((wrap64 (x4_1 + 1)) : Int).toNat).size ≤ 9223372036854775807
           ·
            rw [if_pos c19] at H
            have c19b0 := eq_true c19
            have c19b1 : decide (x3_1.size + (a0.extract (x4_1 : Int).toNat ((wrap64 (x4_1 + 1)) : Int).toNat).size ≤ 9223372036854775807) = true := decide_eq_true c19
            try have c19b2 : (9223372036854775807 < x3_1.size + (a0.extract (x4_1 : Int).toNat ((wrap64 (x4_1 + 1)) : Int).toNat).size) = False := eq_false (Nat.not_lt.2 c19)
            try (have c19b3 : ∀ m_ : Nat, 9223372036854775807 ≤ m_ → x3_1.size + (a0.extract (x4_1 : Int).toNat ((wrap64 (x4_1 + 1)) : Int).toNat).size ≤ m_ := fun m_ h_ => Nat.le_trans c19 h_; simp [go_sem, *] at c19b3; have c19b4 := eq_false (Nat.not_lt.2 (c19b3 _ (Nat.le_refl _))); clear c19b3)
            have H' := Aside0.mk H
            clear H
            go_wp2
            go_roundg kj4
            case measure => have := HK1.out; have := HJ4.out; omega
            case rel => exact ⟨(x3_1 ++ (a0.extract (x4_1 : Int).toNat ((wrap64 (x4_1 + 1)) : Int).toNat)), (wrap64 (x4_1 + 1)), (by first | rfl | (simp; done) | (simp [*]; done)), (by first | rfl | (simp; done) | (simp [*]; done)), H', ⟨by have := HK1.out; have := HJ4.out; omega⟩, ⟨by repeat (first | (with_reducible first | exact HB.out | apply below_alloc | apply pw_below_drewN | apply below_drew1) | exact HB.out)⟩⟩
           ·
            rw [if_neg c19] at H
            exact absurd H (by simp)
          ·
           rw [if_neg c18] at H
           exact absurd H (by simp)
         ·
          rw [if_neg c17] at H
          exact absurd H (by simp)
        ·
         rw [if_neg c16] at H
         exact absurd H (by simp)
    ·
     rw [if_neg c3] at H
     exact absurd H (by simp)
   ·
    rw [if_neg c2] at H
    have c2b0 : decide (x4_1 < (a0.size : Int)) = false := decide_eq_false c2
    clear c2
    obtain rfl := Option.some.inj H
    go_wp2
    go_ret
    exact ⟨by first | rfl | (simp [errW_none, errW_some] <;> rfl) | (simp [*, errW_none, errW_some] <;> rfl) | (simp [errW_none, errW_some, bne_nil]; done) | (simp [*, bne_nil]; done), by repeat (first | (with_reducible first | exact HB.out | apply below_alloc | apply pw_below_drewN | apply below_drew1) | exact HB.out)⟩

end Go.Proofs.YtocpdhbkfgolfaaDoor.X
