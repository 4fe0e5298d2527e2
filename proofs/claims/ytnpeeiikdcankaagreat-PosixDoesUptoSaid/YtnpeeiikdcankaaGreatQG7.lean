/- linhaylaw09.PosixDoes, walked: it returns true. -/
import Derived.Test.YtnpeeiikdcankaaGreatQG1
import Derived.Test.YtnpeeiikdcankaaGreatQG5
import Derived.Test.YtnpeeiikdcankaaGreatQG6

set_option linter.unusedVariables false
set_option linter.unusedSimpArgs false

namespace Go.Proofs.YtnpeeiikdcankaaGreat.Ext
end Go.Proofs.YtnpeeiikdcankaaGreat.Ext
namespace Go.Proofs.YtnpeeiikdcankaaGreat.X
open Go.RowKit Go.Proofs.YtnpeeiikdcankaaGreatW.PrintWords Go.Proofs.YtnpeeiikdcankaaGreatW.PrintLast Go.Proofs.YtnpeeiikdcankaaGreatW.PrintMore Go.Proofs.YtnpeeiikdcankaaGreat.Ext
attribute [local go_sem] max2_int min2_int max_two min_two max_three min_three max_four min_four   -- for this text's walks alone

def linhaylaw09_Short.l0 : Nat → List (S36) → Int → Int → Option (Bool)
 | 0, _, _, _ => none
 | k + 1, x0, x1, x5 => if x5 < (x0.length : Int) then (if 0 ≤ x5 then (if (((rd_T36 x0 x5).f1).size : Int) > 2000 then (some false) else (if (((rd_T36 x0 x5).f2).size : Int) > 2000 then (some false) else (linhaylaw09_Short.l0 k x0 x1 (wrap64 (x5 + 1))))) else (none)) else (some (decide ((x0.length : Int) ≤ x1)))
def linhaylaw09_Short.f (k : Nat) (l0 : List (S36)) (a1 : Int) : Option (Bool) := linhaylaw09_Short.l0 k l0 a1 0
set_option maxHeartbeats 8000000 in
set_option maxRecDepth 100000 in
theorem linhaylaw09_Short.calls (k : Nat) (A0 : Option Addr) (c0 : Nat) (l0 : List (S36)) (a1 : Int) (r : Bool) (w : World) (hr0 : Kd.C k36 w A0 l0.length l0) (hc0 : l0.length ≤ c0) (h : linhaylaw09_Short.f k l0 a1 = some r) :
  Calls Tryz.prog 12 #[.slice A0 l0.length c0, .int .i64 a1] w fun e w' => e = .returned (.bool r) ∧ Drawn0 w w' := by
 have hu36 := Tryz.underlying36
 have hu49 := Tryz.underlying49
 have hu66 := Tryz.underlying66
 have hu93 := Tryz.underlying93
 have hu106 := Tryz.underlying106
 have hu115 := Tryz.underlying115
 have hu130 := Tryz.underlying130
 have hu162 := Tryz.underlying162
 have HR0 := Aside0.mk hr0
 have HC0 := Aside0.mk hc0
 clear hr0 hc0
 have H : (linhaylaw09_Short.l0 k l0 a1 0) = some r := h
 clear h
 have H' := Aside0.mk H
 clear H
 go_enter Tryz.func12, Tryz.ntmps12
 go_wp2
 go_loopg [5] k (fun kq v5 w' => ∃ (x5_1 : Int), v5 = .int .i64 x5_1 ∧ Aside0 (linhaylaw09_Short.l0 kq l0 a1 x5_1 = some r) ∧ Aside0 (kq ≤ k) ∧ Drawn0 w w')
 case atStart => exact ⟨(0), (by first | rfl | (simp; done) | (simp [*]; done) | (simp [bne_nil]; done)), H', ⟨Nat.le_refl _⟩, by repeat (first | exact Drawn0.refl _ | apply Drawn0.step)⟩
 case round =>
  clear H'
  try clear c1
  try clear p2
  obtain ⟨x5_1, rfl, HA, HK1, ⟨m1, rfl⟩⟩ := hrel
  cases gk with
  | zero => exact absurd HA.out (by simp [linhaylaw09_Short.l0])
  | succ k1 =>
   have H := HA.out
   clear HA
   simp only [linhaylaw09_Short.l0] at H
   by_cases c3 : x5_1 < (l0.length : Int)
   ·
    rw [if_pos c3] at H
    have c3b0 : decide (x5_1 < (l0.length : Int)) = true := decide_eq_true c3
    clear c3
    by_cases c4 : 0 ≤ x5_1
    ·
     rw [if_pos c4] at H
     have c4b0 : decide (0 ≤ x5_1) = true := decide_eq_true c4
     clear c4
     by_cases c5 : (((rd_T36 l0 x5_1).f1).size : Int) > 2000
     ·
      rw [if_pos c5] at H
      have c5b0 : decide (2000 < (((rd_T36 l0 x5_1).f1).size : Int)) = true := decide_eq_true c5
      have c5b1 : decide (2000 < ((rd_T36 l0 x5_1).f1).size) = true := decide_eq_true (by omega)
      clear c5
      obtain rfl := Option.some.inj H
      have p251 : 0 ≤ (x5_1 : Int) := of_decide_eq_true (by first | (with_reducible assumption) | assumption)
      have q251 : x5_1 < (l0.length : Int) := of_decide_eq_true (by first | (with_reducible assumption) | assumption)
      obtain ⟨ad251, e251, hx251_0, hx251_1, hx251_2⟩ := at_T36 HR0.out x5_1 p251 q251
      cases e251
      replace p251 := eq_true p251
      replace q251 := eq_true q251
      go_wp2
      go_ret
      exact ⟨by first | rfl | (simp; done) | (simp [*]; done), by repeat (first | exact Drawn0.refl _ | apply Drawn0.step)⟩
     ·
      rw [if_neg c5] at H
      have c5b0 : decide (2000 < (((rd_T36 l0 x5_1).f1).size : Int)) = false := decide_eq_false c5
      have c5b1 : decide (2000 < ((rd_T36 l0 x5_1).f1).size) = false := decide_eq_false (by omega)
      clear c5
      by_cases c6 : (((rd_T36 l0 x5_1).f2).size : Int) > 2000
      ·
       rw [if_pos c6] at H
       have c6b0 : decide (2000 < (((rd_T36 l0 x5_1).f2).size : Int)) = true := decide_eq_true c6
       have c6b1 : decide (2000 < ((rd_T36 l0 x5_1).f2).size) = true := decide_eq_true (by omega)
       clear c6
       obtain rfl := Option.some.inj H
       have p251 : 0 ≤ (x5_1 : Int) := of_decide_eq_true (by first | (with_reducible assumption) | assumption)
       have q251 : x5_1 < (l0.length : Int) := of_decide_eq_true (by first | (with_reducible assumption) | assumption)
       obtain ⟨ad251, e251, hx251_0, hx251_1, hx251_2⟩ := at_T36 HR0.out x5_1 p251 q251
       cases e251
       replace p251 := eq_true p251
       replace q251 := eq_true q251
       have p252 : 0 ≤ (x5_1 : Int) := of_decide_eq_true (by first | (with_reducible assumption) | assumption)
       have q252 : x5_1 < (l0.length : Int) := of_decide_eq_true (by first | (with_reducible assumption) | assumption)
       obtain ⟨ad252, e252, hx252_0, hx252_1, hx252_2⟩ := at_T36 HR0.out x5_1 p252 q252
       obtain rfl : ad251 = ad252 := (by injection e252)
       replace p252 := eq_true p252
       replace q252 := eq_true q252
       go_wp2
       go_ret
       exact ⟨by first | rfl | (simp; done) | (simp [*]; done), by repeat (first | exact Drawn0.refl _ | apply Drawn0.step)⟩
      ·
       rw [if_neg c6] at H
       have c6b0 : decide (2000 < (((rd_T36 l0 x5_1).f2).size : Int)) = false := decide_eq_false c6
       have c6b1 : decide (2000 < ((rd_T36 l0 x5_1).f2).size) = false := decide_eq_false (by omega)
       clear c6
       have H' := Aside0.mk H
       clear H
       have p251 : 0 ≤ (x5_1 : Int) := of_decide_eq_true (by first | (with_reducible assumption) | assumption)
       have q251 : x5_1 < (l0.length : Int) := of_decide_eq_true (by first | (with_reducible assumption) | assumption)
       obtain ⟨ad251, e251, hx251_0, hx251_1, hx251_2⟩ := at_T36 HR0.out x5_1 p251 q251
       cases e251
       replace p251 := eq_true p251
       replace q251 := eq_true q251
       have p252 : 0 ≤ (x5_1 : Int) := of_decide_eq_true (by first | (with_reducible assumption) | assumption)
       have q252 : x5_1 < (l0.length : Int) := of_decide_eq_true (by first | (with_reducible assumption) | assumption)
       obtain ⟨ad252, e252, hx252_0, hx252_1, hx252_2⟩ := at_T36 HR0.out x5_1 p252 q252
       obtain rfl : ad251 = ad252 := (by injection e252)
       replace p252 := eq_true p252
       replace q252 := eq_true q252
       go_wp2
       go_roundg k1
       case measure => have := HK1.out; omega
       case rel => exact ⟨(wrap64 (x5_1 + 1)), (by first | rfl | (simp; done) | (simp [*]; done) | (simp [bne_nil]; done)), H', ⟨by have := HK1.out; omega⟩, by repeat (first | exact Drawn0.refl _ | apply Drawn0.step)⟩
    ·
     rw [if_neg c4] at H
     exact absurd H (by simp)
   ·
    rw [if_neg c3] at H
    have c3b0 : decide (x5_1 < (l0.length : Int)) = false := decide_eq_false c3
    clear c3
    obtain rfl := Option.some.inj H
    go_wp2
    go_ret
    exact ⟨by first | rfl | (simp; done) | (simp [*]; done), by repeat (first | exact Drawn0.refl _ | apply Drawn0.step)⟩

end Go.Proofs.YtnpeeiikdcankaaGreat.X

namespace Go.Proofs.YtnpeeiikdcankaaGreat.Tw
open Go Go.RowKit Go.Shelf Go.Proofs Go.Proofs.YtnpeeiikdcankaaGreat Go.Proofs.YtnpeeiikdcankaaGreatW.PrintWords Go.Proofs.YtnpeeiikdcankaaGreat.Ext Go.Proofs.YtnpeeiikdcankaaGreat.X Go.Proofs.YtnpeeiikdcankaaGreat.Pu
abbrev TK := S36
def bulkT (x : TK) : Nat := 1 + (x.f1.size + 1 + (x.f2.size + 1)) + 1
theorem len_bulkA {α : Type} (β : α → Nat) (h1 : ∀ x, 1 ≤ β x) : ∀ l : List α, l.length ≤ (l.map β).sum := by
 intro l
 induction l with
 | nil => simp
 | cons x l ih =>
  rw [List.map_cons, List.sum_cons, List.length_cons]
  have := h1 x
  omega
theorem short_ev (l : List TK) (m : Int) (hl : l.length < 4294967296) : ∃ b, Ev (fun k => linhaylaw09_Short.f k l m) b ∧ (b = true → (l.length : Int) ≤ m) := by
 have key : ∀ (d i : Nat), i + d = l.length → ∃ b, Ev (fun k => linhaylaw09_Short.l0 k l m (i : Int)) b ∧ (b = true → (l.length : Int) ≤ m) := by
  intro d
  induction d with
  | zero =>
   intro i hi
   refine ⟨decide ((l.length : Int) ≤ m), ?_, fun h => of_decide_eq_true h⟩
   refine Ev.step (fun k => by rw [linhaylaw09_Short.l0]) ?_
   exact ev_neg (by omega) (Ev.now _)
  | succ d ih =>
   intro i hi
   obtain ⟨b, hb, hb2⟩ := ih (i + 1) (by omega)
   by_cases c1 : (((rd_T36 l (i : Int)).f1).size : Int) > 2000
   · refine ⟨false, Ev.step (fun k => by rw [linhaylaw09_Short.l0]) (ev_pos (by omega) (ev_pos (by omega) (ev_pos c1 (Ev.now _)))), fun h => by cases h⟩
   ·
    by_cases c2 : (((rd_T36 l (i : Int)).f2).size : Int) > 2000
    · refine ⟨false, Ev.step (fun k => by rw [linhaylaw09_Short.l0]) (ev_pos (by omega) (ev_pos (by omega) (ev_neg c1 (ev_pos c2 (Ev.now _))))), fun h => by cases h⟩
    ·
     refine ⟨b, Ev.step (fun k => by rw [linhaylaw09_Short.l0]) (ev_pos (by omega) (ev_pos (by omega) (ev_neg c1 (ev_neg c2 ?_)))), hb2⟩
     rw [w1 (by omega)]
     exact hb
 unfold linhaylaw09_Short.f
 exact key l.length 0 (by omega)
structure DW (w wr : World) (p B g : Nat) (L : List RN) (last : Int) : Prop where
 hb : Below w.heap.size w wr
 tree : TreeB wr p B (trOf L last)
 cell : ∃ A c, wr.heap[g]? = some (.cells #[.slice A L.length c, .int .i64 last] 30 (0, 0)) ∧ RAt wr (.agg #[.slice A L.length c, .int .i64 last]) L last
 hp : w.heap.size ≤ p
 hB : w.heap.size ≤ B
 hr : w.heap.size ≤ g
theorem DW.below {w wr w' : World} {p B g : Nat} {L : List RN} {last : Int} (h : DW w wr p B g L last) (hb : Below wr.heap.size wr w') : DW w w' p B g L last := by
 obtain ⟨A, c, h1, h2⟩ := h.cell
 exact ⟨h.hb.trans (hb.mono h.hb.size), h.tree.below hb, ⟨A, c, (hb.block _ (blk_lt h1)).trans h1, h2.below hb⟩, h.hp, h.hB, h.hr⟩
theorem TreeB.ne_box {w : World} {p B g : Nat} {T : Tr} {v0 v1 : Value} (h : TreeB w p B T) (hg : w.heap[g]? = some (.cells #[v0, v1] 30 (0, 0))) : p ≠ g ∧ B ≠ g := by
 obtain ⟨h1, es, ck, h2⟩ := h.two
 constructor
 ·
  rintro rfl
  rw [h1] at hg
  injection hg with hg
  injection hg with _ hg
  exact absurd hg (by decide)
 ·
  rintro rfl
  rw [h2] at hg
  cases hg
theorem set_box {w wr : World} {p B g : Nat} {L7 : List RN} {n7 : Int} {A7 : Option Addr} {c7 : Nat} {v0 v1 : Value} {T : Tr} (hb : Below w.heap.size w wr) (hT : TreeB wr p B T) (hg : wr.heap[g]? = some (.cells #[v0, v1] 30 (0, 0))) (h0 : ∀ s, v0 ≠ .string s) (h1 : ∀ s, v1 ≠ .string s)
  (hR : RAt wr (.agg #[.slice A7 L7.length c7, .int .i64 n7]) L7 n7) (hr : w.heap.size ≤ g) :
  Below w.heap.size w ((wr.setCell ⟨g, 0, none⟩ (.slice A7 L7.length c7)).setCell ⟨g, 1, none⟩ (.int .i64 n7)) ∧ TreeB ((wr.setCell ⟨g, 0, none⟩ (.slice A7 L7.length c7)).setCell ⟨g, 1, none⟩ (.int .i64 n7)) p B T ∧
   ((wr.setCell ⟨g, 0, none⟩ (.slice A7 L7.length c7)).setCell ⟨g, 1, none⟩ (.int .i64 n7)).heap[g]? = some (.cells #[.slice A7 L7.length c7, .int .i64 n7] 30 (0, 0)) ∧
   RAt ((wr.setCell ⟨g, 0, none⟩ (.slice A7 L7.length c7)).setCell ⟨g, 1, none⟩ (.int .i64 n7)) (.agg #[.slice A7 L7.length c7, .int .i64 n7]) L7 n7 ∧
   But wr ((wr.setCell ⟨g, 0, none⟩ (.slice A7 L7.length c7)).setCell ⟨g, 1, none⟩ (.int .i64 n7)) g := by
 have hbut := but_two (u0 := .slice A7 L7.length c7) (u1 := .int .i64 n7) hg h0 h1
 obtain ⟨n1, n2⟩ := hT.ne_box hg
 exact ⟨(hb.setCell (p := ⟨g, 0, none⟩) hr (.slice A7 L7.length c7)).setCell (p := ⟨g, 1, none⟩) hr (.int .i64 n7), hT.but hbut n1 n2, two_set (u0 := .slice A7 L7.length c7) (u1 := .int .i64 n7) hg, RAt.but hR hbut, hbut⟩
end Go.Proofs.YtnpeeiikdcankaaGreat.Tw

namespace Go.Proofs.YtnpeeiikdcankaaGreat.Tw
open Go Go.RowKit Go.Shelf Go.Proofs Go.Proofs.YtnpeeiikdcankaaGreat Go.Proofs.YtnpeeiikdcankaaGreatW.PrintWords Go.Proofs.YtnpeeiikdcankaaGreat.Ext Go.Proofs.YtnpeeiikdcankaaGreat.X Go.Proofs.YtnpeeiikdcankaaGreat.Pu
set_option maxHeartbeats 8000000 in
set_option maxRecDepth 1000000 in
theorem posixDoes_calls (A : Option Addr) (c : Nat) (l : List MN) (A' : Option Addr) (c' : Nat) (ts : List TK) (w : World) (hC : Kd.C k93 w A l.length l) (hc : l.length ≤ c) (hC' : Kd.C k36 w A' ts.length ts) (hc' : ts.length ≤ c') (hb : (l.map bulkN).sum + 1 ≤ 1048576) (ho : ∀ x ∈ l, (Lit.int .i64 x.f0).wf = true ∧ True ∧ (Lit.int .i64 x.f2).wf = true ∧ True) (hb' : (ts.map bulkT).sum + 1 ≤ 1048576) (ho' : ∀ x ∈ ts, (Lit.int .i64 x.f0).wf = true ∧ True ∧ True) :
  Calls Tryz.prog 3 #[.slice A l.length c, .slice A' ts.length c'] w fun e w' => e = .returned (.bool true) ∧ Below w.heap.size w w' := by
 have hsz : ∀ x ∈ l, x.f1.size < 4294967281 := fun x hx => by
  have h1 := sum_in8 bulkN hx
  have h2 : x.f1.size ≤ bulkN x := by unfold bulkN; omega
  omega
 have hlt : ts.length < 1048576 := by have := len_bulkA bulkT (fun x => by unfold bulkT; omega) ts; omega
 obtain ⟨b, hfew, hb60⟩ := few_ev l (by have := len_bulkA bulkN (fun x => by unfold bulkN; omega) l; omega)
 obtain ⟨kf, hkf⟩ := Ev.rounds hfew
 have HF := Lib.hid (fun W h => linhaylaw08_Few.calls kf A c l b W h hc hkf)
 obtain ⟨b2, hsh, hb40⟩ := short_ev ts 40 (by omega)
 obtain ⟨ks, hks⟩ := Ev.rounds hsh
 have HSH := Lib.hid (fun W h => linhaylaw09_Short.calls ks A' c' ts 40 b2 W h hc' hks)
 have HC := Lib.hid hC
 have HC' := Lib.hid hC'
 have HLE' := Lib.hid hc'
 have HLT := Lib.hid hlt
 have HLV := Lib.hid lives09_calls
 clear hC hC' hfew hkf hb ho hb' ho' hsh hks hlt
 cases b with
 | false =>
  clear hb60 hb40
  go_enter Tryz.func3, Tryz.ntmps3
  go_wp2_with (first | (go_at_call 11; refine (HF.out _ HC.out).mono ?_; rintro e w2 ⟨rfl, hd2⟩) | (go_at_call 13; refine (HLV.out _).mono ?_; rintro e w7 ⟨rfl, hb7⟩))
  go_ret
  exact ⟨rfl, hd2.below.trans (hb7.mono hd2.below.size)⟩
 | true =>
  have h60 := hb60 rfl
  clear hb60
  cases b2 with
  | false =>
   clear hb40
   go_enter Tryz.func3, Tryz.ntmps3
   go_wp2_with (first | (go_at_call 11; refine (HF.out _ HC.out).mono ?_; rintro e w2 ⟨rfl, hd2⟩; have HB2 := Lib.hid hd2.below; clear hd2) | (go_at_call 12; refine (HSH.out _ (Kd.C_below HC'.out HB2.out)).mono ?_; rintro e w3 ⟨rfl, hd3⟩; have HB3 := Lib.hid (HB2.out.trans (hd3.below.mono HB2.out.size)); clear hd3) | (go_at_call 13; refine (HLV.out _).mono ?_; rintro e w7 ⟨rfl, hb7⟩))
   go_ret
   exact ⟨rfl, HB3.out.trans (hb7.mono HB3.out.size)⟩
  | true =>
   have h40 := hb40 rfl
   clear hb40
   obtain ⟨hG, hM, hla, hln⟩ := made_good l
   have HM := Lib.hid (fun W h => made_calls A c l W h hc h60 hsz)
   have HGM := Lib.hid (And.intro hG (And.intro hM (show (madeF l).last ≤ 100 by omega)))
   have H40 := Lib.hid h40
   clear hG hM hla hln hsz
   generalize (madeF l).L = L0 at *
   generalize (madeF l).last = la0 at *
   go_enter Tryz.func3, Tryz.ntmps3
   go_upto_region 4 with (first | (go_at_call 11; refine (HF.out _ HC.out).mono ?_; rintro e w2 ⟨rfl, hd2⟩; have HB2 := Lib.hid hd2.below; clear hd2) | (go_at_call 12; refine (HSH.out _ (Kd.C_below HC'.out HB2.out)).mono ?_; rintro e w3 ⟨rfl, hd3⟩; have HB3 := Lib.hid (HB2.out.trans (hd3.below.mono HB2.out.size)); clear hd3) | (go_at_call 14; refine (HM.out _ (Kd.C_below HC.out HB3.out)).mono ?_; rintro e w4 ⟨p, B, v, rfl, hT4, hR4, hb4, hp, hB⟩; obtain ⟨A4, c4, rfl, hc4, hC4⟩ := hR4; have HT4 := Lib.hid hT4; have HR4 := Lib.hid (And.intro hc4 hC4); have HB4 := Lib.hid (HB3.out.trans (hb4.mono HB3.out.size)); have HPB := Lib.hid (And.intro (Nat.le_trans HB3.out.size hp) (Nat.le_trans HB3.out.size hB)); clear hT4 hc4 hC4 hb4 hp hB))
   have hba := (Below.refl _ w4).alloc (Nat.le_refl _) (.cells #[.slice A4 L0.length c4, .int .i64 la0] 30)
   have HD0 : Hid (DW w (w4.alloc (.cells #[.slice A4 L0.length c4, .int .i64 la0] 30)) p B w4.heap.size L0 la0) := Lib.hid ⟨HB4.out.trans (hba.mono HB4.out.size), HT4.out.below hba, ⟨A4, c4, heap_alloc_new w4 _, ⟨A4, c4, rfl, HR4.out.1, Kd.C_below HR4.out.2 hba⟩⟩, HPB.out.1, HPB.out.2, HB4.out.size⟩
   generalize w4.alloc (.cells #[.slice A4 L0.length c4, .int .i64 la0] 30) = w5 at HD0 ⊢
   generalize w4.heap.size = g at HD0 ⊢
   clear hba HT4 HR4 HB4 HPB HB3 HB2 HM HF HSH h40 h60
   go_wp2
   go_loopw [7] (fun v7 wr => ∃ i : Nat, v7 = .int .i64 (i : Int) ∧ i ≤ ts.length ∧ ∃ (L : List RN) (la : Int), DW w wr p B g L la ∧ GoodL L la ∧ GoodM L ∧ la ≤ 100 + i) (fun v _ => ts.length - (intOf v).toNat)
   case atStart => exact ⟨0, rfl, Nat.zero_le _, L0, la0, HD0.out, HGM.out.1, HGM.out.2.1, by have := HGM.out.2.2; omega⟩
   case round =>
    obtain ⟨i, rfl, hi, L, la, hD, hG, hM, hla⟩ := hrel
    clear HD0 HGM
    have HD := Lib.hid hD
    by_cases h : i < ts.length
    ·
     have h40 := H40.out
     have hlt : (i : Int) < (ts.length : Int) := by omega
     have hi0 : (0 : Int) ≤ (i : Int) := by omega
     have hrd : rd_T36 ts (i : Int) = ts[i] := by simp [rd_T36, h]
     have HRD := Lib.hid hrd
     obtain ⟨ad, eA, -⟩ := at_T36 (Kd.C_below HC'.out hD.hb) (i : Int) hi0 hlt
     subst eA
     generalize ts[i] = x at HRD
     obtain ⟨k, a, t⟩ := x
     have HARG := Lib.hid (fun (W : World) (hb : Below w.heap.size w W) => show W.cell? (ad.add (i * 3)) = some (.int .i64 k) ∧ W.cell? ⟨(ad.add (i * 3)).block, (ad.add (i * 3)).off + 1, none⟩ = some (.string a) ∧ W.cell? ⟨(ad.add (i * 3)).block, (ad.add (i * 3)).off + 2, none⟩ = some (.string t) by
      obtain ⟨ad', e', b0, b1, b2⟩ := at_T36 (Kd.C_below HC'.out hb) (i : Int) hi0 hlt
      cases e'
      rw [Int.toNat_natCast, HRD.out] at b0 b1 b2
      exact ⟨b0, b1, b2⟩)
     have hF := fine_do hG hM k a t
     have hln := hF.lst
     have HDO := Lib.hid (fun v W h => rdo9_calls L la v k a t W h hG hM (by omega))
     have HDT := Lib.hid (fun W h => do9_calls p B L la k a t W h hG hM (by omega))
     have HS1 := Lib.hid (fun v W h1 h2 => same7_calls p B (doP L la k a t).1 (doP L la k a t).2.1 v W h1 h2 hF.good (by omega))
     have HS2 := Lib.hid (fun v W h1 h2 => same7_calls p B L la v W h1 h2 hG (by omega))
     have HFN := Lib.hid (And.intro hF.good (And.intro hF.goodm (And.intro hln hF.same)))
     have HLA := Lib.hid (And.intro hla h40)
     have HI := Lib.hid (And.intro h hi)
     generalize doP L la k a t = o at *
     obtain ⟨L7, n7, oE⟩ := o
     simp only [] at HS1 HFN
     clear hrd HRD hF hln hG hM hla h40 hi h hi0
     obtain ⟨A5, c5, hcl, hR5⟩ := HD.out.cell
     have hgw : g < wr.heap.size := blk_lt hcl
     have x0 : wr.cell? ⟨g, 0, none⟩ = some (.slice A5 L.length c5) := by rw [blk_cell hcl]; rfl
     have x1 : wr.cell? ⟨g, 1, none⟩ = some (.int .i64 la) := by rw [blk_cell hcl]; rfl
     have hbal := below_alloc (Below.refl wr.heap.size wr) (.cells #[.slice A5 L.length c5, .int .i64 la] 30)
     have HD2 := Lib.hid (HD.out.below hbal)
     have HCL2 := Lib.hid ((hbal.block _ hgw).trans hcl)
     have H82 := Lib.hid (heap_alloc_new wr (.cells #[.slice A5 L.length c5, .int .i64 la] 30))
     have HR2 := Lib.hid (hR5.below hbal)
     have HGW := Lib.hid hgw
     clear hbal hcl hgw hR5 HD hD
     go_upto_region 8 with (fail)
     generalize wr.alloc (.cells #[.slice A5 L.length c5, .int .i64 la] 30) = w2 at HD2 HCL2 H82 HR2 ⊢
     generalize wr.heap.size = g8 at H82 HGW ⊢
     clear x0 x1
     have HK2 := Lib.hid (fun (W : World) (h : Below w2.heap.size w2 W) => show W.cell? ⟨g, 0, none⟩ = some (.slice A5 L.length c5) ∧ W.cell? ⟨g, 1, none⟩ = some (.int .i64 la) ∧ W.cell? (ad.add (i * 3)) = some (.int .i64 k) ∧ W.cell? ⟨(ad.add (i * 3)).block, (ad.add (i * 3)).off + 1, none⟩ = some (.string a) ∧ W.cell? ⟨(ad.add (i * 3)).block, (ad.add (i * 3)).off + 2, none⟩ = some (.string t) by
      have e1 := (h.block _ (blk_lt HCL2.out)).trans HCL2.out
      exact ⟨by rw [blk_cell e1]; rfl, by rw [blk_cell e1]; rfl, HARG.out W (HD2.out.hb.trans (h.mono HD2.out.hb.size))⟩)
     obtain ⟨r0, r1, b0, b1, b2⟩ := HK2.out _ (Below.refl _ _)
     go_region_held3 (fun w' => w'.cell? ⟨g, 0, none⟩ = some (.slice A5 L.length c5) ∧ w'.cell? ⟨g, 1, none⟩ = some (.int .i64 la) ∧ w'.cell? (ad.add (i * 3)) = some (.int .i64 k) ∧ w'.cell? ⟨(ad.add (i * 3)).block, (ad.add (i * 3)).off + 1, none⟩ = some (.string a) ∧ w'.cell? ⟨(ad.add (i * 3)).block, (ad.add (i * 3)).off + 2, none⟩ = some (.string t)) (first | (go_keep; done) | exact HK2.out _ hb23 | exact HK2.out _ (hb23.alloc hb23.size _) | exact HK2.out _ (hb23.setCell (p := ⟨w2.heap.size, 0, none⟩) (Nat.le_refl _) _) | exact HK2.out _ ((hb23.setCell (p := ⟨w2.heap.size, 0, none⟩) (Nat.le_refl _) _).setCell (p := ⟨w2.heap.size, 1, none⟩) (Nat.le_refl _) _))
      ((go_at_call 15; refine (HDO.out _ _ (by first | exact HR2.out | exact HR2.out.below (below_drew (Below.refl _ _)) | exact HR2.out.below (below_drew ((Below.refl _ w2).alloc (Nat.le_refl _) _)) | exact HR2.out.below ((Below.refl _ w2).alloc (Nat.le_refl _) _) | exact HR2.out.below (pw_below_drewN (Below.refl _ _) _) | exact HR2.out.below (pw_below_drewN ((Below.refl _ w2).alloc (Nat.le_refl _) _) _))).mono ?_; rintro e w3 ⟨v', rfl, ⟨A7, c7, rfl, hle7, hC7⟩, hb6⟩; have hb23 : Below w2.heap.size w2 w3 := (by first | exact hb6 | exact (below_drew (Below.refl _ w2)).trans hb6 | exact (below_drew ((Below.refl _ w2).alloc (Nat.le_refl _) _)).trans (hb6.mono (by simp)) | exact (pw_below_drewN (Below.refl _ w2) _).trans hb6 | exact (pw_below_drewN ((Below.refl _ w2).alloc (Nat.le_refl _) _) _).trans (hb6.mono (by simp))); have HC7 := Aside0.mk hC7; clear hC7; (first | (have h9 := (hb6.block w2.heap.size (by simp)).trans (heap_alloc_new w2 _); have x90 : w3.cell? ⟨w2.heap.size, 0, none⟩ = some (.slice none 0 0) := (by rw [blk_cell h9]; rfl); have x91 : w3.cell? ⟨w2.heap.size, 1, none⟩ = some (.int .i64 0) := (by rw [blk_cell h9]; rfl); have f90 := blk_frozen h9 0; have f91 := blk_frozen h9 1; have H9 := Aside0.mk h9; clear h9) | skip)))
     all_goals first
      | (have h9' := H9.out; have hR7 : RAt ((w3.setCell ⟨w2.heap.size, 0, none⟩ (.slice A7 L7.length c7)).setCell ⟨w2.heap.size, 1, none⟩ (.int .i64 n7)) (.agg #[.slice A7 L7.length c7, .int .i64 n7]) L7 n7 := RAt.but ⟨A7, c7, rfl, hle7, HC7.out⟩ (but_two h9' (by simp) (by simp)); have hb24 : Below w2.heap.size w2 ((w3.setCell ⟨w2.heap.size, 0, none⟩ (.slice A7 L7.length c7)).setCell ⟨w2.heap.size, 1, none⟩ (.int .i64 n7)) := (hb23.setCell (p := ⟨w2.heap.size, 0, none⟩) (Nat.le_refl _) _).setCell (p := ⟨w2.heap.size, 1, none⟩) (Nat.le_refl _) _; have h7 := two_set (u0 := .slice A7 L7.length c7) (u1 := .int .i64 n7) h9'; clear x90 x91 f90 f91 H9 h9'; generalize (w3.setCell ⟨w2.heap.size, 0, none⟩ (.slice A7 L7.length c7)).setCell ⟨w2.heap.size, 1, none⟩ (.int .i64 n7) = w4 at hR7 hb24 h7 ⊢; generalize w2.heap.size = g9 at h7 ⊢)
      | (have hb24 : Below w2.heap.size w2 (w3.alloc (.cells #[.slice A7 L7.length c7, .int .i64 n7] 30)) := hb23.alloc hb23.size _; have hR7 : RAt (w3.alloc (.cells #[.slice A7 L7.length c7, .int .i64 n7] 30)) (.agg #[.slice A7 L7.length c7, .int .i64 n7]) L7 n7 := RAt.below ⟨A7, c7, rfl, hle7, HC7.out⟩ ((Below.refl _ w3).alloc (Nat.le_refl _) _); have h7 := heap_alloc_new w3 (.cells #[.slice A7 L7.length c7, .int .i64 n7] 30); generalize w3.alloc (.cells #[.slice A7 L7.length c7, .int .i64 n7] 30) = w4 at hR7 hb24 h7 ⊢; generalize w3.heap.size = g9 at h7 ⊢)
     all_goals
      have HD4 := Lib.hid (HD2.out.below hb24)
      have hcl4 := (hb24.block _ (blk_lt HCL2.out)).trans HCL2.out
      have h84 := (hb24.block _ (blk_lt H82.out)).trans H82.out
      have hRo4 := HR2.out.below hb24
      obtain ⟨hb5, hT5, hcl5, hR5, hbut⟩ := set_box HD4.out.hb HD4.out.tree hcl4 (by simp) (by simp) hR7 HD4.out.hr
      have h85 := (hbut.g.block _ (blk_lt h84) (fun e => by have := Option.some.inj e; have := HGW.out; omega)).trans h84
      have hRo5 := hRo4.but hbut
      have y0 : w4.cell? ⟨g9, 0, none⟩ = some (.slice A7 L7.length c7) := by rw [blk_cell h7]; rfl
      have y1 : w4.cell? ⟨g9, 1, none⟩ = some (.int .i64 n7) := by rw [blk_cell h7]; rfl
      have z0 : w4.cell? ⟨g, 0, none⟩ = some (.slice A5 L.length c5) := by rw [blk_cell hcl4]; rfl
      have z1 : w4.cell? ⟨g, 1, none⟩ = some (.int .i64 la) := by rw [blk_cell hcl4]; rfl
      have f0 := blk_frozen hcl4 0
      have f1 := blk_frozen hcl4 1
      have F5 := Lib.hid (And.intro hb5 (And.intro hT5 (And.intro hcl5 (And.intro hR5 (And.intro h85 hRo5)))))
      have HPB2 := Lib.hid (And.intro HD4.out.hp (And.intro HD4.out.hB HD4.out.hr))
      clear hcl4 h84 hRo4 hb5 hT5 hcl5 hR5 hbut h85 hRo5 hR7 hb24 h7 HD4 HD2 HCL2 H82 HR2 HK2 HDO hb6 HC7 r0 r1 b0 b1 b2
      go_upto_region 10 with (fail)
      generalize (w4.setCell ⟨g, 0, none⟩ (.slice A7 L7.length c7)).setCell ⟨g, 1, none⟩ (.int .i64 n7) = w5' at F5 ⊢
      clear y0 y1 z0 z1 f0 f1
      obtain ⟨b0, b1, b2⟩ := HARG.out _ F5.out.1
      by_cases hoe : oE = 0
      ·
       subst hoe
       go_wp2_with (first
        | (go_at_call 16; refine (HDT.out _ F5.out.2.1).mono ?_; rintro e w6 ⟨rfl, hT6, hF6⟩; have HB6 := Lib.hid (F5.out.1.trans (hF6.below F5.out.1.size HPB2.out.1 HPB2.out.2.1)); have HT6 := Lib.hid hT6; have H6 := Lib.hid (cells_frm F5.out.2.2.1 (by decide) F5.out.2.1 hF6); have HR6 := Lib.hid (RAt.frm F5.out.2.2.2.1 F5.out.2.1 hF6); have y0 : w6.cell? ⟨g, 0, none⟩ = some (.slice A7 L7.length c7) := (by rw [blk_cell H6.out]; rfl); have y1 : w6.cell? ⟨g, 1, none⟩ = some (.int .i64 n7) := (by rw [blk_cell H6.out]; rfl); clear hT6 hF6 b0 b1 b2)
        | (go_at_call 17; refine (HS1.out _ _ HT6.out HR6.out).mono ?_; rintro e w7 ⟨rfl, hb7⟩; have HB7 := Lib.hid (HB6.out.trans (hb7.mono HB6.out.size)); have HT7 := Lib.hid (HT6.out.below hb7); have H7 := Lib.hid ((hb7.block _ (blk_lt H6.out)).trans H6.out); have HR7 := Lib.hid (HR6.out.below hb7); clear hb7 y0 y1))
       go_roundw
       case rel => exact ⟨i + 1, by have := HLT.out; rw [w1 (by omega)], HI.out.1, L7, n7, ⟨HB7.out, HT7.out, ⟨A7, c7, H7.out, HR7.out⟩, HPB2.out.1, HPB2.out.2.1, HPB2.out.2.2⟩, HFN.out.1, HFN.out.2.1, by have := HFN.out.2.2.1; have := HLA.out.1; omega⟩
       case measure => exact meas_big HI.out.1 (by have := H40.out; omega)
      ·
       obtain ⟨rfl, rfl⟩ := HFN.out.2.2.2 hoe
       have e1 : (oE != oE) = false := by simp
       have e2 : (oE != 0) = true := bne_iff_ne.2 hoe
       go_wp2_with (first
        | (go_at_call 16; refine (HDT.out _ F5.out.2.1).mono ?_; rintro e w6 ⟨rfl, hT6, hF6⟩; have HB6 := Lib.hid (F5.out.1.trans (hF6.below F5.out.1.size HPB2.out.1 HPB2.out.2.1)); have HT6 := Lib.hid hT6; have H6 := Lib.hid (cells_frm F5.out.2.2.1 (by decide) F5.out.2.1 hF6); have H86 := Lib.hid (cells_frm F5.out.2.2.2.2.1 (by decide) F5.out.2.1 hF6); have HR6 := Lib.hid (RAt.frm F5.out.2.2.2.1 F5.out.2.1 hF6); have HO6 := Lib.hid (RAt.frm F5.out.2.2.2.2.2 F5.out.2.1 hF6); have y0 : w6.cell? ⟨g, 0, none⟩ = some (.slice A7 L7.length c7) := (by rw [blk_cell H6.out]; rfl); have y1 : w6.cell? ⟨g, 1, none⟩ = some (.int .i64 n7) := (by rw [blk_cell H6.out]; rfl); clear hT6 hF6 b0 b1 b2)
        | (go_at_call 17; refine (HS2.out _ _ HT7.out HO7.out).mono ?_; rintro e w8 ⟨rfl, hb8⟩; have HB8 := Lib.hid (HB7.out.trans (hb8.mono HB7.out.size)); have HT8 := Lib.hid (HT7.out.below hb8); have H8 := Lib.hid ((hb8.block _ (blk_lt H7.out)).trans H7.out); have HR8 := Lib.hid (HR7.out.below hb8); clear hb8 z0 z1)
        | (go_at_call 17; refine (HS1.out _ _ HT6.out HR6.out).mono ?_; rintro e w7 ⟨rfl, hb7⟩; have HB7 := Lib.hid (HB6.out.trans (hb7.mono HB6.out.size)); have HT7 := Lib.hid (HT6.out.below hb7); have H7 := Lib.hid ((hb7.block _ (blk_lt H6.out)).trans H6.out); have HR7 := Lib.hid (HR6.out.below hb7); have H87 := Lib.hid ((hb7.block _ (blk_lt H86.out)).trans H86.out); have HO7 := Lib.hid (HO6.out.below hb7); have z0 : w7.cell? ⟨g8, 0, none⟩ = some (.slice A5 L7.length c5) := (by rw [blk_cell H87.out]; rfl); have z1 : w7.cell? ⟨g8, 1, none⟩ = some (.int .i64 n7) := (by rw [blk_cell H87.out]; rfl); clear hb7 y0 y1 H6 H86))
       go_roundw
       case rel => exact ⟨i + 1, by have := HLT.out; rw [w1 (by omega)], HI.out.1, L7, n7, ⟨HB8.out, HT8.out, ⟨A7, c7, H8.out, HR8.out⟩, HPB2.out.1, HPB2.out.2.1, HPB2.out.2.2⟩, HFN.out.1, HFN.out.2.1, by have := HFN.out.2.2.1; have := HLA.out.1; omega⟩
       case measure => exact meas_big HI.out.1 (by have := H40.out; omega)
    ·
     have hlt : ¬ (i : Int) < (ts.length : Int) := by omega
     clear hD hG hM hla
     go_wp2_with (go_at_call 13; refine (HLV.out _).mono ?_; rintro e w7 ⟨rfl, hb7⟩)
     go_ret
     exact ⟨rfl, HD.out.hb.trans (hb7.mono HD.out.hb.size)⟩
end Go.Proofs.YtnpeeiikdcankaaGreat.Tw
