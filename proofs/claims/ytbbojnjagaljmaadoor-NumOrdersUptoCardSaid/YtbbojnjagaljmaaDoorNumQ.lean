/- The reference's natural order and padding are the plain ones. -/
import Derived.Test.YtbbojnjagaljmaaDoorNumO
import Derived.Test.YtbbojnjagaljmaaDoorNumB
namespace Go.Proofs.YtbbojnjagaljmaaDoor.Nu
open Go Go.RowKit Go.Proofs Go.Proofs.YtbbojnjagaljmaaDoor Go.Proofs.YtbbojnjagaljmaaDoorW.PrintWords Go.Proofs.YtbbojnjagaljmaaDoor.Pu Go.Proofs.YtbbojnjagaljmaaDoor.X Go.Proofs.YtbbojnjagaljmaaDoor.Ext
set_option linter.unusedVariables false
set_option linter.unusedSimpArgs false
theorem run_l0 (s : ByteArray) (hs : s.size < 4294967296) : ∀ (d i : Nat), i + d = runN s.data.toList → Ev (fun k => linhayref01_run.l0 k s (i : Int)) (runN s.data.toList : Int) := by
  have hle : runN s.data.toList ≤ s.size := by rw [Sp.size_eq]; exact runN_le _
  intro d
  induction d with
  | zero =>
    intro i hi
    obtain rfl : i = runN s.data.toList := by omega
    refine Ev.step (fun k => by rw [linhayref01_run.l0]) ?_
    by_cases hz : runN s.data.toList = s.size
    · exact ev_neg (by omega) (Ev.now _)
    · obtain ⟨c, hc, hd⟩ := runN_out (l := s.data.toList) (by rw [← Sp.size_eq]; omega)
      refine ev_pos (by omega) (ev_pos (by omega) ?_)
      rw [bt_nat hc]
      have hd := of_decide_eq_false hd
      by_cases h1 : (c.toNat : Int) ≥ 48
      · exact ev_pos h1 (ev_neg (fun h2 => hd (by constructor <;> omega)) (Ev.now _))
      · exact ev_neg h1 (Ev.now _)
  | succ d ih =>
    intro i hi
    obtain ⟨c, hc, hd⟩ := runN_in (l := s.data.toList) (k := i) (by omega)
    have hd := of_decide_eq_true hd
    refine Ev.step (fun k => by rw [linhayref01_run.l0]) ?_
    refine ev_pos (by omega) (ev_pos (by omega) ?_)
    rw [bt_nat hc, w1 (by omega)]
    exact ev_pos (by omega) (ev_pos (by omega) (ih (i + 1) (by omega)))
theorem run_ev (s : ByteArray) (hs : s.size < 4294967296) : Ev (fun k => linhayref01_run.f k s) (runN s.data.toList : Int) := run_l0 s hs (runN s.data.toList) 0 (by omega)
theorem bare_l0 : ∀ l : List UInt8, Ev (fun k => linhayref01_bare.l0 k (Sp.mk l)) (Sp.mk (Lib.trimLeftB l 48)) := by
  intro l
  induction l with
  | nil =>
    refine Ev.step (fun k => by rw [linhayref01_bare.l0]) ?_
    exact ev_neg (by rw [Sp.mk_size]; simp) (Ev.now _)
  | cons c t ih =>
    have hz : (Sp.mk (c :: t)).size = t.length + 1 := by rw [Sp.mk_size]; rfl
    have hb : bt (Sp.mk (c :: t)) 0 = (c.toNat : Int) := bt_nat (i := 0) (by rw [Sp.mk_data]; rfl)
    refine Ev.step (fun k => by rw [linhayref01_bare.l0]) ?_
    refine ev_pos (by omega) (ev_pos (by omega) ?_)
    rw [hb]
    by_cases h : c = 48
    · subst h
      have e : (Sp.mk (48 :: t)).extract 1 (Sp.mk (48 :: t)).size = Sp.mk t := by
        rw [← Sp.mk_of (ByteArray.extract _ _ _), Lib.extract_to_end, Sp.mk_data]; rfl
      have e2 : Lib.trimLeftB (48 :: t) 48 = Lib.trimLeftB t 48 := rfl
      rw [e, e2]
      exact ev_pos rfl (ev_pos (by omega) ih)
    · have e2 : Lib.trimLeftB (c :: t) 48 = c :: t := by
        unfold Lib.trimLeftB
        rw [List.dropWhile_cons, if_neg (by simpa using h)]
      rw [e2]
      exact ev_neg (fun e => h (UInt8.toNat_inj.1 (by have : (48 : UInt8).toNat = 48 := rfl; omega))) (Ev.now _)
theorem bare_ev (s : ByteArray) : Ev (fun k => linhayref01_bare.f k s) (tlB s) := by
  have := bare_l0 s.data.toList
  rw [Sp.mk_of] at this
  exact this
theorem cmp_mt {a b : ByteArray} (h : a.toList = [] ∨ b.toList = []) : cmpL a.toList b.toList = Lib.compareInt (a.size : Int) (b.size : Int) := by
  rw [toL, toL] at *
  rw [Sp.size_eq, Sp.size_eq]
  generalize a.data.toList = x at *
  generalize b.data.toList = y at *
  unfold cmpL Lib.compareInt
  cases x with
  | nil => cases y with
    | nil => rfl
    | cons d y => simp [Op.bytesLess]
  | cons c x => cases y with
    | nil => simp [Op.bytesLess]; omega
    | cons d y => simp at h
theorem mx_cut (l : List UInt8) : mx ((runN l : Nat) : Int) 1 = ((cutN l : Nat) : Int) := by
  unfold mx cutN
  by_cases h : runN l = 0
  · rw [h]; rfl
  · rw [if_neg (by omega), if_neg h]
theorem head_fst {a : ByteArray} (h : 0 < a.size) : headD (fst a) = decide (runN a.data.toList ≠ 0) := by
  have hc := cutN_in h
  unfold headD fst
  rw [Lib.extract_data]
  rw [Sp.size_eq] at h
  generalize a.data.toList = l at *
  cases l with
  | nil => simp at h
  | cons c t =>
    obtain ⟨n, hn⟩ : ∃ n, cutN (c :: t) = n + 1 := ⟨cutN (c :: t) - 1, by omega⟩
    rw [hn]
    simp only [Nat.sub_zero, List.drop_zero, List.take_succ_cons, List.head?_cons]
    unfold runN
    rw [List.takeWhile_cons]
    cases isD c <;> simp
theorem cut_run {l : List UInt8} (h : runN l ≠ 0) : cutN l = runN l := by unfold cutN; rw [if_neg h]
section
variable {a b : ByteArray} {k : Nat}
theorem less_step (hp : partF (fst a) (fst b) = cmpB (fst a) (fst b)) (hne : ¬ (a.toList = [] ∨ b.toList = [])) (ih : Ev (fun q => linhayref01_Natural.f q (rst a) (rst b)) (natB k (rst a) (rst b))) :
    Ev (fun q => (linhayref01_less.f (fst a) (fst b)).bind fun t => if t = 0 then (linhayref01_Natural.f q (rst a) (rst b)).bind fun u => some u else some t) (natB (k + 1) a b) := by
  rw [natB_one, if_neg hne, hp, cmpB_L]
  refine ev_opt (a := cmpL (fst a).toList (fst b).toList) rfl ?_
  by_cases h : cmpL (fst a).toList (fst b).toList = 0
  · rw [if_neg (by simpa using h)]
    exact ev_pos h (ev_bind ih (Ev.now _))
  · rw [if_pos h]
    exact ev_neg h (Ev.now _)
end
theorem nat_ev : ∀ (k : Nat) (a b : ByteArray), a.size < k → a.size < 4294967296 → b.size < 4294967296 → Ev (fun q => linhayref01_Natural.f q a b) (natB k a b) := by
  intro k
  induction k with
  | zero => intro a b h; omega
  | succ k ih =>
    intro a b h hsa hsb
    refine Ev.step (fun k => by rw [linhayref01_Natural.f]) ?_
    by_cases he : a.toList = [] ∨ b.toList = []
    · have key : Ev (fun q => linhayref01_Natural.j0 q a b true) (natB (k + 1) a b) := by
        rw [natB_one, if_pos he, ← cmp_mt he]
        refine Ev.step (fun k => by rw [linhayref01_Natural.j0]) ?_
        exact ev_pos rfl (ev_opt rfl (Ev.now _))
      by_cases h1 : a.toList = []
      · exact ev_pos h1 key
      · refine ev_neg h1 ?_
        rw [show (b.toList == []) = true by rcases he with h | h; exact absurd h h1; rw [h]; rfl]
        exact key
    · have hne := he
      simp only [not_or] at he
      have ha := ne_size he.1
      have hb := ne_size he.2
      have ca := cutN_in ha
      have cb := cutN_in hb
      refine ev_neg he.1 ?_
      rw [show (b.toList == []) = false by simpa using he.2]
      refine Ev.step (fun k => by rw [linhayref01_Natural.j0]) ?_
      refine ev_neg (by simp) (ev_bind (run_ev a hsa) (ev_bind (run_ev b hsb) ?_))
      have hIH := ih (rst a) (rst b) (by rw [rst_size ha]; omega) (by rw [rst_size ha]; omega) (by rw [rst_size hb]; omega)
      by_cases hr : runN a.data.toList = 0 ∨ runN b.data.toList = 0
      · have hp : partF (fst a) (fst b) = cmpB (fst a) (fst b) := by
          unfold partF
          rw [if_neg]
          rw [head_fst ha, head_fst hb, decide_eq_true_iff, decide_eq_true_iff]
          omega
        have key : Ev (fun q => linhayref01_Natural.j1 q a b (runN a.data.toList : Int) (runN b.data.toList : Int) true) (natB (k + 1) a b) := by
          refine Ev.step (fun k => by rw [linhayref01_Natural.j1]) ?_
          rw [mx_cut, mx_cut, Int.toNat_natCast, Int.toNat_natCast]
          exact ev_pos rfl (ev_pos (by omega) (ev_pos (by omega) (ev_pos (by omega) (ev_pos (by omega) (less_step hp hne hIH)))))
        by_cases h1 : runN a.data.toList = 0
        · exact ev_pos (by omega) key
        · refine ev_neg (by omega) ?_
          rw [show (((runN b.data.toList : Nat) : Int) == 0) = true by rw [beq_iff_eq]; omega]
          exact key
      · refine ev_neg (by omega) ?_
        rw [show (((runN b.data.toList : Nat) : Int) == 0) = false by rw [beq_eq_false_iff_ne]; omega]
        have hra : runN a.data.toList ≠ 0 := by omega
        have hrb : runN b.data.toList ≠ 0 := by omega
        have ea : a.extract 0 (runN a.data.toList) = fst a := by unfold fst; rw [cut_run hra]
        have eb : b.extract 0 (runN b.data.toList) = fst b := by unfold fst; rw [cut_run hrb]
        have ra : a.extract (runN a.data.toList) a.size = rst a := by unfold rst; rw [cut_run hra]
        have rb : b.extract (runN b.data.toList) b.size = rst b := by unfold rst; rw [cut_run hrb]
        rw [cut_run hra] at ca
        rw [cut_run hrb] at cb
        have hpt : partF (fst a) (fst b) = or2 (or2 (Lib.compareInt ((tlB (fst a)).size : Int) ((tlB (fst b)).size : Int)) (cmpB (tlB (fst a)) (tlB (fst b)))) (cmpB (fst a) (fst b)) := by
          unfold partF
          rw [if_pos]
          rw [head_fst ha, head_fst hb, decide_eq_true_iff, decide_eq_true_iff]
          exact ⟨hra, hrb⟩
        refine Ev.step (fun k => by rw [linhayref01_Natural.j1]) ?_
        refine ev_neg (by simp) (ev_pos (by omega) (ev_pos (by omega) ?_))
        simp only [Int.toNat_natCast]
        rw [ea]
        refine ev_bind (bare_ev (fst a)) (ev_pos (by omega) (ev_pos (by omega) ?_))
        rw [eb]
        refine ev_bind (bare_ev (fst b)) ?_
        have k1 : ∀ d : Int, d ≠ 0 → partF (fst a) (fst b) = d → natB (k + 1) a b = d := by
          intro d h1 h2
          rw [natB_one, if_neg hne, h2, if_pos h1]
        have kT : partF (fst a) (fst b) = -1 → Ev (fun q => linhayref01_Natural.j2 q a b (runN a.data.toList : Int) (runN b.data.toList : Int) (tlB (fst a)) (tlB (fst b)) true) (natB (k + 1) a b) := by
          intro h
          rw [k1 _ (by decide) h]
          refine Ev.step (fun k => by rw [linhayref01_Natural.j2]) ?_
          exact ev_pos rfl (Ev.now _)
        have kU : partF (fst a) (fst b) = 1 → (tlB (fst a)).toList ≠ (tlB (fst b)).toList → Ev (fun q => linhayref01_Natural.j2 q a b (runN a.data.toList : Int) (runN b.data.toList : Int) (tlB (fst a)) (tlB (fst b)) false) (natB (k + 1) a b) := by
          intro h h2
          rw [k1 _ (by decide) h]
          refine Ev.step (fun k => by rw [linhayref01_Natural.j2]) ?_
          exact ev_neg (by simp) (ev_neg h2 (Ev.now _))
        by_cases hl : (tlB (fst a)).size < (tlB (fst b)).size
        · refine ev_pos (by omega) (kT ?_)
          rw [hpt]
          unfold Lib.compareInt
          rw [if_pos (by omega)]
          rfl
        · refine ev_neg (by omega) ?_
          by_cases hq : (tlB (fst a)).size = (tlB (fst b)).size
          · refine ev_pos (by omega) ?_
            have hpt : partF (fst a) (fst b) = or2 (cmpB (tlB (fst a)) (tlB (fst b))) (cmpB (fst a) (fst b)) := by
              rw [hpt]
              unfold Lib.compareInt
              rw [if_neg (by omega), if_neg (by omega)]
              rfl
            cases hbl : Op.bytesLess (tlB (fst a)).toList (tlB (fst b)).toList with
            | true =>
              refine kT ?_
              rw [hpt, cmpB, if_pos hbl]
              rfl
            | false =>
              by_cases hx : (tlB (fst a)).toList = (tlB (fst b)).toList
              · have hp : partF (fst a) (fst b) = cmpB (fst a) (fst b) := by
                  rw [hpt, cmpB_L (tlB (fst a)), cmpL_zero.2 hx]
                  rfl
                refine Ev.step (fun k => by rw [linhayref01_Natural.j2]) ?_
                simp only [Int.toNat_natCast]
                rw [ea, eb, ra, rb]
                exact ev_neg (by simp) (ev_pos hx (ev_pos (by omega) (ev_pos (by omega) (ev_pos (by omega) (ev_pos (by omega) (less_step hp hne hIH))))))
              · refine kU ?_ hx
                have h3 : Op.bytesLess (tlB (fst b)).toList (tlB (fst a)).toList = true := by
                  cases h4 : Op.bytesLess (tlB (fst b)).toList (tlB (fst a)).toList with
                  | true => rfl
                  | false => exact absurd (bl_tot _ _ hbl h4) hx
                rw [hpt, cmpB, if_neg (by rw [hbl]; simp), if_pos h3]
                rfl
          · refine ev_neg (by omega) (kU ?_ ?_)
            · rw [hpt]
              unfold Lib.compareInt
              rw [if_neg (by omega), if_pos (by omega)]
              rfl
            · intro e
              exact hq (by rw [toL_inj.1 e])
def padB (s : ByteArray) (n : Int) : ByteArray := if n > 4096 ∨ n ≤ (s.size : Int) then s else Sp.mk (s.data.toList ++ List.replicate (n.toNat - s.size) 32)
theorem pad_l0 (n : Nat) (hn : n ≤ 4096) : ∀ (d : Nat) (s : ByteArray), s.size + d = n → Ev (fun k => linhayref01_Pad.l0 k s (n : Int)) (Sp.mk (s.data.toList ++ List.replicate d 32)) := by
  intro d
  induction d with
  | zero =>
    intro s h
    refine Ev.step (fun k => by rw [linhayref01_Pad.l0]) ?_
    rw [List.replicate_zero, List.append_nil, Sp.mk_of]
    exact ev_neg (by omega) (Ev.now _)
  | succ d ih =>
    intro s h
    refine Ev.step (fun k => by rw [linhayref01_Pad.l0]) ?_
    refine ev_pos (by omega) (ev_pos (by omega) ?_)
    have := ih (s ++ (⟨#[32]⟩ : ByteArray)) (by rw [size_snoc]; omega)
    have e : (s ++ (⟨#[32]⟩ : ByteArray)).data.toList = s.data.toList ++ [32] := by simp [ByteArray.data_append]
    rw [e, List.append_assoc, List.singleton_append, ← List.replicate_succ] at this
    exact this
theorem pad_ev (s : ByteArray) (n : Int) : Ev (fun k => linhayref01_Pad.f k s n) (padB s n) := by
  unfold padB
  have hf : (fun k => linhayref01_Pad.f k s n) = fun k => if n > 4096 then some s else linhayref01_Pad.l0 k s n := rfl
  rw [hf]
  by_cases h : n > 4096
  · rw [if_pos (.inl h)]
    exact ev_pos h (Ev.now _)
  · refine ev_neg h ?_
    by_cases h2 : n ≤ (s.size : Int)
    · rw [if_pos (.inr h2)]
      refine Ev.step (fun k => by rw [linhayref01_Pad.l0]) ?_
      exact ev_neg (by omega) (Ev.now _)
    · rw [if_neg (by omega)]
      obtain ⟨m, rfl⟩ : ∃ m : Nat, n = (m : Int) := ⟨n.toNat, by omega⟩
      rw [Int.toNat_natCast]
      exact pad_l0 m (by omega) (m - s.size) s (by omega)
end Go.Proofs.YtbbojnjagaljmaaDoor.Nu
