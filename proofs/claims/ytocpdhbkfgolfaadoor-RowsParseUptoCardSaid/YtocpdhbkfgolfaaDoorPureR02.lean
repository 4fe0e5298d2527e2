/- The reference of layer 2. -/
import Derived.Test.YtocpdhbkfgolfaaDoorPureWords
import Derived.Test.YtocpdhbkfgolfaaDoorX7
import Derived.Test.YtocpdhbkfgolfaaDoorX6
namespace Go.Proofs.YtocpdhbkfgolfaaDoor.Pu
open Go Go.RowKit Go.Proofs Go.Proofs.YtocpdhbkfgolfaaDoor Go.Proofs.YtocpdhbkfgolfaaDoorW.PrintWords Go.Proofs.YtocpdhbkfgolfaaDoor.Ext Go.Proofs.YtocpdhbkfgolfaaDoor.X
set_option linter.unusedVariables false
set_option linter.unusedSimpArgs false

theorem r02_split_l0 (s : ByteArray) (hs : s.size < 4294967296) : ∀ (n d i : Nat), d ≤ n → i + d = s.size → ∀ (out : List ByteArray) (now : List UInt8) (st : Int), (st = 0 ∨ st = 1 ∨ st = 2) → (st = 0 → now = []) → now.length ≤ 4096 → out.length ≤ i →
    Ev (fun k => linhayref02_Split.l0 k s out (Sp.mk now) (decide (st ≠ 0)) (decide (st = 2)) (i : Int)) (res (Wd.scan (out, ni now, st) (s.data.toList.drop i))) := by
  intro n
  induction n with
  | zero =>
    intro d i hd hi out now st hst h0 hn ho
    have hii : i = s.size := by omega
    have e : s.data.toList.drop i = [] := by rw [hii, Sp.size_eq]; simp
    rw [e, Wd.scan]
    refine Ev.step (fun k => by rw [linhayref02_Split.l0]) ?_
    refine ev_neg (by omega) ?_
    rcases hst with rfl | rfl | rfl
    · refine ev_neg (by decide) (ev_neg (by decide) ?_)
      exact Ev.now _
    · refine ev_neg (by decide) (ev_pos (by decide) (ev_pos (by omega) ?_))
      have : res (0, (out, ni now, 1)) = (out ++ [Sp.mk now], 0) := by rw [← strOfNums_ni]; rfl
      rw [this]
      exact Ev.now _
    · refine ev_pos (by decide) ?_
      exact Ev.now _
  | succ n ih =>
    intro d i hd hi out now st hst h0 hn ho
    rcases Nat.eq_zero_or_pos d with hd0 | hd0
    · exact ih d i (by omega) hi out now st hst h0 hn ho
    have hlt : i < s.size := by omega
    obtain ⟨c, hc, hdr⟩ := get_at s hlt
    rw [hdr]
    refine Ev.step (fun k => by rw [linhayref02_Split.l0]) ?_
    refine ev_pos (by omega) (ev_pos (by omega) ?_)
    rw [bt_nat hc]
    by_cases h10 : c.toNat = 10
    · refine ev_pos (by omega) ?_
      rw [scan_bad _ _ _ (.inl h10)]
      refine Ev.step (fun k => by rw [linhayref02_Split.j1]) ?_
      exact ev_pos rfl (Ev.now _)
    refine ev_neg (by omega) ?_
    refine Ev.step (fun k => by rw [linhayref02_Split.j1]) ?_
    by_cases hz : c.toNat = 0
    · rw [scan_bad _ _ _ (.inr hz)]
      exact ev_pos (by simp [hz]) (Ev.now _)
    refine ev_neg (by simp; omega) ?_
    have hok : ¬ (c.toNat = 10 ∨ c.toNat = 0) := by omega
    -- a byte more in the word
    have more : ∀ (st' : Int), (st' = 1 ∨ st' = 2) → Wd.take (out, ni now, st) c.toNat = (out, ni now ++ [(c.toNat : Int)], st') →
        Ev (fun k => if 0 ≤ (i : Int) then (if (i : Int) ≤ (wrap64 ((i : Int) + 1)) then (if (wrap64 ((i : Int) + 1)) ≤ (s.size : Int) then (if (Sp.mk now).size + (s.extract (i : Int).toNat ((wrap64 ((i : Int) + 1)) : Int).toNat).size ≤ 9223372036854775807 then (if ((Sp.mk now ++ (s.extract (i : Int).toNat ((wrap64 ((i : Int) + 1)) : Int).toNat)).size : Int) > 4096 then (some (([] : List ByteArray), 21)) else (linhayref02_Split.l0 k s out (Sp.mk now ++ (s.extract (i : Int).toNat ((wrap64 ((i : Int) + 1)) : Int).toNat)) true (decide (st' = 2)) (wrap64 ((i : Int) + 1)))) else none) else none) else none) else none)
          (res (Wd.scan (out, ni now, st) (c :: s.data.toList.drop (i + 1)))) := fun st' hst' ht => by
      rw [w1 (by omega)]
      simp only [Int.toNat_natCast]
      rw [ex1 hc, app_mk, Sp.mk_size, Sp.mk_size, Sp.mk_size, List.length_append]
      simp only [List.length_singleton]
      refine ev_pos (by omega) (ev_pos (by omega) (ev_pos (by omega) (ev_pos (by omega) ?_)))
      by_cases hb : 4096 < now.length + 1
      · rw [scan_big _ _ _ _ hok ht (by simp [ni_len]; omega)]
        exact ev_pos (by omega) (Ev.now _)
      · rw [scan_next _ _ _ _ hok ht (by simp [ni_len]; omega), ni_snoc]
        refine ev_neg (by omega) ?_
        have := ih (d - 1) (i + 1) (by omega) (by omega) out (now ++ [c]) st' (by omega) (by omega) (by simp; omega) (by omega)
        rcases hst' with rfl | rfl <;> exact this
    have go_on : ∀ (out' : List ByteArray) (now' : List UInt8) (st' : Int), (st' = 0 ∨ st' = 1 ∨ st' = 2) → (st' = 0 → now' = []) → now'.length ≤ 4096 → out'.length ≤ i + 1 → Wd.take (out, ni now, st) c.toNat = (out', ni now', st') →
        Ev (fun k => linhayref02_Split.l0 k s out' (Sp.mk now') (decide (st' ≠ 0)) (decide (st' = 2)) (wrap64 ((i : Int) + 1))) (res (Wd.scan (out, ni now, st) (c :: s.data.toList.drop (i + 1)))) := fun out' now' st' a1 a2 a3 a4 ht => by
      rw [w1 (by omega), scan_next _ _ _ _ hok ht (by simp [ni_len]; omega)]
      exact ih (d - 1) (i + 1) (by omega) (by omega) out' now' st' a1 a2 a3 a4
    have hns : ∀ l : List UInt8, (Sp.mk l).size = l.length := Sp.mk_size
    rcases (show (st = 0 ∨ st = 1) ∨ st = 2 by omega) with hst1 | rfl
    · -- outside of quotes
      have hq : decide (st = 2) = false := decide_eq_false (by omega)
      have ht0 : Wd.take (out, ni now, st) c.toNat = Wd.plain (out, ni now, st) c.toNat := by
        rw [Wd.take, if_neg (by show ¬ (st = 2 ∧ _); omega), if_neg (by show ¬ st = 2; omega), if_neg (by show ¬ st = 3; omega)]
      refine ev_neg (by rw [hq]; simp) ?_
      refine Ev.step (fun k => by rw [linhayref02_Split.j2]) ?_
      refine ev_neg (by simp) (ev_neg (by rw [hq]; simp) ?_)
      have hsp : (c.toNat = 32 ∨ c.toNat = 9) → Ev (fun k => linhayref02_Split.j3 k s out (Sp.mk now) (decide (st ≠ 0)) (decide (st = 2)) (i : Int) (c.toNat : Int) true) (res (Wd.scan (out, ni now, st) (c :: s.data.toList.drop (i + 1)))) := fun h => by
        have hp : Wd.plain (out, ni now, st) c.toNat = Wd.fin (out, ni now, st) := by rw [Wd.plain, if_pos (by omega)]
        refine Ev.step (fun k => by rw [linhayref02_Split.j3]) ?_
        refine ev_pos rfl ?_
        rcases hst1 with rfl | rfl
        · refine ev_neg (by decide) (ev_neg (by decide) ?_)
          have hn0 := h0 rfl
          subst hn0
          exact go_on out [] 0 (by omega) (fun _ => rfl) (by simp) (by omega) (by rw [ht0, hp]; rfl)
        · refine ev_pos (by decide) (ev_pos (by omega) (ev_neg (by decide) ?_))
          exact go_on (out ++ [Sp.mk now]) [] 0 (by omega) (fun _ => rfl) (by simp) (by simp; omega) (by rw [ht0, hp, ← strOfNums_ni]; rfl)
      by_cases h32 : c.toNat = 32
      · exact ev_pos (by omega) (hsp (.inl h32))
      refine ev_neg (by omega) ?_
      by_cases h9 : c.toNat = 9
      · have : ((c.toNat : Int) == 9) = true := by simp; omega
        rw [this]
        exact hsp (.inr h9)
      have b9 : ((c.toNat : Int) == 9) = false := by simp; omega
      rw [b9]
      refine Ev.step (fun k => by rw [linhayref02_Split.j3]) ?_
      refine ev_neg (by simp) ?_
      have hp0 : Wd.plain (out, ni now, st) c.toNat = if (c.toNat : Int) = 39 then (out, ni now, 2) else if (c.toNat : Int) = 92 then (out, ni now, 3) else (out, ni now ++ [(c.toNat : Int)], 1) := by rw [Wd.plain, if_neg (by omega)]
      by_cases h39 : c.toNat = 39
      · refine ev_pos (by omega) (ev_neg (by rw [hns]; omega) ?_)
        rw [if_pos (by omega)] at hp0
        exact go_on out now 2 (by omega) (fun h => by omega) hn (by omega) (by rw [ht0, hp0])
      rw [if_neg (by omega)] at hp0
      refine ev_neg (by omega) ?_
      by_cases h92 : c.toNat = 92
      · rw [if_pos (by omega)] at hp0
        refine ev_pos (by omega) ?_
        have hs3 := scan_next _ _ _ (s.data.toList.drop (i + 1)) hok (ht0.trans hp0) (by simp [ni_len]; omega)
        rw [hs3, w1 (by omega), hq]
        have bad : Ev (fun k => linhayref02_Split.j4 k s out (Sp.mk now) false (i : Int) true) (([] : List ByteArray), (3 : Int)) := by
          refine Ev.step (fun k => by rw [linhayref02_Split.j4]) ?_
          exact ev_pos rfl (Ev.now _)
        by_cases hend : i + 1 = s.size
        · refine ev_pos (by omega) ?_
          have e : s.data.toList.drop (i + 1) = [] := by rw [hend, Sp.size_eq]; simp
          rw [e, Wd.scan]
          exact bad
        · refine ev_neg (by omega) (ev_pos (by omega) (ev_pos (by omega) ?_))
          obtain ⟨c2, hc2, hdr2⟩ := get_at s (i := i + 1) (by omega)
          rw [bt_nat hc2, hdr2]
          by_cases g10 : c2.toNat = 10
          · rw [scan_bad _ _ _ (.inl g10)]
            exact ev_pos (by omega) bad
          refine ev_neg (by omega) ?_
          by_cases gz : c2.toNat = 0
          · rw [scan_bad _ _ _ (.inr gz)]
            have : ((c2.toNat : Int) == 0) = true := by simp [gz]
            rw [this]
            exact bad
          have b0 : ((c2.toNat : Int) == 0) = false := by simp; omega
          rw [b0]
          refine Ev.step (fun k => by rw [linhayref02_Split.j4]) ?_
          refine ev_neg (by simp) ?_
          rw [w1 (by omega), w1 (by omega)]
          simp only [Int.toNat_natCast]
          rw [ex1 hc2, app_mk]
          have hok2 : ¬ (c2.toNat = 10 ∨ c2.toNat = 0) := by omega
          have ht2 : Wd.take (out, ni now, 3) c2.toNat = (out, ni (now ++ [c2]), 1) := by
            rw [← ni_snoc]; rfl
          refine ev_pos (by omega) (ev_pos (by omega) (ev_pos (by omega) (ev_pos (by rw [hns, hns]; simp; omega) ?_)))
          by_cases hb : 4096 < now.length + 1
          · rw [scan_big _ _ _ _ hok2 ht2 (by simp [ni_len]; omega)]
            exact ev_pos (by rw [hns]; simp; omega) (Ev.now _)
          · rw [scan_next _ _ _ _ hok2 ht2 (by simp [ni_len]; omega)]
            refine ev_neg (by rw [hns]; simp; omega) ?_
            exact ih (d - 2) (i + 2) (by omega) (by omega) out (now ++ [c2]) 1 (by omega) (fun h => by omega) (by simp; omega) (by omega)
      · rw [if_neg (by omega)] at hp0
        refine ev_neg (by omega) ?_
        rw [hq]
        exact more 1 (.inl rfl) (by rw [ht0, hp0])
    · -- inside of quotes
      refine ev_pos (by decide) ?_
      by_cases h39 : c.toNat = 39
      · have hb : ((c.toNat : Int) == 39) = true := by simp; omega
        rw [hb]
        refine Ev.step (fun k => by rw [linhayref02_Split.j2]) ?_
        refine ev_pos rfl (ev_neg (by rw [hns]; omega) ?_)
        exact go_on out now 1 (by omega) (fun h => by omega) hn (by omega) (by rw [Wd.take, if_pos ⟨rfl, by omega⟩])
      · have hb : ((c.toNat : Int) == 39) = false := by simp; omega
        rw [hb]
        refine Ev.step (fun k => by rw [linhayref02_Split.j2]) ?_
        refine ev_neg (by simp) (ev_pos (by decide) ?_)
        exact more 2 (.inr rfl) (by rw [Wd.take, if_neg (by omega), if_pos rfl])

theorem r02_split (s : ByteArray) (hs : s.size < 4294967281) : Ev (fun k => linhayref02_Split.f k s) (Wd.split s.data.toList) := by
  have h := r02_split_l0 s (by omega) s.size s.size 0 (Nat.le_refl _) (by omega) [] [] 0 (by omega) (fun _ => rfl) (by simp) (by simp)
  rw [List.drop_zero] at h
  exact h

theorem r02_same_l0 (a b : List ByteArray) (hl : a.length = b.length) (hb : a.length < 4611686018427387904) : ∀ (d i : Nat), i + d = a.length →
    Ev (fun k => linhayref02_Same.l0 k a b (i : Int)) (decide (a.drop i = b.drop i)) := by
  intro d
  induction d with
  | zero =>
    intro i hi
    refine Ev.step (fun k => by rw [linhayref02_Same.l0]) ?_
    refine ev_neg (by omega) ?_
    have e1 : a.drop i = [] := List.drop_eq_nil_of_le (by omega)
    have e2 : b.drop i = [] := List.drop_eq_nil_of_le (by omega)
    rw [e1, e2]
    exact Ev.now _
  | succ d ih =>
    intro i hi
    have h1 : i < a.length := by omega
    have h2 : i < b.length := by omega
    refine Ev.step (fun k => by rw [linhayref02_Same.l0]) ?_
    refine ev_pos (by omega) (ev_pos (by omega) (ev_pos (by omega) ?_))
    rw [rd_nat (List.getElem?_eq_getElem h1), rd_nat (List.getElem?_eq_getElem h2), List.drop_eq_getElem_cons h1, List.drop_eq_getElem_cons h2]
    by_cases e : a[i] = b[i]
    · refine ev_pos (by rw [e]) ?_
      rw [w1 (by omega), e]
      have := ih (i + 1) (by omega)
      generalize a.drop (i + 1) = X at *
      generalize b.drop (i + 1) = Y at *
      have e2 : decide (b[i] :: X = b[i] :: Y) = decide (X = Y) := by simp
      rw [e2]
      exact this
    · refine ev_neg (fun h => e ?_) ?_
      · rw [toL, toL] at h
        rw [← Sp.mk_of a[i], h, Sp.mk_of]
      · have : decide (a[i] :: a.drop (i + 1) = b[i] :: b.drop (i + 1)) = false := decide_eq_false (fun h => e (List.cons.inj h).1)
        rw [this]
        exact Ev.now _
theorem r02_same (a b : List ByteArray) (hb : a.length < 4611686018427387904) : Ev (fun k => linhayref02_Same.f k a b) (decide (a = b)) := by
  unfold linhayref02_Same.f
  by_cases hl : a.length = b.length
  · refine ev_pos (by omega) ?_
    have := r02_same_l0 a b hl hb a.length 0 (by omega)
    simpa using this
  · refine ev_neg (by omega) ?_
    have : decide (a = b) = false := decide_eq_false (fun e => hl (by rw [e]))
    rw [this]
    exact Ev.now _
end Go.Proofs.YtocpdhbkfgolfaaDoor.Pu
