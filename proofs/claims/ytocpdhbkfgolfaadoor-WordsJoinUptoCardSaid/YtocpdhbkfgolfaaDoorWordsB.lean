/- words.Split, walked. -/
import Derived.Test.YtocpdhbkfgolfaaDoorWordsA
namespace Go.Proofs.YtocpdhbkfgolfaaDoor.Wd
open Go Go.RowKit Go.Shelf Go.Proofs Go.Proofs.YtocpdhbkfgolfaaDoor Go.Proofs.YtocpdhbkfgolfaaDoorW.PrintWords
set_option linter.unusedVariables false
set_option linter.unusedSimpArgs false

/-- What a reader makes of bytes: an error's number (0: none) and what it has. -/
def scan (x : S3) : List UInt8 → Int × S3
  | [] => (0, x)
  | c :: t => if c.toNat = 10 ∨ c.toNat = 0 then (3, x) else if 4096 < (take x c.toNat).2.1.length then (21, x) else scan (take x c.toNat) t
/-- What words.Split answers. -/
def split (s : List UInt8) : List ByteArray × Int :=
  let r := scan ([], [], 0) s
  if r.1 = 0 then (if r.2.2.2 = 2 ∨ r.2.2.2 = 3 then ([], 3) else ((fin r.2).1, 0)) else ([], r.1)

theorem fin_len (x : S3) : (fin x).1.length ≤ x.1.length + 1 ∧ (fin x).2.1.length ≤ x.2.1.length := by
  unfold fin; split <;> simp
theorem plain_len (x : S3) (c : Int) : (plain x c).1.length ≤ x.1.length + 1 ∧ (plain x c).2.1.length ≤ x.2.1.length + 1 := by
  have := fin_len x
  unfold plain; split
  · omega
  · split
    · simp
    · split <;> simp
theorem take_len (x : S3) (c : Int) : (take x c).1.length ≤ x.1.length + 1 ∧ (take x c).2.1.length ≤ x.2.1.length + 1 := by
  have := plain_len x c
  unfold take; split
  · simp
  · split
    · simp
    · split
      · simp
      · omega

theorem own_len {W : World} {b e sz n : Nat} {v : Value} {xs : List Value} (h : W.ownsRow b e sz v n xs) : ∃ A c, v = .slice A n c := own_slice h

set_option maxRecDepth 100000 in
set_option maxHeartbeats 4000000 in
theorem split_calls (s : ByteArray) (w : World) (hs : s.size < 4294967281) :
    Calls Tryd.prog 11 #[.string s] w fun e W' => ∃ v, e = .returned (.tuple #[v, .int .i64 (split s.data.toList).2]) ∧
      W'.ownsRow w.heap.size 9 1 v (split s.data.toList).1.length (encs Value.string (split s.data.toList).1) ∧ Below w.heap.size w W' := by
  obtain ⟨R, hR⟩ : ∃ R, R = split s.data.toList := ⟨_, rfl⟩
  rw [← hR]
  go_enter Tryd.func11, Tryd.ntmps11
  go_wp2
  go_loopw [10] (fun i wr => ∃ (m : Nat) (x : S3), i = .int .i64 (m : Int) ∧ m ≤ s.size ∧ Has wr w.heap.size (w.heap.size + 1) x ∧ Below w.heap.size w wr ∧ x.1.length ≤ m ∧ x.2.1.length ≤ m ∧ scan ([], [], 0) s.data.toList = scan x (s.data.toList.drop m)) (fun i wr => match i with | .int _ k => (s.size : Int).toNat - k.toNat | _ => 0)
  case atStart =>
    refine ⟨0, ([], [], 0), rfl, by omega, ⟨.slice none 0 0, .slice none 0 0, ⟨World.alloc_heap_new w _, by omega, by simp, World.ownsRow_nil _ _ _ _, World.ownsRow_nil _ _ _ _⟩⟩, (Below.refl _ _).alloc (Nat.le_refl _) _, by simp, by simp, by simp⟩
  case round =>
    obtain ⟨m, x, rfl, hm, hh, hb, hl1, hl2, hsc⟩ := hrel
    by_cases hlt : (m : Int) < (s.size : Int)
    · have hlt2 : m < s.size := by omega
      have hdrop : s.data.toList.drop m = s[m]'hlt2 :: s.data.toList.drop (m + 1) := by
        have : m < s.data.toList.length := by simpa using hlt2
        rw [List.drop_eq_getElem_cons this]
        rfl
      rw [hdrop, scan] at hsc
      obtain ⟨C, hC⟩ : ∃ C, (s[m]'hlt2).toNat = C := ⟨_, rfl⟩
      rw [hC] at hsc
      by_cases h10 : C = 10
      · subst h10
        rw [if_pos (.inl rfl)] at hsc
        have hr : R = ([], 3) := by rw [hR, split, hsc]; rfl
        subst hr
        go_wp2
        go_ret2
        exact ⟨_, rfl, World.ownsRow_nil _ _ _ _, hb⟩
      · by_cases h0 : C = 0
        · subst h0
          rw [if_pos (.inr rfl)] at hsc
          have hr : R = ([], 3) := by rw [hR, split, hsc]; rfl
          subst hr
          go_wp2
          go_ret2
          exact ⟨_, rfl, World.ownsRow_nil _ _ _ _, hb⟩
        · have b10 : ((C : Int) == 10) = false := by simpa using fun e : (C : Int) = 10 => h10 (by omega)
          have b0 : ((C : Int) == 0) = false := by simpa using fun e : (C : Int) = 0 => h0 (by omega)
          rw [if_neg (by omega)] at hsc
          have hT := Lib.hid (take_calls wr w.heap.size (w.heap.size + 1) x (C : Int) hh (by omega) (by omega))
          have hlen := take_len x (C : Int)
          generalize take x (C : Int) = y at *
          by_cases h4 : 4096 < y.2.1.length
          · rw [if_pos h4] at hsc
            have hr : R = ([], 21) := by rw [hR, split, hsc]; rfl
            subst hr
            have b4 : (4096 : Int) < (y.2.1.length : Int) := by omega
            go_wp2_with (go_at_call 39; refine hT.out.mono ?_; rintro e w' ⟨rfl, ⟨vo, vn, hst⟩, hb2⟩; obtain ⟨A, cc, hvn⟩ := own_slice hst.n; have c1 := hst.rd.c1; rw [hvn] at c1)
            go_ret2
            exact ⟨_, rfl, World.ownsRow_nil _ _ _ _, hb.trans hb2⟩
          · rw [if_neg h4] at hsc
            have b4 : ¬ (4096 : Int) < (y.2.1.length : Int) := by omega
            go_wp2_with (go_at_call 39; refine hT.out.mono ?_; rintro e w' ⟨rfl, ⟨vo, vn, hst⟩, hb2⟩; obtain ⟨A, cc, hvn⟩ := own_slice hst.n; have c1 := hst.rd.c1; rw [hvn] at c1)
            refine ⟨⟨m + 1, y, by simp, by omega, ⟨vo, vn, hst⟩, hb.trans hb2, by omega, by omega, hsc⟩, ?_⟩
            simp only []
            omega
    · have hms : m = s.size := by omega
      have hdrop : s.data.toList.drop m = [] := by simp [hms]
      rw [hdrop, scan] at hsc
      obtain ⟨vo, vn, hst⟩ := hh
      have c2 := hst.rd.c2
      by_cases h2 : x.2.2 = 2
      · have hr : R = ([], 3) := by rw [hR, split, hsc]; simp [h2]
        subst hr
        rw [h2] at c2
        go_wp2
        go_ret2
        exact ⟨_, rfl, World.ownsRow_nil _ _ _ _, hb⟩
      · by_cases h3 : x.2.2 = 3
        · have hr : R = ([], 3) := by rw [hR, split, hsc]; simp [h3]
          subst hr
          rw [h3] at c2
          go_wp2
          go_ret2
          exact ⟨_, rfl, World.ownsRow_nil _ _ _ _, hb⟩
        · have hr : R = ((fin x).1, 0) := by rw [hR, split, hsc]; simp [h2, h3]
          subst hr
          have e2 : (x.2.2 == 2) = false := by simpa using h2
          have e3 : (x.2.2 == 3) = false := by simpa using h3
          have hE := Lib.hid (end_calls wr w.heap.size (w.heap.size + 1) x ⟨vo, vn, hst⟩ (by omega))
          generalize x.2.2 = st at c2 e2 e3
          go_wp2_with (go_at_call 40; refine hE.out.mono ?_; rintro e w' ⟨rfl, ⟨vo2, vn2, hst2⟩, hb2⟩; have c0 := hst2.rd.c0)
          go_ret2
          exact ⟨_, rfl, own_weaken hst2.o (Nat.le_succ _), hb.trans hb2⟩
end Go.Proofs.YtocpdhbkfgolfaaDoor.Wd
