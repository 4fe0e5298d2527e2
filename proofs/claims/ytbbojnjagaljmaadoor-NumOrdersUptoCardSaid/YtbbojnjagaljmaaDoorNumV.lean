/- Layer 1 walked: the natural order of texts; numbers' texts and parsing; lives. -/
import Derived.Test.YtbbojnjagaljmaaDoorNumW
import Derived.Deep.LoopGhost
namespace Go.Proofs.YtbbojnjagaljmaaDoor.Nu
open Go Go.RowKit Go.Shelf Go.Proofs Go.Proofs.YtbbojnjagaljmaaDoor Go.Proofs.YtbbojnjagaljmaaDoorW.PrintWords Go.Proofs.YtbbojnjagaljmaaDoor.Pu Go.Proofs.YtbbojnjagaljmaaDoor.X
set_option linter.unusedVariables false
set_option linter.unusedSimpArgs false
def fst (a : ByteArray) : ByteArray := a.extract 0 (cutN a.data.toList)
def rst (a : ByteArray) : ByteArray := a.extract (cutN a.data.toList) a.size
def natB : Nat → ByteArray → ByteArray → Int
  | 0, _, _ => 0
  | k + 1, a, b => if a.toList = [] ∨ b.toList = [] then Lib.compareInt (a.size : Int) (b.size : Int) else if partF (fst a) (fst b) ≠ 0 then partF (fst a) (fst b) else natB k (rst a) (rst b)
theorem natB_one (k : Nat) (a b : ByteArray) : natB (k + 1) a b = if a.toList = [] ∨ b.toList = [] then Lib.compareInt (a.size : Int) (b.size : Int) else if partF (fst a) (fst b) ≠ 0 then partF (fst a) (fst b) else natB k (rst a) (rst b) := rfl
theorem ne_size {a : ByteArray} (h : a.toList ≠ []) : 0 < a.size := by
  rw [toL] at h
  rw [Sp.size_eq]
  exact List.length_pos_iff.2 h
theorem cutN_in {a : ByteArray} (h : 0 < a.size) : 1 ≤ cutN a.data.toList ∧ cutN a.data.toList ≤ a.size := by
  have := runN_le a.data.toList
  rw [← Sp.size_eq] at this
  unfold cutN
  split <;> omega
theorem fst_size {a : ByteArray} (h : 0 < a.size) : (fst a).size = cutN a.data.toList := by
  have := cutN_in h
  unfold fst
  rw [ByteArray.size_extract]
  omega
theorem rst_size {a : ByteArray} (h : 0 < a.size) : (rst a).size = a.size - cutN a.data.toList := by
  unfold rst
  rw [ByteArray.size_extract]
  omega
set_option maxHeartbeats 2000000 in
set_option maxRecDepth 100000 in
theorem natural_calls (a b : ByteArray) (w : World) (ha : a.size < 4294967296) (hb : b.size < 4294967296) :
    Calls Tryd.prog 11 #[.string a, .string b] w fun e w' => e = .returned (.int .i64 (natB (a.size + 1) a b)) ∧ Below w.heap.size w w' := by
  generalize hR : natB (a.size + 1) a b = R
  have HR := Lib.hid hR
  have HCI : Hid (∀ (x y : Int) W, Calls Tryd.prog 23 #[.int .i64 x, .int .i64 y] W fun e w' => e = .returned (.int .i64 (Lib.compareInt x y)) ∧ W = w') := Lib.hid (fun x y W => (Tryd.cmp_Compare_int x y W).mono fun e w' ⟨h1, h2⟩ => ⟨h1, h2.symm⟩)
  have HCUT : Hid (∀ (s : ByteArray) W, s.size < 4294967296 → 0 < s.size → Calls Tryd.prog 20 #[.string s, .func (.func 21) #[] #[]] W fun e w' => e = .returned (.tuple #[.string (fst s), .string (rst s)]) ∧ Below W.heap.size W w') := Lib.hid (fun s W h1 h2 => cut_calls s W h1 h2)
  have HP := Lib.hid part_calls
  clear hR
  go_enter Tryd.func11, Tryd.ntmps11
  go_wp2
  go_loopg [0, 1] (a.size + 1) (fun kq v0 v1 wr => ∃ (x y : ByteArray), v0 = .string x ∧ v1 = .string y ∧ Aside0 (natB kq x y = R) ∧ Aside0 (x.size < kq) ∧ Aside0 (x.size < 4294967296 ∧ y.size < 4294967296) ∧ Aside0 (Below w.heap.size w wr))
  case atStart => exact ⟨a, b, rfl, rfl, ⟨HR.out⟩, ⟨by omega⟩, ⟨ha, hb⟩, ⟨Below.refl _ _⟩⟩
  case round =>
    clear HR ha hb
    obtain ⟨x, y, rfl, rfl, HR, HK, HS, HB⟩ := hrel
    cases gk with
    | zero => exact absurd HK.out (by omega)
    | succ k1 =>
    have hR := HR.out
    rw [natB_one] at hR
    by_cases h1 : x.toList = []
    · rw [if_pos (.inl h1)] at hR
      have e1 : (x.toList == []) = true := by rw [h1]; rfl
      have e2 : x.toList.isEmpty = true := by rw [h1]; rfl
      have HR := Lib.hid hR
      clear hR
      go_wp2_with (go_at_call 23; refine (HCI.out _ _ _).mono ?_; rintro e w2 ⟨rfl, rfl⟩)
      go_ret
      exact ⟨by rw [← HR.out]; rfl, HB.out⟩
    · have e1 : (x.toList == []) = false := by simpa using h1
      have e2 : x.toList.isEmpty = false := by simpa using h1
      have hx := ne_size h1
      by_cases h2 : y.toList = []
      · rw [if_pos (.inr h2)] at hR
        have e3 : (y.toList == []) = true := by rw [h2]; rfl
        have e4 : y.toList.isEmpty = true := by rw [h2]; rfl
        have HR := Lib.hid hR
        clear hR h1
        go_wp2_with (go_at_call 23; refine (HCI.out _ _ _).mono ?_; rintro e w2 ⟨rfl, rfl⟩)
        go_ret
        exact ⟨by rw [← HR.out]; rfl, HB.out⟩
      · rw [if_neg (by rintro (h | h); exact h1 h; exact h2 h)] at hR
        have e3 : (y.toList == []) = false := by simpa using h2
        have e4 : y.toList.isEmpty = false := by simpa using h2
        have hy := ne_size h2
        have hfx := fst_size hx
        have hfy := fst_size hy
        have hrx := rst_size hx
        have hry := rst_size hy
        have hcx := cutN_in hx
        have hcy := cutN_in hy
        have HC1 := Lib.hid (fun W => HCUT.out x W HS.out.1 hx)
        have HC2 := Lib.hid (fun W => HCUT.out y W HS.out.2 hy)
        have HP1 := Lib.hid (fun W => HP.out (fst x) (fst y) W (by omega) (by omega))
        have HNX := Lib.hid (show (rst x).size < k1 ∧ (rst x).size < 4294967296 ∧ (rst y).size < 4294967296 by have := HK.out; have := HS.out; omega)
        generalize hq : partF (fst x) (fst y) = q at HP1 hR
        clear h1 h2 hfx hfy hrx hry hcx hcy hx hy hq
        by_cases hz : q = 0
        · subst hz
          rw [if_neg (by simp)] at hR
          have HR := Aside0.mk hR
          clear hR
          go_wp2_with (first
            | (go_at_call 20; first | ((with_reducible refine (HC1.out _).mono ?_); rintro e w2 ⟨rfl, hb2⟩) | ((with_reducible refine (HC2.out _).mono ?_); rintro e w3 ⟨rfl, hb3⟩))
            | (go_at_call 22; refine (HP1.out _).mono ?_; rintro e w4 ⟨rfl, hb4⟩))
          go_roundg k1
          case measure => exact Nat.lt_succ_self _
          case rel => exact ⟨_, _, rfl, rfl, HR, ⟨HNX.out.1⟩, ⟨HNX.out.2⟩, ⟨HB.out.trans ((hb2.trans ((hb3.mono hb2.size).trans (hb4.mono (Nat.le_trans hb2.size hb3.size)))).mono HB.out.size)⟩⟩
        · rw [if_pos hz] at hR
          have hz' : (q != 0) = true := bne_iff_ne.2 hz
          subst hR
          clear hz
          go_wp2_with (first
            | (go_at_call 20; first | ((with_reducible refine (HC1.out _).mono ?_); rintro e w2 ⟨rfl, hb2⟩) | ((with_reducible refine (HC2.out _).mono ?_); rintro e w3 ⟨rfl, hb3⟩))
            | (go_at_call 22; refine (HP1.out _).mono ?_; rintro e w4 ⟨rfl, hb4⟩))
          go_ret
          exact ⟨rfl, HB.out.trans ((hb2.trans ((hb3.mono hb2.size).trans (hb4.mono (Nat.le_trans hb2.size hb3.size)))).mono HB.out.size)⟩
end Go.Proofs.YtbbojnjagaljmaaDoor.Nu
