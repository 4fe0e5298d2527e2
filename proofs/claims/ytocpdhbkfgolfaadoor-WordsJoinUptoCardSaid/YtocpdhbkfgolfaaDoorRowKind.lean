/- rows.kind, walked. -/
import Derived.Test.YtocpdhbkfgolfaaDoorShelf
import Derived.Test.YtocpdhbkfgolfaaDoorSpec
import Derived.Lib.OthersKept
import Derived.Shelf.Abstract
import Derived.WalkKit
import Derived.WalkSpells
import Derived.Deep.LoopGhost
import Derived.Lib.Hide
namespace Go.Proofs.YtocpdhbkfgolfaaDoor.Rk
open Go Go.RowKit Go.Shelf Go.Proofs Go.Proofs.YtocpdhbkfgolfaaDoor
set_option linter.unusedVariables false
set_option linter.unusedSimpArgs false

def kindOf (s : List UInt8) : Int := if s = [100] then 1 else if s = [102] then 2 else if s = [108] then 3 else 0
theorem conv (C : Int) (b : UInt8) (h : (C = 100 ∧ b = 100) ∨ (C = 102 ∧ b = 102) ∨ (C = 108 ∧ b = 108)) (W : World) : (convert 21 9 (.int .i32 C)).run Tryd.prog W = .ok (.string ⟨#[b]⟩) W := by
  have h1 := Tryd.underlying21
  have h2 := Tryd.underlying9
  rcases h with ⟨rfl, rfl⟩ | ⟨rfl, rfl⟩ | ⟨rfl, rfl⟩ <;> simp [convert, run_underlying h1, run_underlying h2, Conv.intToString] <;> first | rfl | kernel_rfl

def letter (p : Nat) : UInt8 := if p = 0 then 100 else if p = 1 then 102 else 108
set_option maxHeartbeats 2000000 in
set_option maxRecDepth 1000000 in
theorem kind_calls (s : ByteArray) (w : World) :
    Calls Tryd.prog 57 #[.string s] w fun e w' => e = .returned (.int .i64 (kindOf s.data.toList)) ∧ Below w.heap.size w w' := by
  obtain ⟨R, hR⟩ : ∃ R, R = kindOf s.data.toList := ⟨_, rfl⟩
  rw [← hR]
  have HR := Lib.hid hR
  clear hR
  go_enter Tryd.func57, Tryd.ntmps57
  go_wp2
  go_loopg [] 3 (fun gf wx => ∃ pos : Nat, wx.heap[w.heap.size]? = some (.stringIter ⟨#[100, 102, 108]⟩ pos) ∧ Below w.heap.size w wx ∧ pos + gf = 3 ∧ ∀ j, j < pos → s.data.toList ≠ [letter j])
  case atStart => exact ⟨0, World.iter_heap w _ 0, (Below.refl _ w).alloc (Nat.le_refl _) _, by omega, fun j hj => by omega⟩
  case round =>
    obtain ⟨pos, hit, hbw, hfu, hno⟩ := hrel
    by_cases hps : pos < 3
    · obtain ⟨g', rfl⟩ : ∃ g', gk = g' + 1 := ⟨gk - 1, by omega⟩
      have hit2 := Lib.iterAt_heap wr w.heap.size ⟨#[100, 102, 108]⟩ pos (pos + 1) hit
      have hbw2 := Lib.below_iterAt hbw (k := w.heap.size) (Nat.le_refl _) ⟨#[100, 102, 108]⟩ (pos + 1)
      have hl : pos = 0 ∨ pos = 1 ∨ pos = 2 := by omega
      obtain ⟨C, b, hC, hb, hnx⟩ : ∃ (C : Int) (b : UInt8), ((C = 100 ∧ b = 100) ∨ (C = 102 ∧ b = 102) ∨ (C = 108 ∧ b = 108)) ∧ letter pos = b ∧ ∀ ty, (Instr.next (.pointer (some ⟨w.heap.size, 0, none⟩)) true ty).run Tryd.prog wr = .ok (.tuple #[.bool true, .int .i64 pos, .int .i32 C]) (wr.iterAt w.heap.size ⟨#[100, 102, 108]⟩ (pos + 1)) := by
        rcases hl with rfl | rfl | rfl
        · exact ⟨100, 100, .inl ⟨rfl, rfl⟩, rfl, fun ty => Lib.run_next_ascii_at wr w.heap.size ⟨#[100, 102, 108]⟩ 0 ty hit (by decide) (by decide)⟩
        · exact ⟨102, 102, .inr (.inl ⟨rfl, rfl⟩), rfl, fun ty => Lib.run_next_ascii_at wr w.heap.size ⟨#[100, 102, 108]⟩ 1 ty hit (by decide) (by decide)⟩
        · exact ⟨108, 108, .inr (.inr ⟨rfl, rfl⟩), rfl, fun ty => Lib.run_next_ascii_at wr w.heap.size ⟨#[100, 102, 108]⟩ 2 ty hit (by decide) (by decide)⟩
      have hcv := fun W => conv C b hC W
      have hmk : (⟨#[b]⟩ : ByteArray).toList = [b] := Lib.toList_data _
      by_cases he : s.data.toList = [b]
      · have hb1 : ([b] == s.toList) = true := by rw [Lib.toList_data, he]; simp
        have hb2 : ((⟨#[b]⟩ : ByteArray).toList == s.toList) = true := by rw [hmk]; exact hb1
        have hr : R = (pos : Int) + 1 := by
          rw [HR.out, he]
          rcases hl with rfl | rfl | rfl <;> (simp [letter] at hb; subst hb; rfl)
        clear hb hl
        go_wp2
        go_ret
        exact ⟨by rw [hr]; rfl, hbw2⟩
      · have hb1 : ([b] == s.toList) = false := by rw [Lib.toList_data]; simpa using fun e => he e.symm
        have hb2 : ((⟨#[b]⟩ : ByteArray).toList == s.toList) = false := by rw [hmk]; exact hb1
        have hno2 : ∀ j, j < pos + 1 → s.data.toList ≠ [letter j] := fun j hj => by
          rcases Nat.lt_or_ge j pos with h | h
          · exact hno j h
          · obtain rfl : j = pos := by omega
            rw [hb]; exact he
        have HN := Lib.hid hno2
        clear hb hl hno hno2
        go_wp2
        go_roundg g'
        case measure => omega
        case rel => exact ⟨pos + 1, hit2, hbw2, by omega, HN.out⟩
    · have hnx : ∀ ty, (Instr.next (.pointer (some ⟨w.heap.size, 0, none⟩)) true ty).run Tryd.prog wr = _ := fun ty => Lib.run_next_end_at wr w.heap.size ⟨#[100, 102, 108]⟩ pos ty hit hps
      go_wp2
      go_ret
      have h0 := hno 0 (by omega)
      have h1 := hno 1 (by omega)
      have h2 := hno 2 (by omega)
      simp only [letter] at h0 h1 h2
      refine ⟨?_, hbw⟩
      rw [HR.out, kindOf, if_neg (by simpa using h0), if_neg (by simpa using h1), if_neg (by simpa using h2)]
      rfl
end Go.Proofs.YtocpdhbkfgolfaaDoor.Rk
