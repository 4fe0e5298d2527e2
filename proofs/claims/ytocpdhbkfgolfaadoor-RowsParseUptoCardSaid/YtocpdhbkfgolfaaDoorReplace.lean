/- strings.ReplaceAll of one byte; strings.Split at one byte. -/
import Derived.Test.YtocpdhbkfgolfaaDoorShelf
import Derived.Shelf.Strings.Replace
import Derived.Shelf.Abstract
import Derived.WalkKit
import Derived.WalkSpells
import Derived.Deep.LoopGhost
import Derived.RangeFuncBox
import Derived.WalkSmall
import Derived.OwnWalkIn
import Derived.TacticsInMore
import Derived.Deep.QuietTactic
import Derived.BigQuiet
import Derived.OpenShut
import Derived.Lib.Hide
import Derived.Test.YtocpdhbkfgolfaaDoorSpec
import Derived.Lib.OthersKept
namespace Go.Proofs.YtocpdhbkfgolfaaDoor.Rp
open Go Go.RowKit Go.Shelf Go.Proofs Go.Proofs.YtocpdhbkfgolfaaDoor
set_option linter.unusedVariables false
set_option linter.unusedSimpArgs false

/-- Each byte c replaced. -/
def rep (c : UInt8) (new : List UInt8) : List UInt8 → List UInt8
  | [] => []
  | b :: l => if b = c then new ++ rep c new l else b :: rep c new l
theorem rep_none (c : UInt8) (new : List UInt8) : ∀ l : List UInt8, l.count c = 0 → rep c new l = l
  | [], _ => rfl
  | b :: l, h => by
    have hb : ¬ b = c := fun e => by subst e; simp at h
    rw [rep, if_neg hb, rep_none c new l (by simpa [List.count_cons, hb] using h)]
theorem rep_at (c : UInt8) (new : List UInt8) : ∀ (l : List UInt8) (j : Nat), Lib.indexByte l c = j → rep c new l = l.take j ++ new ++ rep c new (l.drop (j + 1)) ∧ l.count c = (l.drop (j + 1)).count c + 1 ∧ j < l.length
  | [], j, h => by simp [Lib.indexByte] at h
  | b :: l, j, h => by
    by_cases hb : b = c
    · subst hb
      have e : j = 0 := by
        have := (Lib.indexByte_some h).2
        rcases Nat.eq_zero_or_pos j with h0 | h0
        · exact h0
        · exact absurd rfl (this 0 h0)
      subst e
      simp [rep]
    · have h1 := Lib.indexByte_some h
      obtain ⟨i, rfl⟩ : ∃ i, j = i + 1 := by
        rcases Nat.eq_zero_or_pos j with h0 | h0
        · subst h0; exact absurd (by simpa using h1.1) hb
        · exact ⟨j - 1, by omega⟩
      have hi : Lib.indexByte l c = (i : Int) := by
        have hge := Lib.indexByte_ge l c
        by_cases hm : Lib.indexByte l c = -1
        · exact absurd (by simpa using h1.1) (Lib.indexByte_none hm i)
        · obtain ⟨k, hk⟩ := Int.eq_ofNat_of_zero_le (show 0 ≤ Lib.indexByte l c by omega)
          have h2 := Lib.indexByte_some hk
          rcases Nat.lt_trichotomy k i with hlt | rfl | hlt
          · exact absurd (by simpa using h2.1) (h1.2 (k + 1) (by omega))
          · exact hk
          · exact absurd (by simpa using h1.1) (h2.2 i hlt)
      obtain ⟨e1, e2, e3⟩ := rep_at c new l i hi
      refine ⟨?_, ?_, by simp; omega⟩
      · rw [rep, if_neg hb, e1]; simp
      · simpa [List.count_cons, hb] using e2
theorem index_of_pos {l : List UInt8} {c : UInt8} (h : 0 < l.count c) : ∃ j : Nat, Lib.indexByte l c = j := by
  have hge := Lib.indexByte_ge l c
  by_cases hm : Lib.indexByte l c = -1
  · exfalso
    have hmem := List.count_pos_iff.1 h
    obtain ⟨i, hi, e⟩ := List.getElem_of_mem hmem
    exact Lib.indexByte_none hm i (by rw [List.getElem?_eq_getElem hi, e])
  · exact ⟨(Lib.indexByte l c).toNat, by omega⟩
theorem rep_len (c : UInt8) (new : List UInt8) : ∀ l : List UInt8, (rep c new l).length ≤ l.length + l.count c * new.length
  | [] => by simp [rep]
  | b :: l => by
    have := rep_len c new l
    by_cases hb : b = c
    · subst hb
      rw [rep, if_pos rfl, List.length_append, List.count_cons_self, Nat.succ_mul, List.length_cons]
      omega
    · rw [rep, if_neg hb, List.length_cons, List.length_cons, List.count_cons_of_ne hb]
      omega

theorem write_calls (B b : Nat) (bs : List Value) (s : ByteArray) (w : World) (h : Lib.IsBuilder 83 5 B b bs w) (hlen : bs.length + s.size ≤ 140737488355328) (hBw : B ≤ w.heap.size) :
    Calls Tryd.prog 62 #[.pointer (some ⟨b, 0, none⟩), .string s] w fun e w' => e = .returned (.tuple #[.int .i64 s.size, .nilIface]) ∧ (Lib.BuilderAt 83 5 B b (.pointer (some ⟨b, 0, none⟩)) (bs ++ Lib.strCells s) w' ∧ Below B w w') :=
  Any.Builder_WriteString { Tryd.lays154 with } Tryd.Builder_Extra_154 B b bs s w h hlen hBw

set_option maxHeartbeats 8000000 in
set_option maxRecDepth 1000000 in
theorem replace_some (s : ByteArray) (c : UInt8) (new : ByteArray) (w : World) (hs : s.size < 4294967281) (hne : (⟨#[c]⟩ : ByteArray) ≠ new) (hnew : new.size ≤ 16) (hc0 : s.data.toList.count c ≠ 0) :
    Calls Tryd.prog 60 #[.string s, .string ⟨#[c]⟩, .string new, .int .i64 (-1)] w fun e w' => e = .returned (.string ⟨(rep c new.data.toList s.data.toList).toArray⟩) ∧ Below w.heap.size w w' := by
  have hC := Tryd.strings_Count_one s c w
  obtain ⟨K, hK⟩ : ∃ K : Nat, s.data.toList.count c = K := ⟨_, rfl⟩
  have hK' : Lib.countByte s.data.toList c = K := hK
  rw [hK'] at hC
  rw [hK] at hc0
  have hlenL : s.data.toList.length = s.size := (Lib.size_eq s).symm
  have hKs : K ≤ s.size := by rw [← hK, ← hlenL]; exact List.count_le_length
  have hbeq : ((⟨#[c]⟩ : ByteArray).toList == new.toList) = false := (Lib.bytes_beq_false_iff _ new).2 hne
  have hbeq2 : ([c] == new.toList) = false := by rw [Lib.toList_data] at hbeq; exact hbeq
  have hcz : ((K : Int) == 0) = false := beq_eq_false_iff_ne.2 (by omega)
  have hKn : K * new.size ≤ K * 16 := Nat.mul_le_mul_left K hnew
  have hga := Lib.grow_arg s.size K new.size 1 (by omega) (by omega) (by omega)
  have e1 : wrap64 ((new.size : Int) - ((1 : Nat) : Int)) = (new.size : Int) - 1 := by rw [show ((1 : Nat) : Int) = 1 from rfl]; exact IntWalk.wrap64_in _ ⟨by omega, by omega⟩
  rw [e1] at hga
  have HGA := Lib.hid hga
  clear hga e1
  have hKc : K = (s.data.toList.drop 0).count c := by rw [List.drop_zero]; exact hK.symm
  have HCc := Lib.hid hC
  have HKc := Lib.hid hKc
  have HK := Lib.hid hK
  clear hC hK' hKc hK
  go_enter Tryd.func60, Tryd.ntmps60
  go_wp2_with (go_at_call 76; refine HCc.out.mono ?_; rintro e w' ⟨rfl, hw⟩; rw [hw]; clear hw)
  rw [HGA.out]
  refine (Tryd.Builder_Grow_fresh w.heap.size w.heap.size _ _ (Nat.le_refl _) (World.alloc_heap_new w _) (by simp) (by omega)).mono ?_
  rintro e w1 ⟨rfl, hb0, hb1⟩
  have H1 := Lib.hid (Or.inr hb0 : Lib.IsBuilder 83 5 w.heap.size w.heap.size (Lib.byteCells []) w1)
  have Hb1 := Lib.hid (((Below.refl w.heap.size w).alloc (Nat.le_refl _) _).trans hb1)
  clear hb0 hb1
  go_wp2_with fail
  go_loopg [11, 53] K (fun g s11 s53 wx => ∃ (i start : Nat) (acc : List UInt8), s53 = .int .i64 i ∧ s11 = .int .i64 start ∧ i + g = K ∧ start ≤ s.size ∧
    Hid (Lib.IsBuilder 83 5 w.heap.size w.heap.size (Lib.byteCells acc) wx) ∧ Hid (Below w.heap.size w wx) ∧ Hid (acc ++ rep c new.data.toList (s.data.toList.drop start) = rep c new.data.toList s.data.toList) ∧
    Hid (g = (s.data.toList.drop start).count c) ∧ acc.length ≤ start + i * 16)
  case atStart => exact ⟨0, 0, [], rfl, rfl, by omega, Nat.zero_le _, H1, Hb1, Lib.hid (by simp), HKc, by simp⟩
  case round =>
    obtain ⟨i, start, acc, rfl, rfl, hig, hst, HB, HW, HR, HG, hbd⟩ := hrel
    have hBw : w.heap.size ≤ wr.heap.size := HW.out.size
    have c1 : (0 : Int) ≤ (start : Int) := by omega
    have c2 : (start : Int) ≤ (s.size : Int) := by omega
    cases gk with
    | zero =>
      have hiK : ¬ ((i : Int) < (K : Int)) := by omega
      go_wp2_with fail
      refine (write_calls w.heap.size w.heap.size _ _ wr HB.out (by rw [Lib.byteCells_length, ByteArray.size_extract]; omega) hBw).mono ?_
      rintro e w3 ⟨rfl, h3, hb3⟩
      rw [Lib.strCells_eq, Lib.extract_to_end, ← Lib.byteCells_append] at h3
      have hfin : acc ++ s.data.toList.drop start = rep c new.data.toList s.data.toList := by rw [← HR.out, rep_none c _ _ HG.out.symm]
      rw [hfin] at h3
      have H3 := Lib.hid (Or.inr h3 : Lib.IsBuilder 83 5 w.heap.size w.heap.size _ w3)
      have Hb3 := Lib.hid (HW.out.trans hb3)
      have hBw3 : w.heap.size ≤ w3.heap.size := Hb3.out.size
      clear h3 hb3 hfin
      go_wp2_with fail
      refine (Tryd.Builder_String_any w.heap.size w.heap.size _ w3 H3.out hBw3).mono ?_
      rintro e w5 ⟨rfl, hb5⟩
      have Hb5 := Lib.hid (Hb3.out.trans hb5)
      clear hb5
      go_wp2
      go_ret
      exact ⟨rfl, Hb5.out⟩
    | succ g =>
      have hiK : (i : Int) < (K : Int) := by omega
      obtain ⟨j, hj⟩ := index_of_pos (l := s.data.toList.drop start) (c := c) (by rw [← HG.out]; omega)
      obtain ⟨e1, e2, e3⟩ := rep_at c new.data.toList _ j hj
      rw [List.drop_drop] at e1 e2
      rw [List.length_drop, hlenL] at e3
      have c3 : (start : Int) ≤ (start : Int) + (j : Int) := by omega
      have c4 : (start : Int) + (j : Int) ≤ (s.size : Int) := by omega
      have hnext : Lib.byteCells acc ++ Lib.strCells (s.extract start (start + j)) ++ Lib.strCells new = Lib.byteCells (acc ++ (s.data.toList.drop start).take j ++ new.data.toList) := by
        rw [Lib.strCells_eq, Lib.strCells_eq, Lib.extract_data, Nat.add_sub_cancel_left, ← Lib.byteCells_append, ← Lib.byteCells_append]
      have hrep : (acc ++ (s.data.toList.drop start).take j ++ new.data.toList) ++ rep c new.data.toList (s.data.toList.drop (start + (j + 1))) = rep c new.data.toList s.data.toList := by
        rw [← HR.out, e1]
        simp only [List.append_assoc]
      have hg2 : g = (s.data.toList.drop (start + (j + 1))).count c := by have := HG.out; omega
      have htl : ((s.data.toList.drop start).take j).length = j := by rw [List.length_take, List.length_drop, hlenL]; omega
      have hnl : new.data.toList.length = new.size := (Lib.size_eq new).symm
      have Hn := Lib.hid hnext
      have Hrep := Lib.hid hrep
      have HG2 := Lib.hid hg2
      have HJ := Lib.hid hj
      clear hnext hrep HR HG hg2 e1 e2 hj
      go_wp2_with (go_at_call 77; refine (Tryd.strings_Index_one _ c _).mono ?_; rintro e w' ⟨rfl, hw⟩; rw [hw, Lib.extract_to_end, HJ.out]; clear hw)
      refine (write_calls w.heap.size w.heap.size _ (s.extract start (start + j)) wr HB.out (by rw [Lib.byteCells_length, ByteArray.size_extract]; omega) hBw).mono ?_
      rintro e w3 ⟨rfl, h3, hb3⟩
      have hBw3 : w.heap.size ≤ w3.heap.size := Nat.le_trans hBw hb3.size
      have H3 := Lib.hid h3
      have Hb3 := Lib.hid hb3
      clear h3 hb3
      go_wp2_with fail
      refine (write_calls w.heap.size w.heap.size _ new w3 (Or.inr H3.out) (by rw [List.length_append, Lib.byteCells_length, Lib.strCells_length, ByteArray.size_extract]; omega) hBw3).mono ?_
      rintro e w4 ⟨rfl, h4, hb4⟩
      rw [Hn.out] at h4
      have H4 := Lib.hid (Or.inr h4 : Lib.IsBuilder 83 5 w.heap.size w.heap.size _ w4)
      have Hb4 := Lib.hid ((HW.out.trans Hb3.out).trans hb4)
      clear h4 hb4
      go_wp2
      go_roundg g
      case measure => omega
      case rel => exact ⟨i + 1, start + (j + 1), _, by first | rfl | (simp; unfold wrap64; omega), by first | rfl | simp | (simp; unfold wrap64; omega), by omega, by omega, H4, Hb4, Hrep, HG2, by simp only [List.length_append, htl, hnl]; omega⟩
end Go.Proofs.YtocpdhbkfgolfaaDoor.Rp

namespace Go.Proofs.YtocpdhbkfgolfaaDoor.Rk
open Go Go.RowKit Go.Shelf Go.Proofs Go.Proofs.YtocpdhbkfgolfaaDoor
set_option linter.unusedVariables false
set_option linter.unusedSimpArgs false

def kindOf (s : List UInt8) : Int := if s = [100] then 1 else if s = [102] then 2 else if s = [108] then 3 else 0
theorem conv (C : Int) (b : UInt8) (h : (C = 100 ∧ b = 100) ∨ (C = 102 ∧ b = 102) ∨ (C = 108 ∧ b = 108)) (W : World) : (convert 21 9 (.int .i32 C)).run Tryd.prog W = .ok (.string ⟨#[b]⟩) W := by
  have h1 := Tryd.underlying21
  have h2 := Tryd.underlying9
  rcases h with ⟨rfl, rfl⟩ | ⟨rfl, rfl⟩ | ⟨rfl, rfl⟩ <;> simp [convert, run_underlying h1, run_underlying h2, Conv.intToString] <;> first | rfl | kernel_rfl

def letter (p : Nat) : UInt8 := if p = 0 then 100 else if p = 1 then 102 else 108
set_option maxHeartbeats 2000000 in
set_option maxRecDepth 1000000 in
theorem kind_calls (s : ByteArray) (w : World) :
    Calls Tryd.prog 57 #[.string s] w fun e w' => e = .returned (.int .i64 (kindOf s.data.toList)) ∧ Below w.heap.size w w' := by
  obtain ⟨R, hR⟩ : ∃ R, R = kindOf s.data.toList := ⟨_, rfl⟩
  rw [← hR]
  have HR := Lib.hid hR
  clear hR
  go_enter Tryd.func57, Tryd.ntmps57
  go_wp2
  go_loopg [] 3 (fun gf wx => ∃ pos : Nat, wx.heap[w.heap.size]? = some (.stringIter ⟨#[100, 102, 108]⟩ pos) ∧ Below w.heap.size w wx ∧ pos + gf = 3 ∧ ∀ j, j < pos → s.data.toList ≠ [letter j])
  case atStart => exact ⟨0, World.iter_heap w _ 0, (Below.refl _ w).alloc (Nat.le_refl _) _, by omega, fun j hj => by omega⟩
  case round =>
    obtain ⟨pos, hit, hbw, hfu, hno⟩ := hrel
    by_cases hps : pos < 3
    · obtain ⟨g', rfl⟩ : ∃ g', gk = g' + 1 := ⟨gk - 1, by omega⟩
      have hit2 := Lib.iterAt_heap wr w.heap.size ⟨#[100, 102, 108]⟩ pos (pos + 1) hit
      have hbw2 := Lib.below_iterAt hbw (k := w.heap.size) (Nat.le_refl _) ⟨#[100, 102, 108]⟩ (pos + 1)
      have hl : pos = 0 ∨ pos = 1 ∨ pos = 2 := by omega
      obtain ⟨C, b, hC, hb, hnx⟩ : ∃ (C : Int) (b : UInt8), ((C = 100 ∧ b = 100) ∨ (C = 102 ∧ b = 102) ∨ (C = 108 ∧ b = 108)) ∧ letter pos = b ∧ ∀ ty, (Instr.next (.pointer (some ⟨w.heap.size, 0, none⟩)) true ty).run Tryd.prog wr = .ok (.tuple #[.bool true, .int .i64 pos, .int .i32 C]) (wr.iterAt w.heap.size ⟨#[100, 102, 108]⟩ (pos + 1)) := by
        rcases hl with rfl | rfl | rfl
        · exact ⟨100, 100, .inl ⟨rfl, rfl⟩, rfl, fun ty => Lib.run_next_ascii_at wr w.heap.size ⟨#[100, 102, 108]⟩ 0 ty hit (by decide) (by decide)⟩
        · exact ⟨102, 102, .inr (.inl ⟨rfl, rfl⟩), rfl, fun ty => Lib.run_next_ascii_at wr w.heap.size ⟨#[100, 102, 108]⟩ 1 ty hit (by decide) (by decide)⟩
        · exact ⟨108, 108, .inr (.inr ⟨rfl, rfl⟩), rfl, fun ty => Lib.run_next_ascii_at wr w.heap.size ⟨#[100, 102, 108]⟩ 2 ty hit (by decide) (by decide)⟩
      have hcv := fun W => conv C b hC W
      have hmk : (⟨#[b]⟩ : ByteArray).toList = [b] := Lib.toList_data _
      by_cases he : s.data.toList = [b]
      · have hb1 : ([b] == s.toList) = true := by rw [Lib.toList_data, he]; simp
        have hb2 : ((⟨#[b]⟩ : ByteArray).toList == s.toList) = true := by rw [hmk]; exact hb1
        have hr : R = (pos : Int) + 1 := by
          rw [HR.out, he]
          rcases hl with rfl | rfl | rfl <;> (simp [letter] at hb; subst hb; rfl)
        clear hb hl
        go_wp2
        go_ret
        exact ⟨by rw [hr]; rfl, hbw2⟩
      · have hb1 : ([b] == s.toList) = false := by rw [Lib.toList_data]; simpa using fun e => he e.symm
        have hb2 : ((⟨#[b]⟩ : ByteArray).toList == s.toList) = false := by rw [hmk]; exact hb1
        have hno2 : ∀ j, j < pos + 1 → s.data.toList ≠ [letter j] := fun j hj => by
          rcases Nat.lt_or_ge j pos with h | h
          · exact hno j h
          · obtain rfl : j = pos := by omega
            rw [hb]; exact he
        have HN := Lib.hid hno2
        clear hb hl hno hno2
        go_wp2
        go_roundg g'
        case measure => omega
        case rel => exact ⟨pos + 1, hit2, hbw2, by omega, HN.out⟩
    · have hnx : ∀ ty, (Instr.next (.pointer (some ⟨w.heap.size, 0, none⟩)) true ty).run Tryd.prog wr = _ := fun ty => Lib.run_next_end_at wr w.heap.size ⟨#[100, 102, 108]⟩ pos ty hit hps
      go_wp2
      go_ret
      have h0 := hno 0 (by omega)
      have h1 := hno 1 (by omega)
      have h2 := hno 2 (by omega)
      simp only [letter] at h0 h1 h2
      refine ⟨?_, hbw⟩
      rw [HR.out, kindOf, if_neg (by simpa using h0), if_neg (by simpa using h1), if_neg (by simpa using h2)]
      rfl
end Go.Proofs.YtocpdhbkfgolfaaDoor.Rk
