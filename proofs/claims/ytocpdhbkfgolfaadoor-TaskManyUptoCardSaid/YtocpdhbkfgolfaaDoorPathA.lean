/- The path package's iterator over a path's parts, walked. -/
import Derived.Test.YtocpdhbkfgolfaaDoorRange
import Derived.Test.YtocpdhbkfgolfaaDoorSpec
import Derived.Test.YtocpdhbkfgolfaaDoorShelf
import Derived.RangeFuncBox
import Derived.Shelf.Abstract
import Derived.WalkKit
import Derived.WalkSpells
import Derived.OwnWalkIn
import Derived.TacticsInMore
import Derived.LoopNIn
import Derived.LoopIn
import Derived.Maps.AppendAt
import Derived.Deep.QuietTactic
import Derived.BigQuiet
import Derived.OpenShut
import Derived.Lib.Hide
namespace Go.Proofs.YtocpdhbkfgolfaaDoor.Pa
open Go Go.RowKit Go.Shelf Go.Proofs Go.Proofs.YtocpdhbkfgolfaaDoor
set_option linter.unusedVariables false
set_option linter.unusedSimpArgs false

def cutOne (s : ByteArray) (c : UInt8) : ByteArray := if 0 ≤ Lib.indexByte s.data.toList c then Sp.mk (s.data.toList.take (Lib.indexByte s.data.toList c).toNat) else s
def cutRest (s : ByteArray) (c : UInt8) : ByteArray := if 0 ≤ Lib.indexByte s.data.toList c then Sp.mk (s.data.toList.drop ((Lib.indexByte s.data.toList c).toNat + 1)) else Sp.mk []

set_option maxHeartbeats 1000000 in
theorem cut_yes (s : ByteArray) (c : UInt8) (w : World) (o : Nat) (ho : Lib.indexByte s.data.toList c = o) (hlt : o < s.size) (hs : s.size < 4294967295) :
    Calls Tryd.prog 95 #[.string s, .string ⟨#[c]⟩] w fun e w' => e = .returned (.tuple #[.string (s.extract 0 o), .string (s.extract (o + 1) s.size), .bool true]) ∧ ∃ n, w' = w.drewN n := by
  have h1 := Tryd.stringslite_Index_one s c w
  rw [ho] at h1
  have H1 := Lib.hid h1
  clear h1 ho
  go_enter Tryd.func95, Tryd.ntmps95
  go_wp2_with (go_at_call 91; refine H1.out.mono ?_; rintro e w' ⟨rfl, rfl⟩)
  go_quiet (fail)
  go_wp2
  go_ret3
  exact ⟨by simp, _, rfl⟩
set_option maxHeartbeats 1000000 in
theorem cut_no (s : ByteArray) (c : UInt8) (w : World) (ho : Lib.indexByte s.data.toList c = -1) :
    Calls Tryd.prog 95 #[.string s, .string ⟨#[c]⟩] w fun e w' => e = .returned (.tuple #[.string s, .string ⟨#[]⟩, .bool false]) ∧ ∃ n, w' = w.drewN n := by
  have h1 := Tryd.stringslite_Index_one s c w
  rw [ho] at h1
  have H1 := Lib.hid h1
  clear h1 ho
  go_enter Tryd.func95, Tryd.ntmps95
  go_wp2_with (go_at_call 91; refine H1.out.mono ?_; rintro e w' ⟨rfl, rfl⟩)
  go_ret3
  exact ⟨by simp, 0, rfl⟩
theorem index_lt {l : List UInt8} {c : UInt8} {o : Nat} (h : Lib.indexByte l c = o) : o < l.length := by
  have h1 := (Lib.indexByte_some h).1
  exact (List.getElem?_eq_some_iff.1 h1).1
theorem lite_cut (s : ByteArray) (c : UInt8) (w : World) (hs : s.size < 4294967295) :
    Calls Tryd.prog 95 #[.string s, .string ⟨#[c]⟩] w fun e w' => e = .returned (.tuple #[.string (cutOne s c), .string (cutRest s c), .bool (decide (0 ≤ Lib.indexByte s.data.toList c))]) ∧ ∃ n, w' = w.drewN n := by
  have hge := Lib.indexByte_ge s.data.toList c
  by_cases h : 0 ≤ Lib.indexByte s.data.toList c
  · obtain ⟨o, ho⟩ := Int.eq_ofNat_of_zero_le h
    have hlt := index_lt ho
    rw [← Sp.size_eq] at hlt
    refine (cut_yes s c w o ho hlt hs).mono ?_
    rintro e w' ⟨rfl, hw⟩
    refine ⟨?_, hw⟩
    rw [cutOne, cutRest, if_pos h, if_pos h, ho]
    have e1 : s.extract 0 o = Sp.mk (s.data.toList.take o) := by
      rw [← Sp.mk_of (s.extract 0 o), Lib.extract_data]; simp
    have e2 : s.extract (o + 1) s.size = Sp.mk (s.data.toList.drop (o + 1)) := by
      rw [← Sp.mk_of (s.extract (o + 1) s.size), Lib.extract_data]
      congr 1
      rw [List.take_of_length_le]
      rw [List.length_drop, ← Sp.size_eq]
      omega
    rw [e1, e2]
    simp
  · have ho : Lib.indexByte s.data.toList c = -1 := by omega
    refine (cut_no s c w ho).mono ?_
    rintro e w' ⟨rfl, hw⟩
    refine ⟨?_, hw⟩
    rw [cutOne, cutRest, if_neg h, if_neg h]
    simp [Sp.mk, h]
set_option maxHeartbeats 1000000 in
theorem cut_calls (s : ByteArray) (c : UInt8) (w : World) (hs : s.size < 4294967295) :
    Calls Tryd.prog 84 #[.string s, .string ⟨#[c]⟩] w fun e w' => e = .returned (.tuple #[.string (cutOne s c), .string (cutRest s c), .bool (decide (0 ≤ Lib.indexByte s.data.toList c))]) ∧ ∃ n, w' = w.drewN n := by
  have h1 := lite_cut s c w hs
  generalize cutOne s c = x at *
  generalize cutRest s c = y at *
  generalize decide (0 ≤ Lib.indexByte s.data.toList c) = z at *
  have H1 := Lib.hid h1
  clear h1
  go_enter Tryd.func84, Tryd.ntmps84
  go_wp2_with (go_at_call 95; refine H1.out.mono ?_; rintro e w' ⟨rfl, ⟨nn, rfl⟩⟩)
  go_ret3
  exact ⟨rfl, nn, rfl⟩

theorem cut_parts (rest : List UInt8) (h : rest ≠ []) : Sp.parts rest = Sp.keep (cutOne (Sp.mk rest) 47).data.toList (Sp.parts (cutRest (Sp.mk rest) 47).data.toList) ∧ (cutRest (Sp.mk rest) 47).size < (Sp.mk rest).size := by
  have hge := Lib.indexByte_ge rest 47
  have hpos : 0 < rest.length := List.length_pos_iff.2 h
  rw [cutOne, cutRest, Sp.mk_data]
  by_cases h0 : 0 ≤ Lib.indexByte rest 47
  · obtain ⟨o, ho⟩ := Int.eq_ofNat_of_zero_le h0
    have hlt := index_lt ho
    rw [if_pos h0, if_pos h0, ho]
    refine ⟨by simpa using Sp.parts_at rest o ho, ?_⟩
    rw [Sp.mk_size, Sp.mk_size]
    simp
    omega
  · have ho : Lib.indexByte rest 47 = -1 := by omega
    rw [if_neg h0, if_neg h0]
    refine ⟨by simpa using Sp.parts_none rest ho, ?_⟩
    rw [Sp.mk_size, Sp.mk_size]
    simpa using hpos
theorem grown_drewN (w : World) (n : Nat) : w.grownBy (w.drewN n) none := ⟨rfl, rfl, rfl, Nat.le_refl _, fun _ _ _ => rfl⟩

/-- How long the text is that lies in block B. -/
def boxLen (W : World) (B : Nat) : Nat := match W.cell? ⟨B, 0, none⟩ with | some (.string s) => s.size | _ => 0
theorem boxLen_eq {W : World} {B : Nat} {t : TypeId} {s : ByteArray} (h : Boxed W B t (.string s)) : boxLen W B = s.size := by rw [boxLen, h.cell]

set_option maxRecDepth 100000 in
set_option maxHeartbeats 2000000 in
theorem iter (n : Nat) (hn : 1 ≤ n) (Bs : Nat) (s : List UInt8) (w : World) (hs : s.length < 4294967295) (hb0 : Boxed w Bs 9 (.string (Sp.mk s))) :
    Rg.Iter Fence.wide n Tryd.prog 83 #[.pointer (some ⟨Bs, 0, none⟩)] (fun x : List UInt8 => #[Value.string (Sp.mk x)]) Bs 9 (Sp.parts s) w := by
  intro l J Jx W hW hJ _ hS hY h0
  have hbW : Boxed W Bs 9 (.string (Sp.mk s)) := (hW.block Bs hb0.lt).trans hb0
  clear hb0
  refine callsIn_of_wp Tryd.func83 rfl trivial ?_ rfl
  simp only [Tryd.ntmps83, List.size_toArray, List.length_cons, List.length_nil, Nat.reduceAdd, Nat.reduceSub, Array.replicate_succ, Array.replicate_zero, List.push_toArray, List.append_toArray, List.nil_append, List.cons_append]
  gi_wp2
  gi_loopw [3] (fun p wr => ∃ (pre : List (List UInt8)) (rest : List UInt8), Sp.parts s = pre ++ Sp.parts rest ∧ rest.length ≤ s.length ∧ Boxed wr Bs 9 (.string (Sp.mk rest)) ∧ J pre wr) (fun p wr => boxLen wr Bs)
  case atStart => exact ⟨[], s, rfl, Nat.le_refl _, hbW, h0⟩
  case round =>
    obtain ⟨pre, rest, hx, hle, hbr, hJs⟩ := hrel
    have hc := hbr.cell
    have HX := Lib.hid hx
    clear hx
    have hfz := hbr.frozen
    by_cases h0 : rest = []
    · subst h0
      have h1 : (Sp.mk []).toList = [] := Sp.mk_toList _
      generalize Sp.mk [] = r at *
      gi_wp2
      go_end0
      have hp : pre = Sp.parts s := by rw [HX.out]; simp
      exact ⟨⟨_, rfl⟩, .inl (hp ▸ hJs)⟩
    · have h1 : ((Sp.mk rest).toList == []) = false := by rw [Sp.mk_toList]; simpa using h0
      have h2 : (!(Sp.mk rest).toList.isEmpty) = true := by rw [Sp.mk_toList]; simpa using h0
      have hlr : (Sp.mk rest).size < 4294967295 := by rw [Sp.mk_size]; omega
      obtain ⟨hk, hlt⟩ := cut_parts rest h0
      obtain ⟨r, hr⟩ : ∃ r, r = Sp.mk rest := ⟨_, rfl⟩
      rw [← hr] at hc h1 h2 hlr hk hlt hbr
      have hC := cut_calls r 47
      generalize decide (0 ≤ Lib.indexByte r.data.toList 47) = z at *
      obtain ⟨a, ha⟩ : ∃ a, a = cutOne r 47 := ⟨_, rfl⟩
      obtain ⟨b, hb⟩ : ∃ b, b = cutRest r 47 := ⟨_, rfl⟩
      rw [← ha, ← hb] at hC
      rw [← ha, ← hb] at hk
      rw [← hb] at hlt
      have HR := Lib.hid hr
      have HB := Lib.hid hbr
      have HK := Lib.hid hk
      have HC := Lib.hid hC
      have hlen : (b.data.toList).length ≤ s.length := by
        have e1 := HR.out
        have e2 : r.size = rest.length := by rw [e1, Sp.mk_size]
        rw [← Sp.size_eq]; omega
      clear hr hbr hk hC ha hb
      have hJd : ∀ nn, J pre (wr.drewN nn) := fun nn => hJ pre wr _ none hJs (grown_drewN wr nn) (fun r e => by cases e)
      have hBd : ∀ nn, Boxed (wr.drewN nn) Bs 9 (.string r) := fun nn => HB.out
      have HJ := Lib.hid hJd
      have HD := Lib.hid hBd
      clear hJd hBd
      by_cases ha : a.data.toList = [] ∨ a.data.toList = [46]
      · have hk2 : Sp.parts rest = Sp.parts b.data.toList := by rw [HK.out, Sp.keep, if_pos ha]
        have HK2 := Lib.hid hk2
        clear hk2
        have hz : a.toList = [] ∨ a.toList = [46] := by rw [Lib.toList_data]; exact ha
        clear ha
        rcases hz with hz | hz
        all_goals
          gi_wp2_with (refine ⟨trivial, ?_⟩; gi_at_call 84; refine (callsIn_wide.2 (HC.out _ hlr)).mono ?_; rintro e w' ⟨rfl, ⟨nn, rfl⟩⟩)
          refine ⟨fun _ h => (by cases h), ?_⟩
          gi_wp2
          go_roundw
          case rel => exact ⟨pre, b.data.toList, by rw [HX.out, HK2.out], hlen, by rw [Sp.mk_of]; exact (HD.out nn).set _, hS _ _ _ (HJ.out nn)⟩
          case measure => rw [boxLen_eq ((HD.out nn).set _), boxLen_eq HB.out]; exact hlt
      · have hk2 : Sp.parts rest = a.data.toList :: Sp.parts b.data.toList := by rw [HK.out, Sp.keep, if_neg ha]
        have HK2 := Lib.hid hk2
        clear hk2
        have ha1 : (a.toList == []) = false := by rw [Lib.toList_data]; simpa using fun h => ha (.inl h)
        have ha2 : (a.toList == [46]) = false := by rw [Lib.toList_data]; simpa using fun h => ha (.inr h)
        have ha3 : ¬ a.toList = [] := by rw [Lib.toList_data]; exact fun h => ha (.inl h)
        have ha4 : ¬ a.toList = [46] := by rw [Lib.toList_data]; exact fun h => ha (.inr h)
        clear ha
        have hYd : ∀ nn, YieldAt Fence.wide (n - 1) Tryd.prog l #[.string a] (wr.drewN nn) _ := fun nn => (by have h := hY pre a.data.toList (wr.drewN nn) (HJ.out nn) ⟨Sp.parts b.data.toList, by rw [HX.out, HK2.out]; simp⟩; rw [Sp.mk_of] at h; exact h)
        have HY := Lib.hid hYd
        clear hYd
        gi_wp2_with (refine ⟨trivial, ?_⟩; gi_at_call 84; refine (callsIn_wide.2 (HC.out _ hlr)).mono ?_; rintro e w' ⟨rfl, ⟨nn, rfl⟩⟩; obtain ⟨fn, tm, asg, bd, hy, hR⟩ := HY.out nn)
        refine hR.mono ?_
        rintro e W3 (⟨rfl, hJ3, hk3⟩ | ⟨rfl, hJx3⟩)
        · have hb3 := hk3 _ (HD.out nn)
          have hc3 := hb3.cell
          have hf3 := hb3.frozen
          gi_wp2
          go_roundw
          case rel => exact ⟨pre ++ [a.data.toList], b.data.toList, by rw [HX.out, HK2.out]; simp, hlen, by rw [Sp.mk_of]; exact hb3.set _, hS _ _ _ hJ3⟩
          case measure => rw [boxLen_eq (hb3.set _), boxLen_eq HB.out]; exact hlt
        · gi_wp2
          refine bodyPost_ret (results_none rfl _ _ _) rfl ?_
          exact ⟨⟨_, rfl⟩, .inr ⟨pre ++ [a.data.toList], ⟨Sp.parts b.data.toList, by rw [HX.out, HK2.out]; simp⟩, hJx3⟩⟩
end Go.Proofs.YtocpdhbkfgolfaaDoor.Pa
