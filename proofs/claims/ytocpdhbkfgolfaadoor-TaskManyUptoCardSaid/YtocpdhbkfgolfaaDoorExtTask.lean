/- task.kind and task.Line, walked: each world that holds the words of task.verbs. -/
import Derived.Test.YtocpdhbkfgolfaaDoorExtStr
import Derived.Test.YtocpdhbkfgolfaaDoorX4
import Derived.Test.YtocpdhbkfgolfaaDoorX4
import Derived.Test.YtocpdhbkfgolfaaDoorX4
import Derived.LoopTactic
namespace Go.Proofs.YtocpdhbkfgolfaaDoor.Ext
open Go Go.RowKit Go.Shelf Go.Proofs Go.Proofs.YtocpdhbkfgolfaaDoor Go.Proofs.YtocpdhbkfgolfaaDoorW.PrintWords Go.Proofs.YtocpdhbkfgolfaaDoor.X
set_option linter.unusedVariables false
set_option linter.unusedSimpArgs false

def vb : List ByteArray := [⟨#[]⟩, ⟨#[109, 107, 100, 105, 114]⟩, ⟨#[114, 109, 100, 105, 114]⟩, ⟨#[108, 105, 110, 107]⟩, ⟨#[117, 110, 108, 105, 110, 107]⟩, ⟨#[109, 111, 118, 101]⟩, ⟨#[119, 114, 105, 116, 101]⟩]
/-- The world holds the words of task.verbs. -/
def Wh (w : World) : Prop := ∀ (j : Nat) (x : ByteArray), vb[j]? = some x → w.cell? ⟨0, j, none⟩ = some (.string x)
theorem Wh.below {w W : World} (h : Wh w) (hb : Below w.heap.size w W) : Wh W := fun j x hx => by
  have hc := h j x hx
  rw [hb.cell (p := ⟨0, j, none⟩) (World.block_lt_of_cell? w _ hc)]
  exact hc

def kindV (s : List UInt8) : Int := if s = [109, 107, 100, 105, 114] then 1 else if s = [114, 109, 100, 105, 114] then 2 else if s = [108, 105, 110, 107] then 3 else if s = [117, 110, 108, 105, 110, 107] then 4 else if s = [109, 111, 118, 101] then 5 else if s = [119, 114, 105, 116, 101] then 6 else 0
set_option maxHeartbeats 4000000 in
set_option maxRecDepth 1000000 in
theorem kind_walk (s : ByteArray) (w : World) (hV : Wh w) :
    Calls Tryd.prog 45 #[.string s] w fun e w' => e = .returned (.int .i64 (kindV s.data.toList)) ∧ Below w.heap.size w w' := by
  obtain ⟨R, hR⟩ : ∃ R, R = kindV s.data.toList := ⟨_, rfl⟩
  rw [← hR]
  have HR := Lib.hid hR
  clear hR
  have c0 : w.cell? ⟨0, 0, none⟩ = some (.string ⟨#[]⟩) := hV 0 _ rfl
  have c1 : w.cell? ⟨0, 1, none⟩ = some (.string ⟨#[109, 107, 100, 105, 114]⟩) := hV 1 _ rfl
  have c2 : w.cell? ⟨0, 2, none⟩ = some (.string ⟨#[114, 109, 100, 105, 114]⟩) := hV 2 _ rfl
  have c3 : w.cell? ⟨0, 3, none⟩ = some (.string ⟨#[108, 105, 110, 107]⟩) := hV 3 _ rfl
  have c4 : w.cell? ⟨0, 4, none⟩ = some (.string ⟨#[117, 110, 108, 105, 110, 107]⟩) := hV 4 _ rfl
  have c5 : w.cell? ⟨0, 5, none⟩ = some (.string ⟨#[109, 111, 118, 101]⟩) := hV 5 _ rfl
  have c6 : w.cell? ⟨0, 6, none⟩ = some (.string ⟨#[119, 114, 105, 116, 101]⟩) := hV 6 _ rfl
  clear hV
  have x0 : ∀ W, (Instr.index 78 (.agg #[.string ⟨#[]⟩, .string ⟨#[109, 107, 100, 105, 114]⟩, .string ⟨#[114, 109, 100, 105, 114]⟩, .string ⟨#[108, 105, 110, 107]⟩, .string ⟨#[117, 110, 108, 105, 110, 107]⟩, .string ⟨#[109, 111, 118, 101]⟩, .string ⟨#[119, 114, 105, 116, 101]⟩]) (.int .i64 0)).run Tryd.prog W = .ok (.string ⟨#[]⟩) W := fun W => by rfl
  have x1 : ∀ W, (Instr.index 78 (.agg #[.string ⟨#[]⟩, .string ⟨#[109, 107, 100, 105, 114]⟩, .string ⟨#[114, 109, 100, 105, 114]⟩, .string ⟨#[108, 105, 110, 107]⟩, .string ⟨#[117, 110, 108, 105, 110, 107]⟩, .string ⟨#[109, 111, 118, 101]⟩, .string ⟨#[119, 114, 105, 116, 101]⟩]) (.int .i64 1)).run Tryd.prog W = .ok (.string ⟨#[109, 107, 100, 105, 114]⟩) W := fun W => by rfl
  have x2 : ∀ W, (Instr.index 78 (.agg #[.string ⟨#[]⟩, .string ⟨#[109, 107, 100, 105, 114]⟩, .string ⟨#[114, 109, 100, 105, 114]⟩, .string ⟨#[108, 105, 110, 107]⟩, .string ⟨#[117, 110, 108, 105, 110, 107]⟩, .string ⟨#[109, 111, 118, 101]⟩, .string ⟨#[119, 114, 105, 116, 101]⟩]) (.int .i64 2)).run Tryd.prog W = .ok (.string ⟨#[114, 109, 100, 105, 114]⟩) W := fun W => by rfl
  have x3 : ∀ W, (Instr.index 78 (.agg #[.string ⟨#[]⟩, .string ⟨#[109, 107, 100, 105, 114]⟩, .string ⟨#[114, 109, 100, 105, 114]⟩, .string ⟨#[108, 105, 110, 107]⟩, .string ⟨#[117, 110, 108, 105, 110, 107]⟩, .string ⟨#[109, 111, 118, 101]⟩, .string ⟨#[119, 114, 105, 116, 101]⟩]) (.int .i64 3)).run Tryd.prog W = .ok (.string ⟨#[108, 105, 110, 107]⟩) W := fun W => by rfl
  have x4 : ∀ W, (Instr.index 78 (.agg #[.string ⟨#[]⟩, .string ⟨#[109, 107, 100, 105, 114]⟩, .string ⟨#[114, 109, 100, 105, 114]⟩, .string ⟨#[108, 105, 110, 107]⟩, .string ⟨#[117, 110, 108, 105, 110, 107]⟩, .string ⟨#[109, 111, 118, 101]⟩, .string ⟨#[119, 114, 105, 116, 101]⟩]) (.int .i64 4)).run Tryd.prog W = .ok (.string ⟨#[117, 110, 108, 105, 110, 107]⟩) W := fun W => by rfl
  have x5 : ∀ W, (Instr.index 78 (.agg #[.string ⟨#[]⟩, .string ⟨#[109, 107, 100, 105, 114]⟩, .string ⟨#[114, 109, 100, 105, 114]⟩, .string ⟨#[108, 105, 110, 107]⟩, .string ⟨#[117, 110, 108, 105, 110, 107]⟩, .string ⟨#[109, 111, 118, 101]⟩, .string ⟨#[119, 114, 105, 116, 101]⟩]) (.int .i64 5)).run Tryd.prog W = .ok (.string ⟨#[109, 111, 118, 101]⟩) W := fun W => by rfl
  have x6 : ∀ W, (Instr.index 78 (.agg #[.string ⟨#[]⟩, .string ⟨#[109, 107, 100, 105, 114]⟩, .string ⟨#[114, 109, 100, 105, 114]⟩, .string ⟨#[108, 105, 110, 107]⟩, .string ⟨#[117, 110, 108, 105, 110, 107]⟩, .string ⟨#[109, 111, 118, 101]⟩, .string ⟨#[119, 114, 105, 116, 101]⟩]) (.int .i64 6)).run Tryd.prog W = .ok (.string ⟨#[119, 114, 105, 116, 101]⟩) W := fun W => by rfl
  go_enter Tryd.func45, Tryd.ntmps45
  go_wp2
  go_loopw [6] (fun i wr => ∃ m : Nat, i = .int .i64 (m : Int) ∧ m ≤ 7 ∧ wr = w ∧ ∀ j, 0 < j → j < m → s.data.toList ≠ (vb.getD j ⟨#[]⟩).data.toList) (fun i wr => match i with | .int _ k => (7 : Int).toNat - k.toNat | _ => 0)
  case atStart => exact ⟨0, rfl, by omega, rfl, fun j h1 h2 => by omega⟩
  case round =>
    obtain ⟨m, rfl, hm, rfl, hno⟩ := hrel
    have HNO := Lib.hid hno
    clear hno
    rcases (show m = 0 ∨ m = 1 ∨ m = 2 ∨ m = 3 ∨ m = 4 ∨ m = 5 ∨ m = 6 ∨ m = 7 by omega) with rfl | rfl | rfl | rfl | rfl | rfl | rfl | rfl
    · -- 0
      go_wp2
      exact ⟨⟨1, by first | rfl | simp, by omega, by first | rfl | trivial, fun j h1 h2 => by omega⟩, by simp only []; omega⟩
    · -- 1
      by_cases hs : s.data.toList = [109, 107, 100, 105, 114]
      · have b1 : ([109, 107, 100, 105, 114] == s.toList) = true := by rw [Lib.toList_data, hs]; rfl
        have hr : R = 1 := by rw [HR.out, kindV, hs]; rfl
        clear hs
        go_wp2
        go_ret
        exact ⟨by rw [hr]; rfl, Below.refl _ _⟩
      · have b1 : ([109, 107, 100, 105, 114] == s.toList) = false := by rw [Lib.toList_data]; simpa using fun e => hs e.symm
        have HN := Lib.hid (show ∀ j, 0 < j → j < 2 → s.data.toList ≠ (vb.getD j ⟨#[]⟩).data.toList from fun j h1 h2 => by
          rcases Nat.lt_or_ge j 1 with h | h
          · exact HNO.out j h1 h
          · obtain rfl : j = 1 := by omega
            exact hs)
        clear hs HNO
        go_wp2
        exact ⟨⟨2, by first | rfl | simp, by omega, by first | rfl | trivial, HN.out⟩, by simp only []; omega⟩
    · -- 2
      by_cases hs : s.data.toList = [114, 109, 100, 105, 114]
      · have b1 : ([114, 109, 100, 105, 114] == s.toList) = true := by rw [Lib.toList_data, hs]; rfl
        have hr : R = 2 := by rw [HR.out, kindV, hs]; rfl
        clear hs
        go_wp2
        go_ret
        exact ⟨by rw [hr]; rfl, Below.refl _ _⟩
      · have b1 : ([114, 109, 100, 105, 114] == s.toList) = false := by rw [Lib.toList_data]; simpa using fun e => hs e.symm
        have HN := Lib.hid (show ∀ j, 0 < j → j < 3 → s.data.toList ≠ (vb.getD j ⟨#[]⟩).data.toList from fun j h1 h2 => by
          rcases Nat.lt_or_ge j 2 with h | h
          · exact HNO.out j h1 h
          · obtain rfl : j = 2 := by omega
            exact hs)
        clear hs HNO
        go_wp2
        exact ⟨⟨3, by first | rfl | simp, by omega, by first | rfl | trivial, HN.out⟩, by simp only []; omega⟩
    · -- 3
      by_cases hs : s.data.toList = [108, 105, 110, 107]
      · have b1 : ([108, 105, 110, 107] == s.toList) = true := by rw [Lib.toList_data, hs]; rfl
        have hr : R = 3 := by rw [HR.out, kindV, hs]; rfl
        clear hs
        go_wp2
        go_ret
        exact ⟨by rw [hr]; rfl, Below.refl _ _⟩
      · have b1 : ([108, 105, 110, 107] == s.toList) = false := by rw [Lib.toList_data]; simpa using fun e => hs e.symm
        have HN := Lib.hid (show ∀ j, 0 < j → j < 4 → s.data.toList ≠ (vb.getD j ⟨#[]⟩).data.toList from fun j h1 h2 => by
          rcases Nat.lt_or_ge j 3 with h | h
          · exact HNO.out j h1 h
          · obtain rfl : j = 3 := by omega
            exact hs)
        clear hs HNO
        go_wp2
        exact ⟨⟨4, by first | rfl | simp, by omega, by first | rfl | trivial, HN.out⟩, by simp only []; omega⟩
    · -- 4
      by_cases hs : s.data.toList = [117, 110, 108, 105, 110, 107]
      · have b1 : ([117, 110, 108, 105, 110, 107] == s.toList) = true := by rw [Lib.toList_data, hs]; rfl
        have hr : R = 4 := by rw [HR.out, kindV, hs]; rfl
        clear hs
        go_wp2
        go_ret
        exact ⟨by rw [hr]; rfl, Below.refl _ _⟩
      · have b1 : ([117, 110, 108, 105, 110, 107] == s.toList) = false := by rw [Lib.toList_data]; simpa using fun e => hs e.symm
        have HN := Lib.hid (show ∀ j, 0 < j → j < 5 → s.data.toList ≠ (vb.getD j ⟨#[]⟩).data.toList from fun j h1 h2 => by
          rcases Nat.lt_or_ge j 4 with h | h
          · exact HNO.out j h1 h
          · obtain rfl : j = 4 := by omega
            exact hs)
        clear hs HNO
        go_wp2
        exact ⟨⟨5, by first | rfl | simp, by omega, by first | rfl | trivial, HN.out⟩, by simp only []; omega⟩
    · -- 5
      by_cases hs : s.data.toList = [109, 111, 118, 101]
      · have b1 : ([109, 111, 118, 101] == s.toList) = true := by rw [Lib.toList_data, hs]; rfl
        have hr : R = 5 := by rw [HR.out, kindV, hs]; rfl
        clear hs
        go_wp2
        go_ret
        exact ⟨by rw [hr]; rfl, Below.refl _ _⟩
      · have b1 : ([109, 111, 118, 101] == s.toList) = false := by rw [Lib.toList_data]; simpa using fun e => hs e.symm
        have HN := Lib.hid (show ∀ j, 0 < j → j < 6 → s.data.toList ≠ (vb.getD j ⟨#[]⟩).data.toList from fun j h1 h2 => by
          rcases Nat.lt_or_ge j 5 with h | h
          · exact HNO.out j h1 h
          · obtain rfl : j = 5 := by omega
            exact hs)
        clear hs HNO
        go_wp2
        exact ⟨⟨6, by first | rfl | simp, by omega, by first | rfl | trivial, HN.out⟩, by simp only []; omega⟩
    · -- 6
      by_cases hs : s.data.toList = [119, 114, 105, 116, 101]
      · have b1 : ([119, 114, 105, 116, 101] == s.toList) = true := by rw [Lib.toList_data, hs]; rfl
        have hr : R = 6 := by rw [HR.out, kindV, hs]; rfl
        clear hs
        go_wp2
        go_ret
        exact ⟨by rw [hr]; rfl, Below.refl _ _⟩
      · have b1 : ([119, 114, 105, 116, 101] == s.toList) = false := by rw [Lib.toList_data]; simpa using fun e => hs e.symm
        have HN := Lib.hid (show ∀ j, 0 < j → j < 7 → s.data.toList ≠ (vb.getD j ⟨#[]⟩).data.toList from fun j h1 h2 => by
          rcases Nat.lt_or_ge j 6 with h | h
          · exact HNO.out j h1 h
          · obtain rfl : j = 6 := by omega
            exact hs)
        clear hs HNO
        go_wp2
        exact ⟨⟨7, by first | rfl | simp, by omega, by first | rfl | trivial, HN.out⟩, by simp only []; omega⟩
    · -- 7
      go_wp2
      go_ret
      refine ⟨?_, Below.refl _ _⟩
      have n := HNO.out
      have n1 : s.data.toList ≠ [109, 107, 100, 105, 114] := n 1 (by omega) (by omega)
      have n2 : s.data.toList ≠ [114, 109, 100, 105, 114] := n 2 (by omega) (by omega)
      have n3 : s.data.toList ≠ [108, 105, 110, 107] := n 3 (by omega) (by omega)
      have n4 : s.data.toList ≠ [117, 110, 108, 105, 110, 107] := n 4 (by omega) (by omega)
      have n5 : s.data.toList ≠ [109, 111, 118, 101] := n 5 (by omega) (by omega)
      have n6 : s.data.toList ≠ [119, 114, 105, 116, 101] := n 6 (by omega) (by omega)
      have hz : R = 0 := by
        rw [HR.out, kindV, if_neg n1, if_neg n2, if_neg n3, if_neg n4, if_neg n5, if_neg n6]
      rw [hz]
      rfl

def task_kind.f (a0 : ByteArray) : Option Int := some (kindV a0.data.toList)
theorem task_kind.calls (a0 : ByteArray) (r : Int) (w : World) (hV_ : Wh w) (h : task_kind.f a0 = some r) :
    Calls Tryd.prog 45 #[.string a0] w fun e w' => e = .returned (.int .i64 r) ∧ Below w.heap.size w w' := by
  obtain rfl := Option.some.inj h
  exact kind_walk a0 w hV_

theorem vb_len (j : Nat) (x : ByteArray) (h : vb[j]? = some x) : x.size ≤ 6 := by
  have hm := List.mem_of_getElem? h
  simp only [vb, List.mem_cons, List.not_mem_nil, or_false] at hm
  rcases hm with rfl | rfl | rfl | rfl | rfl | rfl | rfl <;> decide

theorem line_bad (k : Nat) (K : Int) (p t : ByteArray) (w : World) (hr : task_Right.f k K p t = some false) :
    Calls Tryd.prog 25 #[.agg #[.int .i64 K, .string p, .string t]] w fun e w' => e = .returned (.tuple #[.string ⟨#[]⟩, .int .i64 2]) ∧ Below w.heap.size w w' := by
  have hc := fun W => task_Right.calls k K p t false W hr
  have HC := Lib.hid hc
  clear hc
  go_enter Tryd.func25, Tryd.ntmps25
  go_wp2_with (go_at_call 26; refine (HC.out _).mono ?_; rintro e w' ⟨rfl, hb⟩)
  go_ret2
  exact ⟨rfl, ((Below.refl _ w).alloc (Nat.le_refl _) _).trans (hb.mono (by simp))⟩

theorem box_cell (w : World) (cs : Array Value) (t : TypeId) (j : Nat) : (w.alloc (.cells cs t)).cell? ⟨w.heap.size, j, none⟩ = cs[j]? := by
  simp only [World.cell?, World.alloc_heap_new]
  simp
set_option maxHeartbeats 4000000 in
set_option maxRecDepth 1000000 in
theorem line_good (k : Nat) (n : Nat) (p t v sp st : ByteArray) (tw : Bool) (w : World) (hV : Wh w) (hr : task_Right.f k n p t = some true) (hn : n < 7) (hv : vb[n]? = some v)
    (hsp : task_Shield.f k p = some sp) (hst : task_Shield.f k t = some st) (htw : task_two.f (n : Int) = some tw) (h1 : sp.size < 1099511627776) (h2 : st.size < 1099511627776) :
    Calls Tryd.prog 25 #[.agg #[.int .i64 n, .string p, .string t]] w fun e w' =>
      e = .returned (.tuple #[.string (if tw = true then ((v ++ (⟨#[32]⟩ : ByteArray)) ++ sp) ++ ((⟨#[32]⟩ : ByteArray) ++ st) else (v ++ (⟨#[32]⟩ : ByteArray)) ++ sp), .int .i64 0]) ∧ Below w.heap.size w w' := by
  have HC := Lib.hid (fun W => task_Right.calls k n p t true W hr)
  have HP := Lib.hid (fun W => task_Shield.calls k p sp W hsp)
  have HT := Lib.hid (fun W => task_Shield.calls k t st W hst)
  have H2 := Lib.hid (fun W => task_two.calls (n : Int) tw W htw)
  have hvl := vb_len n v hv
  have s1 : (9223372036854775807 < v.size + 1) = False := eq_false (by omega)
  have s2 : (9223372036854775807 < v.size + 1 + sp.size) = False := eq_false (by omega)
  have s3 : (9223372036854775807 < 1 + st.size) = False := eq_false (by omega)
  have s4 : (9223372036854775807 < v.size + 1 + sp.size + (1 + st.size)) = False := eq_false (by omega)
  have i0 : (0 : Int) ≤ (n : Int) := by omega
  have i1 : (n : Int) < 7 := by omega
  have hcell := hV n v hv
  have hlt := World.block_lt_of_cell? w _ hcell
  go_enter Tryd.func25, Tryd.ntmps25
  go_wp2_with (go_at_call 26; refine (HC.out _).mono ?_; rintro e w2 ⟨rfl, hb⟩)
  have hB0 : Below w.heap.size w (w.alloc (.cells #[.int .i64 n, .string p, .string t] 35)) := (Below.refl _ w).alloc (Nat.le_refl _) _
  have c0 : w2.cell? ⟨w.heap.size, 0, none⟩ = some (.int .i64 n) := by rw [hb.cell (p := ⟨w.heap.size, 0, none⟩) (by simp), box_cell]; rfl
  have c1 : w2.cell? ⟨w.heap.size, 1, none⟩ = some (.string p) := by rw [hb.cell (p := ⟨w.heap.size, 1, none⟩) (by simp), box_cell]; rfl
  have c2 : w2.cell? ⟨w.heap.size, 2, none⟩ = some (.string t) := by rw [hb.cell (p := ⟨w.heap.size, 2, none⟩) (by simp), box_cell]; rfl
  have cv : w2.cell? ⟨0, n, none⟩ = some (.string v) := by
    rw [(hB0.trans (hb.mono (by simp))).cell (p := ⟨0, n, none⟩) hlt]; exact hcell
  have L0 : w.heap.size < w2.heap.size := World.block_lt_of_cell? w2 _ c0
  have L1 : 0 < w2.heap.size := World.block_lt_of_cell? w2 _ cv
  have hb2 := hB0.trans (hb.mono (by simp))
  have HB2 := Lib.hid hb2
  clear hb hb2 hB0 hV hcell
  go_region_held3 (fun w' => w'.cell? ⟨w.heap.size, 0, none⟩ = some (.int .i64 n) ∧ w'.cell? ⟨w.heap.size, 1, none⟩ = some (.string p) ∧ w'.cell? ⟨0, n, none⟩ = some (.string v)) (first | (go_keep; done) | (exact ⟨(hb3.cell (p := ⟨w.heap.size, 0, none⟩) L0).trans c0, (hb3.cell (p := ⟨w.heap.size, 1, none⟩) L0).trans c1, (hb3.cell (p := ⟨0, n, none⟩) L1).trans cv⟩))
    ((go_at_call 23; refine (HP.out _).mono ?_; rintro e w3 ⟨rfl, hb3⟩))
  have d0 : w3.cell? ⟨w.heap.size, 0, none⟩ = some (.int .i64 n) := (hb3.cell (p := ⟨w.heap.size, 0, none⟩) L0).trans c0
  have d2 : w3.cell? ⟨w.heap.size, 2, none⟩ = some (.string t) := (hb3.cell (p := ⟨w.heap.size, 2, none⟩) L0).trans c2
  have HB3 := Lib.hid (HB2.out.drew.trans (hb3.mono (Nat.le_of_lt L0)))
  clear hb3 c0 c1 c2 cv HB2
  cases tw with
  | false =>
    go_simp
    go_wp2_with (go_at_call 46; refine (H2.out _).mono ?_; rintro e w4 ⟨rfl, hd⟩; have hb4 := hd.below)
    go_ret2
    exact ⟨rfl, HB3.out.trans (hb4.mono (HB3.out.size))⟩
  | true =>
    go_simp
    go_wp2_with (first | (go_at_call 46; refine (H2.out _).mono ?_; rintro e w4 ⟨rfl, hd⟩; have hb4 := hd.below; have e2 : w4.cell? ⟨w.heap.size, 2, none⟩ = some (.string t) := (hb4.cell (p := ⟨w.heap.size, 2, none⟩) (World.block_lt_of_cell? w3 _ d2)).trans d2) | (go_at_call 23; refine (HT.out _).mono ?_; rintro e w5 ⟨rfl, hb5⟩))
    go_ret2
    exact ⟨rfl, (HB3.out.trans (hb4.mono HB3.out.size)).trans (hb5.mono (Nat.le_trans HB3.out.size hb4.size))⟩

def lineS (v sp st : ByteArray) (tw : Bool) : ByteArray := if tw = true then ((v ++ (⟨#[32]⟩ : ByteArray)) ++ sp) ++ ((⟨#[32]⟩ : ByteArray) ++ st) else (v ++ (⟨#[32]⟩ : ByteArray)) ++ sp
def task_Line.f (k : Nat) (a0_0 : Int) (a0_1 a0_2 : ByteArray) : Option (ByteArray × Int) :=
  (task_Right.f k a0_0 a0_1 a0_2).bind fun r => if r = true then
    (if 0 ≤ a0_0 ∧ a0_0 < 7 then ((task_Shield.f k a0_1).bind fun sp => (task_Shield.f k a0_2).bind fun st => (task_two.f a0_0).bind fun tw =>
      if sp.size < 1099511627776 ∧ st.size < 1099511627776 then some (lineS (vb.getD a0_0.toNat ⟨#[]⟩) sp st tw, 0) else none) else none)
    else some (⟨#[]⟩, 2)
theorem task_Line.mono : ∀ a0 a1 a2 k, LeO (task_Line.f k a0 a1 a2) (task_Line.f (k + 1) a0 a1 a2) := by
  intro a0 a1 a2 k
  unfold task_Line.f
  repeat' first
      | exact task_Right.mono _ _ _ _
      | exact task_Shield.mono _ _
      | (with_reducible exact LeO.refl _)
      | (with_reducible exact LeO.none _)
      | (with_reducible refine LeO.ite ?_ ?_)
      | (with_reducible refine LeO.bind ?_ (fun _ => ?_))
theorem task_Line.calls (k : Nat) (a0_0 : Int) (a0_1 a0_2 : ByteArray) (r1 : ByteArray) (r2 : Int) (w : World) (hV_ : Wh w) (h : task_Line.f k a0_0 a0_1 a0_2 = some (r1, r2)) :
    Calls Tryd.prog 25 #[.agg #[.int .i64 a0_0, .string a0_1, .string a0_2]] w fun e w' => e = .returned (.tuple #[.string r1, .int .i64 r2]) ∧ Below w.heap.size w w' := by
  unfold task_Line.f at h
  obtain ⟨b, hr, h⟩ := Option.bind_eq_some_iff.1 h
  cases b with
  | false =>
    rw [if_neg (by simp)] at h
    obtain ⟨rfl, rfl⟩ := Prod.mk.inj (Option.some.inj h)
    exact line_bad k a0_0 a0_1 a0_2 w hr
  | true =>
    rw [if_pos rfl] at h
    split at h
    · rename_i hK
      obtain ⟨sp, hsp, h⟩ := Option.bind_eq_some_iff.1 h
      obtain ⟨st, hst, h⟩ := Option.bind_eq_some_iff.1 h
      obtain ⟨tw, htw, h⟩ := Option.bind_eq_some_iff.1 h
      split at h
      · rename_i hs
        obtain ⟨rfl, rfl⟩ := Prod.mk.inj (Option.some.inj h)
        obtain ⟨n, rfl⟩ := Int.eq_ofNat_of_zero_le hK.1
        have hn : n < vb.length := by have := hK.2; show n < 7; omega
        have hv : vb[n]? = some (vb.getD n ⟨#[]⟩) := by rw [List.getD_eq_getElem?_getD, List.getElem?_eq_getElem hn]; rfl
        exact line_good k n a0_1 a0_2 _ sp st tw w hV_ hr (by have := hK.2; omega) hv hsp hst htw hs.1 hs.2
      · cases h
    · cases h
end Go.Proofs.YtocpdhbkfgolfaaDoor.Ext
