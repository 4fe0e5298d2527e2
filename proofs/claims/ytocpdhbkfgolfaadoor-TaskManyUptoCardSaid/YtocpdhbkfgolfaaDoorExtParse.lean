/- task.Parse, walked. -/
import Derived.Test.YtocpdhbkfgolfaaDoorExtTask
import Derived.Test.YtocpdhbkfgolfaaDoorX5
import Derived.Deep.RegionHeld3
import Derived.LoopTactic
import Derived.WalkKit
namespace Go.Proofs.YtocpdhbkfgolfaaDoor.Ext
open Go Go.RowKit Go.Shelf Go.Proofs Go.Proofs.YtocpdhbkfgolfaaDoor Go.Proofs.YtocpdhbkfgolfaaDoorW.PrintWords Go.Proofs.YtocpdhbkfgolfaaDoor.X
set_option linter.unusedVariables false
set_option linter.unusedSimpArgs false

/-- strings.Split at one byte, with its world. -/
theorem split_exact (s : ByteArray) (c : UInt8) (w : World) (hs : s.size < 4294967281) (l : List ByteArray) (hl : l = Lib.splitB ⟨#[c]⟩ 0 (Lib.countB s ⟨#[c]⟩) s) :
    Calls Tryd.prog 44 #[.string s, .string ⟨#[c]⟩] w fun e w' => e = .returned (.slice (some ⟨w.heap.size, 0, none⟩) l.length l.length) ∧ w' = w.alloc (.cells (l.map Value.string).toArray 9) := by
  have h1 : 1 ≤ (⟨#[c]⟩ : ByteArray).size := by show 1 ≤ 1; omega
  have hle := Lib.countB_le ⟨#[c]⟩ h1 s.size s (Nat.le_refl _)
  have hlen := Lib.splitB_all ⟨#[c]⟩ h1 0 _ s rfl
  have hg := genSplit_calls s c w hs
  have e2 : Lib.cellsOf (Lib.splitB ⟨#[c]⟩ 0 (Lib.countB s ⟨#[c]⟩) s) (Lib.countB s ⟨#[c]⟩ + 1) = ((Lib.splitB ⟨#[c]⟩ 0 (Lib.countB s ⟨#[c]⟩) s).map Value.string).toArray := by rw [← hlen]; exact Lib.cellsOf_full _
  rw [e2, ← hl] at hg
  rw [← hl] at hlen
  rw [← hlen] at hg
  have HG := Lib.hid hg
  clear hg hlen hle e2 hl
  go_enter Tryd.func44, Tryd.ntmps44
  go_wp2_with (go_at_call 64; refine HG.out.mono ?_; rintro e w' ⟨rfl, hw⟩; rw [hw]; clear hw)
  go_ret
  exact ⟨rfl, rfl⟩

abbrev P4 := Int × ByteArray × ByteArray × Int
def nulT (e : Int) : P4 := (0, ⟨#[]⟩, ⟨#[]⟩, e)
/-- What Parse answers of a kind and its words' texts. -/
def parseRight (k : Nat) (K : Int) (p t : ByteArray) : Option P4 := (task_Right.f k K p t).bind fun r => if r = true then some (K, p, t, 0) else some (nulT 2)
def parseWords (k : Nat) (K : Int) (tw : Bool) : List ByteArray → Option P4
  | [_, a] => if tw = true then some (nulT 3) else (task_Bare.f k a).bind fun x => if x.2 = true then parseRight k K x.1 ⟨#[]⟩ else some (nulT 3)
  | [_, a, b] => if tw = true then (task_Bare.f k a).bind fun x => if x.2 = true then ((task_Bare.f k b).bind fun y => if y.2 = true then parseRight k K x.1 y.1 else some (nulT 3)) else some (nulT 3) else some (nulT 3)
  | _ => some (nulT 3)
def task_Parse.f (k : Nat) (s : ByteArray) : Option P4 :=
  if s.size < 4294967281 then
    let l := Lib.splitB ⟨#[32]⟩ 0 (Lib.countB s ⟨#[32]⟩) s
    let K := kindV (l.getD 0 ⟨#[]⟩).data.toList
    (task_two.f K).bind fun tw => if K = 0 then some (nulT 3) else parseWords k K tw l
  else none
theorem parseRight_mono : ∀ K p t k, LeO (parseRight k K p t) (parseRight (k + 1) K p t) := by
  intro K p t k
  unfold parseRight
  repeat' first
      | exact task_Right.mono _ _ _ _
      | (with_reducible exact LeO.refl _)
      | (with_reducible refine LeO.ite ?_ ?_)
      | (with_reducible refine LeO.bind ?_ (fun _ => ?_))
theorem parseWords_mono : ∀ K tw l k, LeO (parseWords k K tw l) (parseWords (k + 1) K tw l) := by
  intro K tw l k
  unfold parseWords
  split
  all_goals repeat' first
      | exact task_Bare.mono _ _
      | exact parseRight_mono _ _ _ _
      | (with_reducible exact LeO.refl _)
      | (with_reducible refine LeO.ite ?_ ?_)
      | (with_reducible refine LeO.bind ?_ (fun _ => ?_))
theorem task_Parse.mono : ∀ s k, LeO (task_Parse.f k s) (task_Parse.f (k + 1) s) := by
  intro s k
  unfold task_Parse.f
  repeat' first
      | exact parseWords_mono _ _ _ _
      | (with_reducible exact LeO.refl _)
      | (with_reducible exact LeO.none _)
      | (with_reducible refine LeO.ite ?_ ?_)
      | (with_reducible refine LeO.bind ?_ (fun _ => ?_))

theorem parse_result {W : World} {B : Nat} {K e : Int} {p t : ByteArray} {tmps : Array Value} (c0 : W.cell? ⟨B, 0, none⟩ = some (.int .i64 K)) (c1 : W.cell? ⟨B, 1, none⟩ = some (.string p)) (c2 : W.cell? ⟨B, 2, none⟩ = some (.string t))
    (ht : tmps.getD 2 undef = .pointer (some ⟨B, 0, none⟩)) (h3 : tmps.getD 3 undef = .int .i64 e) :
    (results Tryd.f19 tmps).run Tryd.prog W = .ok (.tuple #[.agg #[.int .i64 K, .string p, .string t], .int .i64 e]) W := by
  have hr : Tryd.f19.results = #[.cell 2 35, .tmp 3] := by kernel_rfl
  have ht' : tmps[2]?.getD undef = .pointer (some ⟨B, 0, none⟩) := by rw [← ht]; simp [Array.getD]; split <;> simp_all
  have h3' : tmps[3]?.getD undef = .int .i64 e := by rw [← h3]; simp [Array.getD]; split <;> simp_all
  have hu := Tryd.underlying35
  simp [results, hr, go_sem, ht', h3', c0, c1, c2, hu]

set_option maxHeartbeats 4000000 in
set_option maxRecDepth 1000000 in
theorem parse_none (s : ByteArray) (l : List ByteArray) (a : ByteArray) (r : List ByteArray) (hl : l = Lib.splitB ⟨#[32]⟩ 0 (Lib.countB s ⟨#[32]⟩) s) (hl1 : l = a :: r) (hs : s.size < 4294967281) (w : World) (hV : Wh w) (hK : kindV a.data.toList = 0) :
    Calls Tryd.prog 19 #[.string s] w fun e w' => e = .returned (.tuple #[.agg #[.int .i64 0, .string ⟨#[]⟩, .string ⟨#[]⟩], .int .i64 3]) ∧ Below w.heap.size w w' := by
  have HS := Lib.hid (fun W => split_exact s 32 W hs l hl)
  have HK := Lib.hid (fun W (h : Wh W) => kind_walk a W h)
  rw [hK] at HK
  have HL := Lib.hid hl1
  clear hl hK
  go_enter Tryd.func19, Tryd.ntmps19
  go_wp2_with (go_at_call 44; refine (HS.out _).mono ?_; rintro e w' ⟨rfl, hw⟩; rw [hw]; clear hw)
  have hb2 : Below w.heap.size w ((w.alloc (.cells #[.int .i64 0, .string ⟨#[]⟩, .string ⟨#[]⟩] 35)).alloc (.cells (l.map Value.string).toArray 9)) := ((Below.refl _ w).alloc (Nat.le_refl _) _).alloc (by simp) _
  rw [hl1] at hb2
  refine (HK.out _ (hV.below hb2)).mono ?_
  rintro e w2 ⟨rfl, hb3⟩
  have hb4 := hb2.trans (hb3.mono hb2.size)
  have a0 : (w.alloc (.cells #[.int .i64 0, .string ⟨#[]⟩, .string ⟨#[]⟩] 35)).heap[w.heap.size]? = some (.cells #[.int .i64 0, .string ⟨#[]⟩, .string ⟨#[]⟩] 35 (0, 0)) := World.alloc_heap_new w _
  have a1 := ((World.grownBy_alloc (w.alloc (.cells #[.int .i64 0, .string ⟨#[]⟩, .string ⟨#[]⟩] 35)) (.cells ((a :: r).map Value.string).toArray 9) none).block w.heap.size (by simp) (by simp)).trans a0
  have hbx := (hb3.block w.heap.size (by simp; omega)).trans a1
  have c0 : w2.cell? ⟨w.heap.size, 0, none⟩ = some (.int .i64 0) := by simp [World.cell?, hbx]
  have c1 : w2.cell? ⟨w.heap.size, 1, none⟩ = some (.string ⟨#[]⟩) := by simp [World.cell?, hbx]
  have c2 : w2.cell? ⟨w.heap.size, 2, none⟩ = some (.string ⟨#[]⟩) := by simp [World.cell?, hbx]
  have f0 : w2.frozen? ⟨w.heap.size, 0, none⟩ = false := by simp [World.frozen?, hbx]
  have f1 : w2.frozen? ⟨w.heap.size, 1, none⟩ = false := by simp [World.frozen?, hbx]
  have f2 : w2.frozen? ⟨w.heap.size, 2, none⟩ = false := by simp [World.frozen?, hbx]
  clear hbx a1 a0 HL
  go_wp2
  refine bodyPost_ret (parse_result ?_ ?_ ?_ rfl rfl) rfl ⟨rfl, ?_⟩
  · go_simp
  · go_simp
  · go_simp
  · exact ((hb4.setCell (p := ⟨w.heap.size, 0, none⟩) (Nat.le_refl _) _).setCell (p := ⟨w.heap.size, 1, none⟩) (Nat.le_refl _) _).setCell (p := ⟨w.heap.size, 2, none⟩) (Nat.le_refl _) _

set_option maxHeartbeats 4000000 in
set_option maxRecDepth 1000000 in
theorem parse_form (s : ByteArray) (l : List ByteArray) (a : ByteArray) (r : List ByteArray) (hl : l = Lib.splitB ⟨#[32]⟩ 0 (Lib.countB s ⟨#[32]⟩) s) (hl1 : l = a :: r) (hs : s.size < 4294967281) (w : World) (hV : Wh w) (K : Int) (hK : kindV a.data.toList = K) (hK0 : K ≠ 0) (tw : Bool) (htw : task_two.f K = some tw) (hn : (tw = false ∧ r.length + 1 ≠ 2) ∨ (tw = true ∧ r.length + 1 ≠ 3)) :
    Calls Tryd.prog 19 #[.string s] w fun e w' => e = .returned (.tuple #[.agg #[.int .i64 0, .string ⟨#[]⟩, .string ⟨#[]⟩], .int .i64 3]) ∧ Below w.heap.size w w' := by
  have HS := Lib.hid (fun W => split_exact s 32 W hs l hl)
  have HK := Lib.hid (fun W (h : Wh W) => kind_walk a W h)
  rw [hK] at HK
  have HL := Lib.hid hl1
  have H2 := Lib.hid (fun W => task_two.calls K tw W htw)
  have bK : (K == 0) = false := by simpa using hK0
  clear hl hK
  go_enter Tryd.func19, Tryd.ntmps19
  go_wp2_with (go_at_call 44; refine (HS.out _).mono ?_; rintro e w' ⟨rfl, hw⟩; rw [hw]; clear hw)
  have hb2 : Below w.heap.size w ((w.alloc (.cells #[.int .i64 0, .string ⟨#[]⟩, .string ⟨#[]⟩] 35)).alloc (.cells (l.map Value.string).toArray 9)) := ((Below.refl _ w).alloc (Nat.le_refl _) _).alloc (by simp) _
  rw [hl1] at hb2
  refine (HK.out _ (hV.below hb2)).mono ?_
  rintro e w2 ⟨rfl, hb3⟩
  have hb4 := hb2.trans (hb3.mono hb2.size)
  have a0 : (w.alloc (.cells #[.int .i64 0, .string ⟨#[]⟩, .string ⟨#[]⟩] 35)).heap[w.heap.size]? = some (.cells #[.int .i64 0, .string ⟨#[]⟩, .string ⟨#[]⟩] 35 (0, 0)) := World.alloc_heap_new w _
  have a1 := ((World.grownBy_alloc (w.alloc (.cells #[.int .i64 0, .string ⟨#[]⟩, .string ⟨#[]⟩] 35)) (.cells ((a :: r).map Value.string).toArray 9) none).block w.heap.size (by simp) (by simp)).trans a0
  have hbx := (hb3.block w.heap.size (by simp; omega)).trans a1
  have c0 : w2.cell? ⟨w.heap.size, 0, none⟩ = some (.int .i64 0) := by simp [World.cell?, hbx]
  have c1 : w2.cell? ⟨w.heap.size, 1, none⟩ = some (.string ⟨#[]⟩) := by simp [World.cell?, hbx]
  have c2 : w2.cell? ⟨w.heap.size, 2, none⟩ = some (.string ⟨#[]⟩) := by simp [World.cell?, hbx]
  have f0 : w2.frozen? ⟨w.heap.size, 0, none⟩ = false := by simp [World.frozen?, hbx]
  have f1 : w2.frozen? ⟨w.heap.size, 1, none⟩ = false := by simp [World.frozen?, hbx]
  have f2 : w2.frozen? ⟨w.heap.size, 2, none⟩ = false := by simp [World.frozen?, hbx]
  clear hbx a1 a0 HL
  rcases hn with ⟨rfl, hn⟩ | ⟨rfl, hn⟩
  all_goals
    by_cases h2 : r.length + 1 = 2
    all_goals
      first
        | exact absurd h2 hn
        | (have B2 : (((r.length : Int) + 1) != 2) = true := bne_iff_ne.2 (by omega)
           have B3 : (((r.length : Int) + 1) == 2) = false := beq_eq_false_iff_ne.2 (by omega))
        | (have B2 : r.length = 1 := by omega)
  all_goals
    go_wp2_with (go_at_call 46; refine (H2.out _).mono ?_; rintro e w4 ⟨rfl, ⟨⟨nn, rfl⟩⟩⟩)
  all_goals
    refine bodyPost_ret (parse_result ?_ ?_ ?_ rfl rfl) rfl ⟨rfl, ?_⟩
    · go_simp
    · go_simp
    · go_simp
    · have hd : ∀ (W : World) (m : Nat), Below w.heap.size w W → Below w.heap.size w (W.drewN m) := fun W m h => ⟨h.os, h.tape, h.output, h.size, h.block⟩
      first
        | exact (((hd _ _ hb4).setCell (p := ⟨w.heap.size, 0, none⟩) (Nat.le_refl _) _).setCell (p := ⟨w.heap.size, 1, none⟩) (Nat.le_refl _) _).setCell (p := ⟨w.heap.size, 2, none⟩) (Nat.le_refl _) _
        | exact (((hd _ _ (hd _ _ hb4)).setCell (p := ⟨w.heap.size, 0, none⟩) (Nat.le_refl _) _).setCell (p := ⟨w.heap.size, 1, none⟩) (Nat.le_refl _) _).setCell (p := ⟨w.heap.size, 2, none⟩) (Nat.le_refl _) _
        | exact ((hb4.setCell (p := ⟨w.heap.size, 0, none⟩) (Nat.le_refl _) _).setCell (p := ⟨w.heap.size, 1, none⟩) (Nat.le_refl _) _).setCell (p := ⟨w.heap.size, 2, none⟩) (Nat.le_refl _) _

/-- What the round's head holds: the result's block, the list, the task, the pointers to its texts. -/
structure PS (w wr : World) (l : List ByteArray) (X : Nat) (K : Int) (p t : ByteArray) : Prop where
  hB : wr.heap[w.heap.size]? = some (.cells #[.int .i64 0, .string ⟨#[]⟩, .string ⟨#[]⟩] 35 (0, 0))
  hL : wr.heap[w.heap.size + 1]? = some (.cells (l.map Value.string).toArray 9 (0, 0))
  hX : wr.heap[X]? = some (.cells #[.int .i64 K, .string p, .string t] 35 (0, 0))
  hP : wr.heap[X + 1]? = some (.cells #[.pointer (some ⟨X, 1, none⟩), .pointer (some ⟨X, 2, none⟩)] 72 (0, 0))
  lt : w.heap.size + 1 < X
  bel : Below w.heap.size w wr
theorem PS.below {w wr W : World} {l : List ByteArray} {X : Nat} {K : Int} {p t : ByteArray} (h : PS w wr l X K p t) (hb : Below wr.heap.size wr W) : PS w W l X K p t :=
  ⟨(hb.block _ (blk_lt h.hB)).trans h.hB, (hb.block _ (blk_lt h.hL)).trans h.hL, (hb.block _ (blk_lt h.hX)).trans h.hX, (hb.block _ (blk_lt h.hP)).trans h.hP, h.lt, h.bel.trans (hb.mono h.bel.size)⟩
theorem PS.set1 {w wr : World} {l : List ByteArray} {X : Nat} {K : Int} {p t : ByteArray} (h : PS w wr l X K p t) (x : ByteArray) : PS w (wr.setCell ⟨X, 1, none⟩ (.string x)) l X K x t :=
  ⟨blk_far h.hB (by have := h.lt; show w.heap.size ≠ X; omega) _, blk_far h.hL (by have := h.lt; show w.heap.size + 1 ≠ X; omega) _, blk_set h.hX 1 _, blk_far h.hP (by show X + 1 ≠ X; omega) _, h.lt, h.bel.setCell (by have := h.lt; show w.heap.size ≤ X; omega) _⟩
theorem PS.set2 {w wr : World} {l : List ByteArray} {X : Nat} {K : Int} {p t : ByteArray} (h : PS w wr l X K p t) (x : ByteArray) : PS w (wr.setCell ⟨X, 2, none⟩ (.string x)) l X K p x :=
  ⟨blk_far h.hB (by have := h.lt; show w.heap.size ≠ X; omega) _, blk_far h.hL (by have := h.lt; show w.heap.size + 1 ≠ X; omega) _, blk_set h.hX 2 _, blk_far h.hP (by show X + 1 ≠ X; omega) _, h.lt, h.bel.setCell (by have := h.lt; show w.heap.size ≤ X; omega) _⟩
theorem PS.cells {w wr : World} {l : List ByteArray} {X : Nat} {K : Int} {p t : ByteArray} (h : PS w wr l X K p t) :
    (wr.cell? ⟨w.heap.size, 0, none⟩ = some (.int .i64 0) ∧ wr.cell? ⟨w.heap.size, 1, none⟩ = some (.string ⟨#[]⟩) ∧ wr.cell? ⟨w.heap.size, 2, none⟩ = some (.string ⟨#[]⟩)) ∧
    (wr.frozen? ⟨w.heap.size, 0, none⟩ = false ∧ wr.frozen? ⟨w.heap.size, 1, none⟩ = false ∧ wr.frozen? ⟨w.heap.size, 2, none⟩ = false) ∧
    (wr.cell? ⟨X, 0, none⟩ = some (.int .i64 K) ∧ wr.cell? ⟨X, 1, none⟩ = some (.string p) ∧ wr.cell? ⟨X, 2, none⟩ = some (.string t)) ∧
    (wr.frozen? ⟨X, 0, none⟩ = false ∧ wr.frozen? ⟨X, 1, none⟩ = false ∧ wr.frozen? ⟨X, 2, none⟩ = false) ∧
    (wr.cell? ⟨X + 1, 0, none⟩ = some (.pointer (some ⟨X, 1, none⟩)) ∧ wr.cell? ⟨X + 1, 1, none⟩ = some (.pointer (some ⟨X, 2, none⟩))) := by
  refine ⟨⟨?_, ?_, ?_⟩, ⟨?_, ?_, ?_⟩, ⟨?_, ?_, ?_⟩, ⟨?_, ?_, ?_⟩, ?_, ?_⟩
  all_goals first
    | (rw [blk_cell h.hB]; rfl)
    | (rw [blk_cell h.hX]; rfl)
    | (rw [blk_cell h.hP]; rfl)
    | exact blk_frozen h.hB _
    | exact blk_frozen h.hX _
theorem PS.item {w wr : World} {l : List ByteArray} {X : Nat} {K : Int} {p t : ByteArray} (h : PS w wr l X K p t) (j : Nat) (x : ByteArray) (hj : l[j]? = some x) : wr.cell? ⟨w.heap.size + 1, j, none⟩ = some (.string x) := by
  rw [blk_cell h.hL]; simp [hj]
theorem PS.start {w w4 : World} {l : List ByteArray} {K : Int} (hb : Below ((w.alloc (.cells #[.int .i64 0, .string ⟨#[]⟩, .string ⟨#[]⟩] 35)).alloc (.cells (l.map Value.string).toArray 9)).heap.size ((w.alloc (.cells #[.int .i64 0, .string ⟨#[]⟩, .string ⟨#[]⟩] 35)).alloc (.cells (l.map Value.string).toArray 9)) w4) :
    PS w ((w4.alloc (.cells #[.int .i64 K, .string ⟨#[]⟩, .string ⟨#[]⟩] 35)).alloc (.cells #[.pointer (some ⟨w4.heap.size, 1, none⟩), .pointer (some ⟨w4.heap.size, 2, none⟩)] 72)) l w4.heap.size K ⟨#[]⟩ ⟨#[]⟩ := by
  have hs : w.heap.size + 1 < w4.heap.size := by have := hb.size; simp at this; omega
  have a0 : (w.alloc (.cells #[.int .i64 0, .string ⟨#[]⟩, .string ⟨#[]⟩] 35)).heap[w.heap.size]? = some (.cells #[.int .i64 0, .string ⟨#[]⟩, .string ⟨#[]⟩] 35 (0, 0)) := World.alloc_heap_new w _
  have a1 : ((w.alloc (.cells #[.int .i64 0, .string ⟨#[]⟩, .string ⟨#[]⟩] 35)).alloc (.cells (l.map Value.string).toArray 9)).heap[w.heap.size]? = _ := ((World.grownBy_alloc (w.alloc (.cells #[.int .i64 0, .string ⟨#[]⟩, .string ⟨#[]⟩] 35)) (.cells (l.map Value.string).toArray 9) none).block w.heap.size (by simp) (by simp)).trans a0
  have a2 := World.alloc_heap_new (w.alloc (.cells #[.int .i64 0, .string ⟨#[]⟩, .string ⟨#[]⟩] 35)) (.cells (l.map Value.string).toArray 9)
  have e1 : (w.alloc (.cells #[.int .i64 0, .string ⟨#[]⟩, .string ⟨#[]⟩] 35)).heap.size = w.heap.size + 1 := by simp
  rw [e1] at a2
  have b0 := (hb.block w.heap.size (by simp; omega)).trans a1
  have b1 := (hb.block (w.heap.size + 1) (by simp)).trans a2
  have keep : ∀ (V : World) (o : Obj) (g : Nat) (q : Obj), V.heap[g]? = some q → (V.alloc o).heap[g]? = some q := fun V o g q hq => ((World.grownBy_alloc V o none).block g (blk_lt hq) (by simp)).trans hq
  refine ⟨keep _ _ _ _ (keep _ _ _ _ b0), keep _ _ _ _ (keep _ _ _ _ b1), keep _ _ _ _ (World.alloc_heap_new w4 _), ?_, hs, ?_⟩
  · have := World.alloc_heap_new (w4.alloc (.cells #[.int .i64 K, .string ⟨#[]⟩, .string ⟨#[]⟩] 35)) (.cells #[.pointer (some ⟨w4.heap.size, 1, none⟩), .pointer (some ⟨w4.heap.size, 2, none⟩)] 72)
    have e2 : (w4.alloc (.cells #[.int .i64 K, .string ⟨#[]⟩, .string ⟨#[]⟩] 35)).heap.size = w4.heap.size + 1 := by simp
    rw [e2] at this
    exact this
  · have h1 : Below w.heap.size w ((w.alloc (.cells #[.int .i64 0, .string ⟨#[]⟩, .string ⟨#[]⟩] 35)).alloc (.cells (l.map Value.string).toArray 9)) := ((Below.refl _ w).alloc (Nat.le_refl _) _).alloc (by simp) _
    exact ((h1.trans (hb.mono h1.size)).alloc (by omega) _).alloc (by simp; omega) _

def PRel1 (w : World) (l : List ByteArray) (X : Nat) (K : Int) (x : ByteArray) (ok : Bool) (i : Value) (wr : World) : Prop :=
  (i = .int .i64 0 ∧ PS w wr l X K ⟨#[]⟩ ⟨#[]⟩) ∨ (i = .int .i64 1 ∧ ok = true ∧ PS w wr l X K x ⟨#[]⟩)
set_option maxHeartbeats 4000000 in
set_option maxRecDepth 1000000 in
theorem parse_one (s : ByteArray) (l : List ByteArray) (a : ByteArray) (hl : l = Lib.splitB ⟨#[32]⟩ 0 (Lib.countB s ⟨#[32]⟩) s) (b : ByteArray) (hl1 : l = [a, b]) (hs : s.size < 4294967281) (w : World) (hV : Wh w) (K : Int) (hK : kindV a.data.toList = K) (hK0 : K ≠ 0) (htw : task_two.f K = some false)
    (k : Nat) (x : ByteArray) (ok : Bool) (hba : task_Bare.f k b = some (x, ok)) (rt : Bool) (hrt : ok = true → task_Right.f k K x ⟨#[]⟩ = some rt) (q : P4) (hq : q = if ok = true then (if rt = true then (K, x, ⟨#[]⟩, 0) else nulT 2) else nulT 3) :
    Calls Tryd.prog 19 #[.string s] w fun e w' => e = .returned (.tuple #[.agg #[.int .i64 q.1, .string q.2.1, .string q.2.2.1], .int .i64 q.2.2.2]) ∧ Below w.heap.size w w' := by
  have HS := Lib.hid (fun W => split_exact s 32 W hs l hl)
  have HK := Lib.hid (fun W (h : Wh W) => kind_walk a W h)
  rw [hK] at HK
  have HL := Lib.hid hl1
  have H2 := Lib.hid (fun W => task_two.calls K false W htw)
  have HBa := Lib.hid (fun W => task_Bare.calls k b x ok W hba)
  have HRt := Lib.hid (fun W h => task_Right.calls k K x ⟨#[]⟩ rt W (hrt h))
  have bK : (K == 0) = false := by simpa using hK0
  have HQ := Lib.hid hq
  clear hl hK htw hba hrt hq
  go_enter Tryd.func19, Tryd.ntmps19
  go_wp2_with (go_at_call 44; refine (HS.out _).mono ?_; rintro e w' ⟨rfl, hw⟩; rw [hw]; clear hw)
  have hb2 : Below w.heap.size w ((w.alloc (.cells #[.int .i64 0, .string ⟨#[]⟩, .string ⟨#[]⟩] 35)).alloc (.cells (l.map Value.string).toArray 9)) := ((Below.refl _ w).alloc (Nat.le_refl _) _).alloc (by simp) _
  rw [hl1] at hb2
  refine (HK.out _ (hV.below hb2)).mono ?_
  rintro e w2 ⟨rfl, hb3⟩
  go_wp2_with fail
  refine (H2.out _).mono ?_
  rintro e w4 ⟨rfl, hd⟩
  have hb5 := hd.below
  have hb6 := hb3.trans (hb5.mono hb3.size)
  have HS4 := Lib.hid (PS.start (K := K) hb6)
  clear hb2 hb3 hb5 hb6 hd hV hl1 H2 HK HS
  go_wp2_with fail
  have HS5 := HS4.out
  generalize (w4.alloc (.cells #[.int .i64 K, .string ⟨#[]⟩, .string ⟨#[]⟩] 35)).alloc (.cells #[.pointer (some ⟨w4.heap.size, 1, none⟩), .pointer (some ⟨w4.heap.size, 2, none⟩)] 72) = W6 at HS5 ⊢
  generalize w4.heap.size = X at HS5 ⊢
  clear HS4
  go_loopw [49] (PRel1 w [a, b] X K x ok) (fun i _ => 2 - (intOf i).toNat)
  case atStart => exact .inl ⟨rfl, HS5⟩
  case round =>
    clear HS5
    rcases hrel with ⟨rfl, hps⟩ | ⟨rfl, hok, hps⟩
    · have hi : wr.cell? ⟨w.heap.size + 1, 1, none⟩ = some (.string b) := hps.item 1 b rfl
      obtain ⟨-, -, -, -, hp, -⟩ := hps.cells
      have HPS := Lib.hid hps
      clear hps
      go_wp2_with fail
      refine (HBa.out _).mono ?_
      rintro e w5 ⟨rfl, hb⟩
      have h5 := HPS.out.below hb
      obtain ⟨⟨c0, c1, c2⟩, ⟨f0, f1, f2⟩, ⟨d0, d1, d2⟩, ⟨g0, g1, g2⟩, -, -⟩ := h5.cells
      have HP5 := Lib.hid h5
      clear h5 hb hi hp HPS
      cases ok with
      | false =>
        go_wp2
        refine bodyPost_ret (parse_result (K := 0) (e := 3) (p := ⟨#[]⟩) (t := ⟨#[]⟩) ?_ ?_ ?_ rfl rfl) rfl ⟨?_, ?_⟩
        · go_simp
        · go_simp
        · go_simp
        · rw [HQ.out]; rfl
        · exact ((HP5.out.bel.setCell (p := ⟨w.heap.size, 0, none⟩) (Nat.le_refl _) _).setCell (p := ⟨w.heap.size, 1, none⟩) (Nat.le_refl _) _).setCell (p := ⟨w.heap.size, 2, none⟩) (Nat.le_refl _) _
      | true =>
        go_wp2
        go_roundw
        case rel => exact .inr ⟨rfl, rfl, HP5.out.set1 x⟩
        case measure => simp [intOf]
    · obtain ⟨⟨c0, c1, c2⟩, ⟨f0, f1, f2⟩, ⟨d0, d1, d2⟩, ⟨g0, g1, g2⟩, -, -⟩ := hps.cells
      have HPS := Lib.hid hps
      subst hok
      clear hps
      go_wp2_with fail
      refine (HRt.out _ (by first | rfl | trivial)).mono ?_
      rintro e w5 ⟨rfl, hb⟩
      have h5 := HPS.out.below hb
      obtain ⟨⟨c0, c1, c2⟩, ⟨f0, f1, f2⟩, ⟨d0, d1, d2⟩, ⟨g0, g1, g2⟩, -, -⟩ := h5.cells
      have HP5 := Lib.hid h5
      clear h5 hb HPS
      cases rt with
      | false =>
        go_wp2
        refine bodyPost_ret (parse_result (K := 0) (e := 2) (p := ⟨#[]⟩) (t := ⟨#[]⟩) ?_ ?_ ?_ rfl rfl) rfl ⟨?_, ?_⟩
        · go_simp
        · go_simp
        · go_simp
        · rw [HQ.out]; rfl
        · exact ((HP5.out.bel.setCell (p := ⟨w.heap.size, 0, none⟩) (Nat.le_refl _) _).setCell (p := ⟨w.heap.size, 1, none⟩) (Nat.le_refl _) _).setCell (p := ⟨w.heap.size, 2, none⟩) (Nat.le_refl _) _
      | true =>
        go_wp2
        refine bodyPost_ret (parse_result (K := K) (e := 0) (p := x) (t := ⟨#[]⟩) ?_ ?_ ?_ rfl rfl) rfl ⟨?_, ?_⟩
        · go_simp
        · go_simp
        · go_simp
        · rw [HQ.out]; rfl
        · exact ((HP5.out.bel.setCell (p := ⟨w.heap.size, 0, none⟩) (Nat.le_refl _) _).setCell (p := ⟨w.heap.size, 1, none⟩) (Nat.le_refl _) _).setCell (p := ⟨w.heap.size, 2, none⟩) (Nat.le_refl _) _
def PRel2 (w : World) (l : List ByteArray) (X : Nat) (K : Int) (x y : ByteArray) (ok oy : Bool) (i : Value) (wr : World) : Prop :=
  (i = .int .i64 0 ∧ PS w wr l X K ⟨#[]⟩ ⟨#[]⟩) ∨ (i = .int .i64 1 ∧ ok = true ∧ PS w wr l X K x ⟨#[]⟩) ∨ (i = .int .i64 2 ∧ (ok = true ∧ oy = true) ∧ PS w wr l X K x y)
set_option maxHeartbeats 4000000 in
set_option maxRecDepth 1000000 in
theorem parse_two (s : ByteArray) (l : List ByteArray) (a : ByteArray) (hl : l = Lib.splitB ⟨#[32]⟩ 0 (Lib.countB s ⟨#[32]⟩) s) (b c : ByteArray) (hl1 : l = [a, b, c]) (hs : s.size < 4294967281) (w : World) (hV : Wh w) (K : Int) (hK : kindV a.data.toList = K) (hK0 : K ≠ 0) (htw : task_two.f K = some true)
    (k : Nat) (x y : ByteArray) (ok oy : Bool) (hba : task_Bare.f k b = some (x, ok)) (hbc : ok = true → task_Bare.f k c = some (y, oy)) (rt : Bool) (hrt : (ok = true ∧ oy = true) → task_Right.f k K x y = some rt) (q : P4) (hq : q = if ok = true then (if oy = true then (if rt = true then (K, x, y, 0) else nulT 2) else nulT 3) else nulT 3) :
    Calls Tryd.prog 19 #[.string s] w fun e w' => e = .returned (.tuple #[.agg #[.int .i64 q.1, .string q.2.1, .string q.2.2.1], .int .i64 q.2.2.2]) ∧ Below w.heap.size w w' := by
  have HS := Lib.hid (fun W => split_exact s 32 W hs l hl)
  have HK := Lib.hid (fun W (h : Wh W) => kind_walk a W h)
  rw [hK] at HK
  have HL := Lib.hid hl1
  have H2 := Lib.hid (fun W => task_two.calls K true W htw)
  have HBa := Lib.hid (fun W => task_Bare.calls k b x ok W hba)
  have HBc := Lib.hid (fun W h => task_Bare.calls k c y oy W (hbc h))
  have HRt := Lib.hid (fun W h => task_Right.calls k K x y rt W (hrt h))
  have bK : (K == 0) = false := by simpa using hK0
  have HQ := Lib.hid hq
  clear hl hK htw hba hbc hrt hq
  go_enter Tryd.func19, Tryd.ntmps19
  go_wp2_with (go_at_call 44; refine (HS.out _).mono ?_; rintro e w' ⟨rfl, hw⟩; rw [hw]; clear hw)
  have hb2 : Below w.heap.size w ((w.alloc (.cells #[.int .i64 0, .string ⟨#[]⟩, .string ⟨#[]⟩] 35)).alloc (.cells (l.map Value.string).toArray 9)) := ((Below.refl _ w).alloc (Nat.le_refl _) _).alloc (by simp) _
  rw [hl1] at hb2
  refine (HK.out _ (hV.below hb2)).mono ?_
  rintro e w2 ⟨rfl, hb3⟩
  go_wp2_with fail
  refine (H2.out _).mono ?_
  rintro e w4 ⟨rfl, hd⟩
  have hb5 := hd.below
  have hb6 := hb3.trans (hb5.mono hb3.size)
  have HS4 := Lib.hid (PS.start (K := K) hb6)
  clear hb2 hb3 hb5 hb6 hd hV hl1 H2 HK HS
  go_wp2_with fail
  have HS5 := HS4.out
  generalize (w4.alloc (.cells #[.int .i64 K, .string ⟨#[]⟩, .string ⟨#[]⟩] 35)).alloc (.cells #[.pointer (some ⟨w4.heap.size, 1, none⟩), .pointer (some ⟨w4.heap.size, 2, none⟩)] 72) = W6 at HS5 ⊢
  generalize w4.heap.size = X at HS5 ⊢
  clear HS4
  go_loopw [49] (PRel2 w [a, b, c] X K x y ok oy) (fun i _ => 3 - (intOf i).toNat)
  case atStart => exact .inl ⟨rfl, HS5⟩
  case round =>
    clear HS5
    rcases hrel with ⟨rfl, hps⟩ | ⟨rfl, hok, hps⟩ | ⟨rfl, ⟨hok, hoy⟩, hps⟩
    · have hi : wr.cell? ⟨w.heap.size + 1, 1, none⟩ = some (.string b) := hps.item 1 b rfl
      obtain ⟨-, -, -, -, hp, -⟩ := hps.cells
      have HPS := Lib.hid hps
      clear hps
      go_wp2_with fail
      refine (HBa.out _).mono ?_
      rintro e w5 ⟨rfl, hb⟩
      have h5 := HPS.out.below hb
      obtain ⟨⟨c0, c1, c2⟩, ⟨f0, f1, f2⟩, ⟨d0, d1, d2⟩, ⟨g0, g1, g2⟩, -, -⟩ := h5.cells
      have HP5 := Lib.hid h5
      clear h5 hb hi hp HPS
      cases ok with
      | false =>
        go_wp2
        refine bodyPost_ret (parse_result (K := 0) (e := 3) (p := ⟨#[]⟩) (t := ⟨#[]⟩) ?_ ?_ ?_ rfl rfl) rfl ⟨?_, ?_⟩
        · go_simp
        · go_simp
        · go_simp
        · rw [HQ.out]; rfl
        · exact ((HP5.out.bel.setCell (p := ⟨w.heap.size, 0, none⟩) (Nat.le_refl _) _).setCell (p := ⟨w.heap.size, 1, none⟩) (Nat.le_refl _) _).setCell (p := ⟨w.heap.size, 2, none⟩) (Nat.le_refl _) _
      | true =>
        go_wp2
        go_roundw
        case rel => exact .inr (.inl ⟨rfl, rfl, HP5.out.set1 x⟩)
        case measure => simp [intOf]
    · have hi : wr.cell? ⟨w.heap.size + 1, 2, none⟩ = some (.string c) := hps.item 2 c rfl
      obtain ⟨-, -, -, -, -, hp⟩ := hps.cells
      have HPS := Lib.hid hps
      subst hok
      clear hps
      go_wp2_with fail
      refine (HBc.out _ (by first | rfl | trivial)).mono ?_
      rintro e w5 ⟨rfl, hb⟩
      have h5 := HPS.out.below hb
      obtain ⟨⟨c0, c1, c2⟩, ⟨f0, f1, f2⟩, ⟨d0, d1, d2⟩, ⟨g0, g1, g2⟩, -, -⟩ := h5.cells
      have HP5 := Lib.hid h5
      clear h5 hb hi hp HPS
      cases oy with
      | false =>
        go_wp2
        refine bodyPost_ret (parse_result (K := 0) (e := 3) (p := ⟨#[]⟩) (t := ⟨#[]⟩) ?_ ?_ ?_ rfl rfl) rfl ⟨?_, ?_⟩
        · go_simp
        · go_simp
        · go_simp
        · rw [HQ.out]; rfl
        · exact ((HP5.out.bel.setCell (p := ⟨w.heap.size, 0, none⟩) (Nat.le_refl _) _).setCell (p := ⟨w.heap.size, 1, none⟩) (Nat.le_refl _) _).setCell (p := ⟨w.heap.size, 2, none⟩) (Nat.le_refl _) _
      | true =>
        go_wp2
        go_roundw
        case rel => exact .inr (.inr ⟨rfl, ⟨rfl, rfl⟩, HP5.out.set2 y⟩)
        case measure => simp [intOf]
    · obtain ⟨⟨c0, c1, c2⟩, ⟨f0, f1, f2⟩, ⟨d0, d1, d2⟩, ⟨g0, g1, g2⟩, -, -⟩ := hps.cells
      have HPS := Lib.hid hps
      subst hok
      subst hoy
      clear hps
      go_wp2_with fail
      refine (HRt.out _ (by first | exact ⟨rfl, rfl⟩ | trivial)).mono ?_
      rintro e w5 ⟨rfl, hb⟩
      have h5 := HPS.out.below hb
      obtain ⟨⟨c0, c1, c2⟩, ⟨f0, f1, f2⟩, ⟨d0, d1, d2⟩, ⟨g0, g1, g2⟩, -, -⟩ := h5.cells
      have HP5 := Lib.hid h5
      clear h5 hb HPS
      cases rt with
      | false =>
        go_wp2
        refine bodyPost_ret (parse_result (K := 0) (e := 2) (p := ⟨#[]⟩) (t := ⟨#[]⟩) ?_ ?_ ?_ rfl rfl) rfl ⟨?_, ?_⟩
        · go_simp
        · go_simp
        · go_simp
        · rw [HQ.out]; rfl
        · exact ((HP5.out.bel.setCell (p := ⟨w.heap.size, 0, none⟩) (Nat.le_refl _) _).setCell (p := ⟨w.heap.size, 1, none⟩) (Nat.le_refl _) _).setCell (p := ⟨w.heap.size, 2, none⟩) (Nat.le_refl _) _
      | true =>
        go_wp2
        refine bodyPost_ret (parse_result (K := K) (e := 0) (p := x) (t := y) ?_ ?_ ?_ rfl rfl) rfl ⟨?_, ?_⟩
        · go_simp
        · go_simp
        · go_simp
        · rw [HQ.out]; rfl
        · exact ((HP5.out.bel.setCell (p := ⟨w.heap.size, 0, none⟩) (Nat.le_refl _) _).setCell (p := ⟨w.heap.size, 1, none⟩) (Nat.le_refl _) _).setCell (p := ⟨w.heap.size, 2, none⟩) (Nat.le_refl _) _
theorem splitB_ne (s : ByteArray) : Lib.splitB ⟨#[32]⟩ 0 (Lib.countB s ⟨#[32]⟩) s ≠ [] := by
  intro h
  have := Lib.splitB_all ⟨#[32]⟩ (by show 1 ≤ 1; omega) 0 _ s rfl
  rw [h] at this
  simp at this
theorem task_Parse.calls (k : Nat) (a0 : ByteArray) (r1_0 : Int) (r1_1 r1_2 : ByteArray) (r2 : Int) (w : World) (hV_ : Wh w) (h : task_Parse.f k a0 = some (r1_0, r1_1, r1_2, r2)) :
    Calls Tryd.prog 19 #[.string a0] w fun e w' => e = .returned (.tuple #[.agg #[.int .i64 r1_0, .string r1_1, .string r1_2], .int .i64 r2]) ∧ Below w.heap.size w w' := by
  unfold task_Parse.f at h
  split at h
  case isFalse => cases h
  case isTrue hs =>
    simp only [] at h
    obtain ⟨l, hl⟩ : ∃ l, l = Lib.splitB ⟨#[32]⟩ 0 (Lib.countB a0 ⟨#[32]⟩) a0 := ⟨_, rfl⟩
    rw [← hl] at h
    obtain ⟨tw, htw, h⟩ := Option.bind_eq_some_iff.1 h
    have hne : l ≠ [] := by rw [hl]; exact splitB_ne a0
    obtain ⟨a, r, hl1⟩ := List.exists_cons_of_ne_nil hne
    have hd : l.getD 0 ⟨#[]⟩ = a := by rw [hl1]; rfl
    rw [hd] at h htw
    by_cases hK0 : kindV a.data.toList = 0
    · rw [if_pos hK0] at h
      cases h
      exact parse_none a0 l a r hl hl1 hs w hV_ hK0
    · rw [if_neg hK0] at h
      have bad : ((tw = false ∧ r.length + 1 ≠ 2) ∨ (tw = true ∧ r.length + 1 ≠ 3)) → parseWords k (kindV a.data.toList) tw l = some (nulT 3) := by
        rw [hl1]
        clear htw h
        match r with
        | [] => intro _; rfl
        | [b] =>
          rintro (⟨rfl, hz⟩ | ⟨rfl, hz⟩)
          · exact absurd rfl hz
          · rfl
        | [b, c] =>
          rintro (⟨rfl, hz⟩ | ⟨rfl, hz⟩)
          · rfl
          · exact absurd rfl hz
        | b :: c :: d :: e => intro _; rfl
      by_cases hb : (tw = false ∧ r.length + 1 ≠ 2) ∨ (tw = true ∧ r.length + 1 ≠ 3)
      · rw [bad hb] at h
        cases h
        exact parse_form a0 l a r hl hl1 hs w hV_ _ rfl hK0 tw htw hb
      · cases tw with
        | false =>
          match r, hl1, hb with
          | [], _, hb => exact absurd (.inl ⟨rfl, by simp⟩) hb
          | _ :: _ :: _, _, hb => exact absurd (.inl ⟨rfl, by simp⟩) hb
          | [b], hl1, _ =>
            rw [hl1] at h
            have h : ((task_Bare.f k b).bind fun x => if x.2 = true then parseRight k (kindV a.data.toList) x.1 ⟨#[]⟩ else some (nulT 3)) = some (r1_0, r1_1, r1_2, r2) := h
            obtain ⟨⟨x, ok⟩, hx, h⟩ := Option.bind_eq_some_iff.1 h
            cases ok with
            | false =>
              refine parse_one a0 l a hl b hl1 hs w hV_ _ rfl hK0 htw k x false hx false (fun h => by cases h) (r1_0, r1_1, r1_2, r2) ?_
              simp at h
              rw [← h]; rfl
            | true =>
              have h : parseRight k (kindV a.data.toList) x ⟨#[]⟩ = some (r1_0, r1_1, r1_2, r2) := h
              obtain ⟨rt, hrt, h⟩ := Option.bind_eq_some_iff.1 h
              refine parse_one a0 l a hl b hl1 hs w hV_ _ rfl hK0 htw k x true hx rt (fun _ => hrt) (r1_0, r1_1, r1_2, r2) ?_
              cases rt <;> (simp at h; (first | (rw [← h]; rfl) | (obtain ⟨rfl, rfl, rfl, rfl⟩ := h; rfl)))
        | true =>
          match r, hl1, hb with
          | [], _, hb => exact absurd (.inr ⟨rfl, by simp⟩) hb
          | [_], _, hb => exact absurd (.inr ⟨rfl, by simp⟩) hb
          | _ :: _ :: _ :: _, _, hb => exact absurd (.inr ⟨rfl, by simp⟩) hb
          | [b, c], hl1, _ =>
            rw [hl1] at h
            have h : ((task_Bare.f k b).bind fun x => if x.2 = true then ((task_Bare.f k c).bind fun y => if y.2 = true then parseRight k (kindV a.data.toList) x.1 y.1 else some (nulT 3)) else some (nulT 3)) = some (r1_0, r1_1, r1_2, r2) := h
            obtain ⟨⟨x, ok⟩, hx, h⟩ := Option.bind_eq_some_iff.1 h
            cases ok with
            | false =>
              refine parse_two a0 l a hl b c hl1 hs w hV_ _ rfl hK0 htw k x ⟨#[]⟩ false false hx (fun h => by cases h) false (fun h => by cases h.1) (r1_0, r1_1, r1_2, r2) ?_
              simp at h
              rw [← h]; rfl
            | true =>
              have h : ((task_Bare.f k c).bind fun y => if y.2 = true then parseRight k (kindV a.data.toList) x y.1 else some (nulT 3)) = some (r1_0, r1_1, r1_2, r2) := h
              obtain ⟨⟨y, oy⟩, hy, h⟩ := Option.bind_eq_some_iff.1 h
              cases oy with
              | false =>
                refine parse_two a0 l a hl b c hl1 hs w hV_ _ rfl hK0 htw k x y true false hx (fun _ => hy) false (fun h => by cases h.2) (r1_0, r1_1, r1_2, r2) ?_
                simp at h
                rw [← h]; rfl
              | true =>
                have h : parseRight k (kindV a.data.toList) x y = some (r1_0, r1_1, r1_2, r2) := h
                obtain ⟨rt, hrt, h⟩ := Option.bind_eq_some_iff.1 h
                refine parse_two a0 l a hl b c hl1 hs w hV_ _ rfl hK0 htw k x y true true hx (fun _ => hy) rt (fun _ => hrt) (r1_0, r1_1, r1_2, r2) ?_
                cases rt <;> (simp at h; (first | (rw [← h]; rfl) | (obtain ⟨rfl, rfl, rfl, rfl⟩ := h; rfl)))
end Go.Proofs.YtocpdhbkfgolfaaDoor.Ext
