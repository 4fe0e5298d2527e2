/- name.Check, name.Right, path.Is: what they answer. -/
import Derived.Test.YtocpdhbkfgolfaaDoorPathB
import Derived.Test.YtocpdhbkfgolfaaDoorAnyB
namespace Go.Proofs.YtocpdhbkfgolfaaDoor.Pa
open Go.Proofs.YtocpdhbkfgolfaaDoorW.PrintWords (own_weaken)
open Go Go.RowKit Go.Shelf Go.Proofs Go.Proofs.YtocpdhbkfgolfaaDoor
attribute [local go_sem] Oper.semAt_some
set_option linter.unusedVariables false
set_option linter.unusedSimpArgs false

theorem slash_nul : An.Ascii ⟨#[47, 0]⟩ := by
  intro j b h
  have h2 : ([47, 0] : List UInt8)[j]? = some b := h
  rcases j with _ | _ | j
  · simp at h2; subst h2; decide
  · simp at h2; subst h2; decide
  · simp at h2
theorem any_slash (s : ByteArray) : Lib.containsAny s.data.toList (⟨#[47, 0]⟩ : ByteArray).data.toList = decide (47 ∈ s.data.toList ∨ 0 ∈ s.data.toList) := by
  rw [Bool.eq_iff_iff, Sp.containsAny_iff, decide_eq_true_eq]
  constructor
  · rintro ⟨b, hb, hc⟩
    have hc2 : b ∈ ([47, 0] : List UInt8) := hc
    simp at hc2
    rcases hc2 with rfl | rfl
    · exact .inl hb
    · exact .inr hb
  · rintro (h | h)
    · exact ⟨47, h, by simp⟩
    · exact ⟨0, h, by simp⟩

set_option maxHeartbeats 2000000 in
theorem check_calls (s : ByteArray) (hs : s.size < 4294967281) (w : World) :
    Calls Tryd.prog 85 #[.string s] w fun e w' => e = .returned (.int .i64 (Sp.check s.data.toList)) ∧ Below w.heap.size w w' := by
  have hc := An.contains_any s ⟨#[47, 0]⟩ slash_nul (by decide) (by decide) hs w
  rw [any_slash] at hc
  obtain ⟨B, hB⟩ : ∃ B, decide (47 ∈ s.data.toList ∨ 0 ∈ s.data.toList) = B := ⟨_, rfl⟩
  rw [hB] at hc
  have HC := Lib.hid hc
  obtain ⟨r, hr⟩ : ∃ r, Sp.check s.data.toList = r := ⟨_, rfl⟩
  rw [hr]
  unfold Sp.check at hr
  rw [← Sp.size_eq, ← Lib.toList_data] at hr
  rw [← Lib.toList_data] at hB
  by_cases h0 : s.toList = []
  · rw [if_pos h0] at hr
    obtain rfl := hr
    clear hB hc
    go_enter Tryd.func85, Tryd.ntmps85
    go_wp2
    go_ret
    exact ⟨rfl, Below.refl _ _⟩
  · rw [if_neg h0] at hr
    have h0a : (s.toList == []) = false := by simpa using h0
    by_cases h1 : (64 : Int) < (s.size : Int)
    · rw [if_pos (.inl (by omega))] at hr
      obtain rfl := hr
      have h1a : decide ((64 : Int) < (s.size : Int)) = true := decide_eq_true h1
      clear hB hc
      go_enter Tryd.func85, Tryd.ntmps85
      go_wp2
      go_ret
      exact ⟨rfl, Below.refl _ _⟩
    · have h1a : decide ((64 : Int) < (s.size : Int)) = false := decide_eq_false h1
      by_cases h2 : 47 ∈ s.toList ∨ 0 ∈ s.toList
      · rw [if_pos (.inr h2)] at hr
        obtain rfl := hr
        obtain rfl : true = B := by rw [← hB]; exact (decide_eq_true h2).symm
        clear hB hc h2
        go_enter Tryd.func85, Tryd.ntmps85
        go_wp2_with (go_at_call 41; refine HC.out.mono ?_; rintro e w' ⟨rfl, hw⟩)
        go_ret
        exact ⟨rfl, hw⟩
      · rw [if_neg (fun h => h.elim (fun h => by omega) h2)] at hr
        obtain rfl : false = B := by rw [← hB]; exact (decide_eq_false h2).symm
        clear hB hc h2
        by_cases h3 : s.toList = [46]
        · rw [if_pos (.inl h3)] at hr
          obtain rfl := hr
          go_enter Tryd.func85, Tryd.ntmps85
          go_wp2_with (go_at_call 41; refine HC.out.mono ?_; rintro e w' ⟨rfl, hw⟩)
          go_ret
          exact ⟨rfl, hw⟩
        · have h3a : (s.toList == [46]) = false := by simpa using h3
          by_cases h4 : s.toList = [46, 46]
          · rw [if_pos (.inr h4)] at hr
            obtain rfl := hr
            go_enter Tryd.func85, Tryd.ntmps85
            go_wp2_with (go_at_call 41; refine HC.out.mono ?_; rintro e w' ⟨rfl, hw⟩)
            go_ret
            exact ⟨rfl, hw⟩
          · have h4a : (s.toList == [46, 46]) = false := by simpa using h4
            rw [if_neg (fun h => h.elim h3 h4)] at hr
            obtain rfl := hr
            go_enter Tryd.func85, Tryd.ntmps85
            go_wp2_with (go_at_call 41; refine HC.out.mono ?_; rintro e w' ⟨rfl, hw⟩)
            go_ret
            exact ⟨rfl, hw⟩

theorem right_calls (s : ByteArray) (hs : s.size < 4294967281) (w : World) :
    Calls Tryd.prog 71 #[.string s] w fun e w' => e = .returned (.bool (Sp.right s.data.toList)) ∧ Below w.heap.size w w' := by
  have hc := check_calls s hs w
  have hr : Sp.right s.data.toList = (Sp.check s.data.toList == 0) := by rw [Sp.right, Bool.eq_iff_iff]; simp
  rw [hr]
  generalize Sp.check s.data.toList = c at *
  have HC := Lib.hid hc
  clear hc hr
  go_enter Tryd.func71, Tryd.ntmps71
  go_wp2_with (go_at_call 85; refine HC.out.mono ?_; rintro e w' ⟨rfl, hw⟩)
  go_ret
  exact ⟨rfl, hw⟩

/-- What the loop of path.Is keeps: the box of the answer; all names so far are right. -/
def InvIs (w : World) (pre : List (List UInt8)) (W : World) : Prop := (Boxed W w.heap.size 4 (.bool false) ∧ Below w.heap.size w W) ∧ (∀ x ∈ pre, Sp.right x = true)
def InvNo (w : World) (c : Code) (pre : List (List UInt8)) (W : World) : Prop := (Boxed W w.heap.size 4 (.bool false) ∧ Below w.heap.size w W) ∧ (c = .ret ∧ ∃ x ∈ pre, Sp.right x = false)
theorem box_own {β : Type} (w : World) (B : Nat) (hB : w.heap.size ≤ B) (p : β → Prop) : OwnFrom B (fun s W => (Boxed W w.heap.size 4 (.bool false) ∧ Below w.heap.size w W) ∧ p s) :=
  OwnFrom.and (OwnFrom.and (Own.from (boxed_own w.heap.size 4 (fun _ => .bool false)) _) (ownFrom_below (Nat.le_refl _) hB)) (ownFrom_pure _ p)

def isPath (s : List UInt8) : Bool := decide (s.length ≤ 1024) && decide (Sp.clean s = s) && (Sp.parts s).all Sp.right

theorem below_others {W W' : World} (h : Below W.heap.size W W') : KeepsOthers W W' := ⟨h.size, fun k o hk _ => (h.block k (Array.getElem?_eq_some_iff.1 hk).1).trans hk⟩
theorem is_result {W : World} {B : Nat} {b : Bool} {tmps : Array Value} (hb : Boxed W B 4 (.bool b)) (ht : tmps.getD 2 undef = .pointer (some ⟨B, 0, none⟩)) :
    (results Tryd.f55 tmps).run Tryd.prog W = .ok (.bool b) W := by
  have hc := hb.cell
  have hr : Tryd.f55.results = #[.cell 2 4] := by kernel_rfl
  have ht' : tmps[2]?.getD undef = .pointer (some ⟨B, 0, none⟩) := by rw [← ht]; simp [Array.getD]; split <;> simp_all
  simp [results, hr, go_sem, ht', hc]
theorem is_no1 {s : List UInt8} (h : ¬ s.length ≤ 1024) : isPath s = false := by simp [isPath, h]
theorem is_no2 {s : List UInt8} (h : ¬ Sp.clean s = s) : isPath s = false := by simp [isPath, h]
theorem is_no3 {s : List UInt8} {pre : List (List UInt8)} (hp : pre <+: Sp.parts s) (h : ∃ x ∈ pre, Sp.right x = false) : isPath s = false := by
  obtain ⟨x, hx, hr⟩ := h
  have : (Sp.parts s).all Sp.right = false := by
    rw [List.all_eq_false]
    exact ⟨x, hp.subset hx, by simp [hr]⟩
  simp [isPath, this]
theorem is_yes {s : List UInt8} (h1 : s.length ≤ 1024) (h2 : Sp.clean s = s) (h3 : ∀ x ∈ Sp.parts s, Sp.right x = true) : isPath s = true := by
  simp [isPath, h1, h2]
  exact h3

set_option maxRecDepth 100000 in
set_option maxHeartbeats 4000000 in
theorem is_in (n : Nat) (hn : 4 ≤ n) (s : ByteArray) (w : World) (hs : s.size < 4294967281) :
    CallsIn Fence.wide n Tryd.prog 55 #[.string s] w fun e W' => e = .returned (.bool (isPath s.data.toList)) ∧ Below w.heap.size w W' := by
  have h1 : 1 ≤ n := by omega
  obtain ⟨r, hr⟩ : ∃ r, isPath s.data.toList = r := ⟨_, rfl⟩
  rw [hr]
  have HR := Lib.hid hr
  clear hr
  have HC := Lib.hid (clean_in (n - 1) (by omega) s (w := w.alloc (.cells #[.bool false] 4)) (by omega))
  have b0 := Boxed.new w 4 (.bool false)
  have c0 := b0.cell
  have f0 := b0.frozen
  have B0 : Below w.heap.size w (w.alloc (.cells #[.bool false] 4)) := (Below.refl _ w).alloc (Nat.le_refl _) _
  refine callsIn_of_wp_marks Tryd.func55 rfl trivial ?_ rfl
  simp only [Tryd.ntmps55, List.size_toArray, List.length_cons, List.length_nil, Nat.reduceAdd, Nat.reduceSub, Array.replicate_succ, Array.replicate_zero, List.push_toArray, List.append_toArray, List.nil_append, List.cons_append]
  by_cases hl : (1024 : Int) < (s.size : Int)
  · have hla : decide ((1024 : Int) < (s.size : Int)) = true := decide_eq_true hl
    clear HC
    gi_wp2
    refine ⟨trivial, ?_⟩
    gi_wp2
    refine ⟨_, is_result b0 rfl, ?_, B0⟩
    rw [← HR.out, is_no1 (by rw [← Sp.size_eq]; omega)]
  · have hla : decide ((1024 : Int) < (s.size : Int)) = false := decide_eq_false hl
    obtain ⟨c, hcl⟩ : ∃ c, Sp.mk (Sp.clean s.data.toList) = c := ⟨_, rfl⟩
    rw [hcl] at HC
    by_cases hq : c = s
    · have hqa : (c.toList == s.toList) = true := by rw [hq]; simp
      have hqb : (c.toList != s.toList) = false := by rw [hq]; simp
      have hcs : Sp.clean s.data.toList = s.data.toList := by rw [hq] at hcl; exact Sp.mk_inj (hcl.trans (Sp.mk_of s).symm)
      have HCS := Lib.hid hcs
      clear hcs hcl
      subst hq
      gi_wp2_with (refine ⟨trivial, ?_⟩; first | (gi_at_call 69; refine HC.out.mono ?_; rintro e W1 ⟨rfl, hb1⟩; have b1 := Lib.hid (show Boxed W1 w.heap.size 4 (.bool false) from (hb1.block _ b0.lt).trans b0); have B1 := Lib.hid (B0.trans (hb1.mono B0.size)); have c1 := b1.out.cell; have f1 := b1.out.frozen; have z1 := hb1.size) | (gi_at_call 70; refine (parts_maker (n - 1) _ _).mono ?_; rintro e w' ⟨rfl, rfl⟩))
      rw [World.size_alloc] at z1
      have bN := Boxed.new W1 9 (.string c)
      rw [← Sp.mk_of c] at bN
      refine Rg.wpIn_range rfl h1 (gf := 83) (lb := #[.pointer (some ⟨W1.heap.size, 0, none⟩)]) rfl trivial (enters_of Tryd.func83 (by kernel_rfl) rfl)
        (iter (n - 1) (by omega) W1.heap.size c.data.toList _ (by rw [← Sp.size_eq]; omega) bN) (by simp) (Below.refl _ _) (fun _ => rfl)
        (InvIs w) (InvNo w) (box_own w _ (by simp; omega) _) (fun c => box_own w _ (by simp; omega) _) (fun pre W v h => ⟨⟨h.1.1.other (by omega) _, h.1.2.setCell (p := ⟨W1.heap.size, 0, none⟩) (by simp; omega) v⟩, h.2⟩)
        ⟨⟨b1.out.alloc _, B1.out.alloc B1.out.size _⟩, by simp⟩
        (fun x => { tmps := #[.string c, undef, .pointer (some ⟨w.heap.size, 0, none⟩), .string (Sp.mk x), .string c, .int .i64 c.size, .bool false, .bool false, .string c, .string c, .string c, .bool false, .bool false, .string c, .func (.func 83) #[] #[.pointer (some ⟨W1.heap.size, 0, none⟩)], .string (Sp.mk x), undef, undef, undef], defers := [] }) ?assign ?body ?done ?stop
      case assign =>
        intro l x W K hK
        gi_wp2
        exact hK
      case body =>
        rintro l pre x W ⟨⟨hv, hB⟩, hok⟩ hpx
        have hxs : (Sp.mk x).size < 4294967281 := by
          have h1 := Sp.mem_room (hpx.subset (List.mem_append_right pre List.mem_cons_self))
          have h2 := Sp.parts_room c.data.toList
          rw [← Sp.size_eq] at h2
          rw [Sp.mk_size]
          omega
        have hrc := right_calls (Sp.mk x) hxs
        rw [Sp.mk_data] at hrc
        obtain ⟨b, hb⟩ : ∃ b, Sp.right x = b := ⟨_, rfl⟩
        rw [hb] at hrc
        have HRC := Lib.hid hrc
        have HB := Lib.hid hb
        have HOK := Lib.hid hok
        clear hrc hb hok
        cases b
        · gi_wp2
          refine ⟨trivial, fun _ => (by omega), ?_⟩
          refine (CallsIn.inRound l (callsIn_wide.2 (HRC.out _))).mono ?_
          rintro e W3 ⟨rfl, hw3⟩
          have b3 := Lib.hid (show Boxed W3 w.heap.size 4 (.bool false) from (hw3.block _ hv.lt).trans hv)
          have c3 := b3.out.cell
          have f3 := b3.out.frozen
          gi_wp2
          exact ⟨(below_others hw3).trans (KeepsOthers.setCell _ _ _), ⟨b3.out.set _, (hB.trans (hw3.mono hB.size)).setCell (p := ⟨w.heap.size, 0, none⟩) (Nat.le_refl _) _⟩, rfl, x, by simp, HB.out⟩
        · gi_wp2
          refine ⟨trivial, fun _ => (by omega), ?_⟩
          refine (CallsIn.inRound l (callsIn_wide.2 (HRC.out _))).mono ?_
          rintro e W3 ⟨rfl, hw3⟩
          have b3 := Lib.hid (show Boxed W3 w.heap.size 4 (.bool false) from (hw3.block _ hv.lt).trans hv)
          gi_wp2
          exact ⟨below_others hw3, fun v hv2 => (hw3.block _ hv2.lt).trans hv2, ⟨b3.out, hB.trans (hw3.mono hB.size)⟩, fun y hy => by rcases List.mem_append.1 hy with h | h; exact HOK.out y h; simp at h; rw [h]; exact HB.out⟩
      case done =>
        rintro D W hD ⟨⟨hv, hB⟩, hok⟩ hK
        have hc := hv.cell
        have hf := hv.frozen
        have hDB : w.heap.size ≠ D := by simp at hD; omega
        have HOK := Lib.hid hok
        clear hok
        gi_wp2
        have hK2 := (KeepsOthers.setCell W ⟨w.heap.size, 0, none⟩ (.bool true)).same D _ hK rfl
        refine ⟨by simp, .inl ⟨_, _, rfl, run_takeDeferred hK2, ?_⟩⟩
        refine ⟨_, is_result (Rg.boxed_putObj (hv.set _) _ hDB) rfl, ?_, (hB.setCell (p := ⟨w.heap.size, 0, none⟩) (Nat.le_refl _) _).trans (belowK_b (w := w) (Nat.le_refl _) _ D _ _ (by simp at hD; omega) hK2 rfl rfl)⟩
        rw [← HR.out, is_yes (by rw [← Sp.size_eq]; omega) HCS.out HOK.out]
      case stop =>
        rintro D c pre W hD hpre ⟨⟨hv, hB⟩, rfl, hno⟩ hK
        have hDB : w.heap.size ≠ D := by simp at hD; omega
        have HNO := Lib.hid hno
        clear hno
        gi_wp2
        refine ⟨by simp, .inl ⟨_, _, rfl, run_takeDeferred hK, ?_⟩⟩
        refine ⟨_, is_result (Rg.boxed_putObj hv _ hDB) rfl, ?_, hB.trans (belowK_b (w := w) (Nat.le_refl _) _ D _ _ (by simp at hD; omega) hK rfl rfl)⟩
        rw [← HR.out, is_no3 hpre HNO.out]
    · have hqa : (c.toList == s.toList) = false := by
        rw [Lib.toList_data, Lib.toList_data]
        simpa using fun h => hq (by rw [← Sp.mk_of c, ← Sp.mk_of s, h])
      have hqb : (c.toList != s.toList) = true := by
        rw [Lib.toList_data, Lib.toList_data]
        simpa using fun h => hq (by rw [← Sp.mk_of c, ← Sp.mk_of s, h])
      have hcs : ¬ Sp.clean s.data.toList = s.data.toList := fun h => hq (by rw [← hcl, h, Sp.mk_of])
      have HCS := Lib.hid hcs
      clear hcs hcl hq
      gi_wp2_with (refine ⟨trivial, ?_⟩; gi_at_call 69; refine HC.out.mono ?_; rintro e W1 ⟨rfl, hb1⟩; have b1 := Lib.hid (show Boxed W1 w.heap.size 4 (.bool false) from (hb1.block _ b0.lt).trans b0); have B1 := Lib.hid (B0.trans (hb1.mono B0.size)); have c1 := b1.out.cell; have f1 := b1.out.frozen)
      refine ⟨_, is_result (b1.out.set _) rfl, ?_, B1.out.setCell (p := ⟨w.heap.size, 0, none⟩) (Nat.le_refl _) _⟩
      rw [← HR.out, is_no2 HCS.out]
end Go.Proofs.YtocpdhbkfgolfaaDoor.Pa
