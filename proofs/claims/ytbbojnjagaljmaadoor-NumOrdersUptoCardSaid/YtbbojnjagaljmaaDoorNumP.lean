/- Layer 1 walked: numbers told and parsed; lives; NumTexts and NumBack. -/
import Derived.Test.YtbbojnjagaljmaaDoorNumV
import Derived.Lib.AppendIntMem
namespace Go.Proofs.YtbbojnjagaljmaaDoor.Nu
open Go Go.RowKit Go.Shelf Go.Proofs Go.Proofs.YtbbojnjagaljmaaDoor Go.Proofs.YtbbojnjagaljmaaDoorW.PrintWords Go.Proofs.YtbbojnjagaljmaaDoor.Pu Go.Proofs.YtbbojnjagaljmaaDoor.X
set_option linter.unusedVariables false
set_option linter.unusedSimpArgs false
/-- What the walks read of the world: the error of a number that is too great, and the table of tens. -/
structure WT (w : World) : Prop where
  err : ∃ te pe, w.var? Tryd.prog "strconv.ErrRange" = some #[.iface te pe]
  tab : Lib.TabIs Tryd.prog w "internal/strconv.uint64pow10" .u64 Lib.pow10Tab
theorem WT.below {w W : World} (h : WT w) (hb : Below w.heap.size w W) : WT W := by
  obtain ⟨⟨te, pe, h1⟩, h2⟩ := h
  exact ⟨⟨te, pe, Joins.var_stays (g := 1) (by kernel_rfl) h1 hb (Nat.le_refl _)⟩, Joins.tab_stays (g := 4) (by kernel_rfl) h2 hb (Nat.le_refl _)⟩
abbrev tenD : ByteArray := ⟨#[48, 49, 50, 51, 52, 53, 54, 55, 56, 57]⟩
theorem ten_isD (c : UInt8) : tenD.data.toList.contains c = isD c := by
  have : ∀ n : Fin 256, tenD.data.toList.contains (UInt8.ofNat n.val) = isD (UInt8.ofNat n.val) := by decide +kernel
  have h := this ⟨c.toNat, c.toNat_lt⟩
  simpa using h
theorem drop_nil {p : UInt8 → Bool} : ∀ {l : List UInt8}, l.dropWhile p = [] ↔ ∀ c ∈ l, p c = true
  | [] => by simp
  | a :: l => by
    rw [List.dropWhile_cons]
    by_cases h : p a = true
    · rw [if_pos h, drop_nil]; simp [h]
    · rw [if_neg h]; simp [h]
theorem trim_nil (l : List UInt8) : Lib.trimS l tenD.data.toList = [] ↔ l.all isD = true := by
  unfold Lib.trimS Lib.trimLeftS Lib.trimRightS
  have e : (fun x => tenD.data.toList.contains x) = isD := funext ten_isD
  rw [e, drop_nil, List.all_eq_true]
  constructor
  · intro h
    have h2 : l.reverse.dropWhile isD = [] := by
      cases hd : l.reverse.dropWhile isD with
      | nil => rfl
      | cons a t =>
        have ha : isD a = false := by
          have := List.head_dropWhile_not (p := isD) (l := l.reverse) (by rw [hd]; simp)
          simp only [hd, List.head_cons] at this
          simpa using this
        have := h a (by rw [hd]; simp)
        rw [ha] at this; cases this
    intro c hc
    exact drop_nil.1 h2 c (by simpa using hc)
  · intro h c hc
    have : c ∈ l.reverse := (List.dropWhile_sublist _).subset (by simpa using hc)
    exact h c (by simpa using this)
theorem text_calls (n : Int) (w : World) (h0 : -9223372036854775808 ≤ n) (h1 : n ≤ 9223372036854775807) (hW : WT w) :
    Calls Tryd.prog 8 #[.int .i64 n] w fun e w' => e = .returned (.string (Sp.mk (Lib.itoa n))) ∧ Below w.heap.size w w' := by
  have HT := Lib.hid (Tryd.strconv_Itoa n h0 h1 w hW.tab)
  go_enter Tryd.func8, Tryd.ntmps8
  go_wp2_with (go_at_call 19; refine HT.out.mono ?_; rintro e w2 ⟨rfl, hg⟩)
  go_ret
  obtain ⟨k, os, rfl⟩ := hg
  exact ⟨rfl, Lib.below_grow _ w (Nat.le_refl _) k os⟩
set_option maxHeartbeats 2000000 in
set_option maxRecDepth 100000 in
theorem parse_calls (s : ByteArray) (low high : Int) (w : World) (hs : s.size < 4294967281) (hW : WT w) :
    Calls Tryd.prog 6 #[.string s, .int .i64 low, .int .i64 high] w fun e w' => e = .returned (.tuple #[.int .i64 (numP s.data.toList low high).1, .int .i64 (numP s.data.toList low high).2]) ∧ Below w.heap.size w w' := by
  have hml : (magL s.data.toList).length ≤ s.size := by
    unfold magL
    rw [Sp.size_eq]
    split
    · rw [List.length_tail]; omega
    · omega
  have HTP : Hid (∀ W, Calls Tryd.prog 15 #[.string s, .string ⟨#[45]⟩] W fun e w' => e = .returned (.string (Sp.mk (magL s.data.toList))) ∧ W = w') := Lib.hid (fun W => (Tryd.strings_TrimPrefix s ⟨#[45]⟩ W).mono fun e w' ⟨h1, h2⟩ => ⟨by rw [h1, show (⟨#[45]⟩ : ByteArray).data.toList = [45] from rfl, trim_mag]; rfl, h2.symm⟩)
  obtain ⟨F, hF⟩ : ∃ F, F = Sp.mk (magL s.data.toList) := ⟨_, rfl⟩
  have hFd : F.data.toList = magL s.data.toList := by rw [hF, Sp.mk_data]
  rw [← hF] at HTP
  have HTR : Hid (∀ W, Calls Tryd.prog 16 #[.string F, .string tenD] W fun e w' => e = .returned (.string ⟨(Lib.trimS F.data.toList tenD.data.toList).toArray⟩) ∧ Below W.heap.size W w') := Lib.hid (fun W => Any.strings_Trim_laid Tryd.lays160 (by kernel_rfl) F tenD W (by rw [Sp.size_eq, hFd]; omega) (by decide) (fun j b h => by
    have hm := List.mem_of_getElem? h
    have := (ten_isD b).symm.trans (List.contains_iff_mem.2 hm)
    have := of_decide_eq_true this
    omega))
  have hP0 : goodN s.data.toList = (decide (F.data.toList ≠ []) && (F.data.toList.all isD && !(decide (F.data.toList.head? = some 48 ∧ s.data.toList ≠ [48])))) := by unfold goodN; rw [hFd]
  have HAT := fun (h : goodN s.data.toList = true) => atoi_good h
  by_cases h1 : F.data.toList = []
  · have hp : numP s.data.toList low high = (0, 3) := by unfold numP; rw [hP0, h1]; simp
    rw [hp]
    have e1 : (F.toList == []) = true := by rw [toL, h1]; rfl
    have e2 : F.toList.isEmpty = true := by rw [toL, h1]; rfl
    clear hP0 HAT hFd hF hp hml
    go_enter Tryd.func6, Tryd.ntmps6
    go_wp2_with (go_at_call 15; refine (HTP.out _).mono ?_; rintro e w2 ⟨rfl, rfl⟩)
    go_ret2
    exact ⟨rfl, Below.refl _ _⟩
  · have e1 : (F.toList == []) = false := by rw [toL]; simpa using h1
    have e2 : F.toList.isEmpty = false := by rw [toL]; simpa using h1
    have hz : 0 < F.size := by rw [Sp.size_eq]; exact List.length_pos_iff.2 h1
    cases h2 : F.data.toList.all isD with
    | false =>
      have hp : numP s.data.toList low high = (0, 3) := by unfold numP; rw [hP0, h2]; simp
      rw [hp]
      have hne : Lib.trimS F.data.toList tenD.data.toList ≠ [] := fun h => by rw [(trim_nil _).1 h] at h2; cases h2
      generalize hG : (⟨(Lib.trimS F.data.toList tenD.data.toList).toArray⟩ : ByteArray) = G at HTR
      have hGn : G.toList ≠ [] := by rw [toL, ← hG]; simpa using hne
      have e3 : (G.toList == []) = false := by simpa using hGn
      have e4 : G.toList.isEmpty = false := by simpa using hGn
      clear hP0 HAT hFd hF hp hml hne hG hGn h2 h1
      go_enter Tryd.func6, Tryd.ntmps6
      go_wp2_with (first | (go_at_call 15; refine (HTP.out _).mono ?_; rintro e w2 ⟨rfl, rfl⟩) | (go_at_call 16; refine (HTR.out _).mono ?_; rintro e w3 ⟨rfl, hb3⟩))
      go_ret2
      exact ⟨rfl, hb3⟩
    | true =>
      have hnl : Lib.trimS F.data.toList tenD.data.toList = [] := (trim_nil _).2 h2
      rw [hnl] at HTR
      obtain ⟨c, hc, _⟩ := Pu.get_at F (i := 0) hz
      have hh : F.data.toList.head? = some c := by rw [List.head?_eq_getElem?]; exact hc
      have hb := byteAt hc hz
      have hz' : (0 : Int) < (F.size : Int) := by omega
      by_cases h3 : c = 48 ∧ s.data.toList ≠ [48]
      · have hp : numP s.data.toList low high = (0, 3) := by
          unfold numP; rw [hP0, h2, hh, decide_eq_true (show some c = some 48 ∧ s.data.toList ≠ [48] from ⟨by rw [h3.1], h3.2⟩)]; simp
        rw [hp]
        have e5 : ((c.toNat : Int) == 48) = true := by rw [h3.1]; rfl
        have e6 : (s.toList != [48]) = true := by rw [toL]; simpa using h3.2
        have e7 : (s.toList == [48]) = false := by rw [toL]; simpa using h3.2
        clear hP0 HAT hFd hF hp hml hc hh h3 h2 h1 hnl
        subst hb
        go_enter Tryd.func6, Tryd.ntmps6
        go_wp2_with (first | (go_at_call 15; refine (HTP.out _).mono ?_; rintro e w2 ⟨rfl, rfl⟩) | (go_at_call 16; refine (HTR.out _).mono ?_; rintro e w3 ⟨rfl, hb3⟩))
        go_ret2
        exact ⟨rfl, hb3⟩
      · have hg : goodN s.data.toList = true := by
          rw [hP0, h2, decide_eq_true h1, hh, decide_eq_false (fun h => h3 ⟨by simpa using h.1, h.2⟩)]; rfl
        have hat := HAT hg
        have hnp : numP s.data.toList low high = if overN s.data.toList = true then (0, 4) else if valN s.data.toList < low ∨ valN s.data.toList > high then (0, 4) else (valN s.data.toList, 0) := by unfold numP; rw [if_pos hg]
        rw [hnp]
        have e56 : ((c.toNat : Int) == 48) = false ∨ (((c.toNat : Int) == 48) = true ∧ (s.toList != [48]) = false ∧ (s.toList == [48]) = true) := by
          by_cases h48 : c = 48
          · right
            have hs48 : s.data.toList = [48] := Classical.byContradiction fun h => h3 ⟨h48, h⟩
            exact ⟨by rw [h48]; rfl, by rw [toL, hs48]; rfl, by rw [toL, hs48]; rfl⟩
          · left
            simp only [beq_eq_false_iff_ne]
            intro h
            exact h48 (UInt8.toNat_inj.1 (by have : (48 : UInt8).toNat = 48 := rfl; omega))
        have HW := Lib.hid hW
        clear hP0 HAT hFd hF hml hc hh h3 h2 h1 hnl hg hnp
        generalize valN s.data.toList = n at *
        generalize overN s.data.toList = ov at *
        cases ov with
        | true =>
          rw [if_pos rfl] at hat ⊢
          have HA : Hid (∀ W, WT W → Calls Tryd.prog 17 #[.string s] W fun e w' => ∃ m te N, e = .returned (.tuple #[.int .i64 m, .iface te (.pointer (some ⟨N, 0, none⟩))]) ∧ Below W.heap.size W w') := Lib.hid (fun W hw => by
            obtain ⟨te, pe, hv⟩ := hw.err
            refine (Tryd.strconv_Atoi_range_var s (by omega) hat te pe W hv).mono ?_
            rintro e w' ⟨N, he, _, _, hb⟩
            exact ⟨_, _, N, he, hb⟩)
          clear hat
          subst hb
          rcases e56 with e5 | ⟨e5, e6, e7⟩
          all_goals
            go_enter Tryd.func6, Tryd.ntmps6
            go_wp2_with (first | (go_at_call 15; refine (HTP.out _).mono ?_; rintro e w2 ⟨rfl, rfl⟩) | (go_at_call 16; refine (HTR.out _).mono ?_; rintro e w3 ⟨rfl, hb3⟩) | (go_at_call 17; refine (HA.out _ (HW.out.below hb3)).mono ?_; rintro e w4 ⟨m4, t4, N4, rfl, hb4⟩))
            go_ret2
            exact ⟨rfl, hb3.trans (hb4.mono hb3.size)⟩
        | false =>
          rw [if_neg (by simp)] at hat ⊢
          have HA : Hid (∀ W, Calls Tryd.prog 17 #[.string s] W fun e w' => e = .returned (.tuple #[.int .i64 n, .nilIface]) ∧ Below W.heap.size W w') := Lib.hid (fun W => by
            refine (Tryd.strconv_Atoi_ok s (by omega) n hat W).mono ?_
            rintro e w' ⟨he, rfl | ⟨t, rfl⟩⟩
            · exact ⟨he, Below.refl _ _⟩
            · exact ⟨he, Lib.bytesWorld_below _ _ _⟩)
          clear hat
          subst hb
          by_cases hlo : n < low
          · rw [if_pos (.inl hlo)]
            rcases e56 with e5 | ⟨e5, e6, e7⟩
            all_goals
              go_enter Tryd.func6, Tryd.ntmps6
              go_wp2_with (first | (go_at_call 15; refine (HTP.out _).mono ?_; rintro e w2 ⟨rfl, rfl⟩) | (go_at_call 16; refine (HTR.out _).mono ?_; rintro e w3 ⟨rfl, hb3⟩) | (go_at_call 17; refine (HA.out _).mono ?_; rintro e w4 ⟨rfl, hb4⟩))
              go_ret2
              exact ⟨rfl, hb3.trans (hb4.mono hb3.size)⟩
          · have hlo' : low ≤ n := by omega
            by_cases hhi : high < n
            · rw [if_pos (.inr hhi)]
              clear hlo
              rcases e56 with e5 | ⟨e5, e6, e7⟩
              all_goals
                go_enter Tryd.func6, Tryd.ntmps6
                go_wp2_with (first | (go_at_call 15; refine (HTP.out _).mono ?_; rintro e w2 ⟨rfl, rfl⟩) | (go_at_call 16; refine (HTR.out _).mono ?_; rintro e w3 ⟨rfl, hb3⟩) | (go_at_call 17; refine (HA.out _).mono ?_; rintro e w4 ⟨rfl, hb4⟩))
                go_ret2
                exact ⟨rfl, hb3.trans (hb4.mono hb3.size)⟩
            · rw [if_neg (by omega)]
              have hhi' : n ≤ high := by omega
              clear hlo hhi
              rcases e56 with e5 | ⟨e5, e6, e7⟩
              all_goals
                go_enter Tryd.func6, Tryd.ntmps6
                go_wp2_with (first | (go_at_call 15; refine (HTP.out _).mono ?_; rintro e w2 ⟨rfl, rfl⟩) | (go_at_call 16; refine (HTR.out _).mono ?_; rintro e w3 ⟨rfl, hb3⟩) | (go_at_call 17; refine (HA.out _).mono ?_; rintro e w4 ⟨rfl, hb4⟩))
                go_ret2
                exact ⟨rfl, hb3.trans (hb4.mono hb3.size)⟩
end Go.Proofs.YtbbojnjagaljmaaDoor.Nu
