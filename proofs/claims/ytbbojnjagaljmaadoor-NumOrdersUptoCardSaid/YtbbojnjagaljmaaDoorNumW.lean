/- Layer 1 walked: digits, parts of texts, the natural order, numbers parsed. -/
import Derived.Test.YtbbojnjagaljmaaDoorNumC
import Derived.Test.YtbbojnjagaljmaaDoorShelf
import Derived.Test.YtbbojnjagaljmaaDoorX5
import Derived.Shelf.Strings.SlTrimAscii
import Derived.Lib.SmallJoins
import Derived.Lib.Hide
import Derived.Deep.QuietTactic
import Derived.BigQuiet
namespace Go.Proofs.YtbbojnjagaljmaaDoor.Nu
open Go Go.RowKit Go.Shelf Go.Proofs Go.Proofs.YtbbojnjagaljmaaDoor Go.Proofs.YtbbojnjagaljmaaDoorW.PrintWords Go.Proofs.YtbbojnjagaljmaaDoor.Pu Go.Proofs.YtbbojnjagaljmaaDoor.X
set_option linter.unusedVariables false
set_option linter.unusedSimpArgs false
/-- What the walks read of the world: the error of a number that is too great. -/
def WN (w : World) : Prop := ∃ te pe, w.cell? ⟨1, 0, none⟩ = some (.iface te pe)
theorem WN.below {w W : World} (h : WN w) (hb : Below w.heap.size w W) : WN W := by
  obtain ⟨te, pe, hc⟩ := h
  exact ⟨te, pe, by rw [hb.cell (p := ⟨1, 0, none⟩) (World.block_lt_of_cell? w _ hc)]; exact hc⟩
theorem digit_yes (c : UInt8) (w : World) (h : isD c = true) : Calls Tryd.prog 21 #[.int .u8 (c.toNat : Int)] w fun e w' => e = .returned (.bool true) ∧ w = w' := by
  have h := of_decide_eq_true h
  have h1 : (48 : Int) ≤ (c.toNat : Int) := by omega
  have h2 : (c.toNat : Int) ≤ 57 := by omega
  clear h
  go_enter Tryd.func21, Tryd.ntmps21
  go_wp2
  go_ret
  exact ⟨rfl, rfl⟩
theorem digit_no (c : UInt8) (w : World) (h : isD c = false) : Calls Tryd.prog 21 #[.int .u8 (c.toNat : Int)] w fun e w' => e = .returned (.bool false) ∧ w = w' := by
  have h := of_decide_eq_false h
  by_cases h1 : (48 : Int) ≤ (c.toNat : Int)
  · have h2 : (57 : Int) < (c.toNat : Int) := by omega
    have d2 : decide ((c.toNat : Int) ≤ 57) = false := decide_eq_false (by omega)
    clear h
    go_enter Tryd.func21, Tryd.ntmps21
    go_wp2
    go_ret
    exact ⟨rfl, rfl⟩
  · have h2 : (c.toNat : Int) < 48 := by omega
    have d2 : decide ((48 : Int) ≤ (c.toNat : Int)) = false := decide_eq_false (by omega)
    clear h h1
    go_enter Tryd.func21, Tryd.ntmps21
    go_wp2
    go_ret
    exact ⟨rfl, rfl⟩
def runN (l : List UInt8) : Nat := (l.takeWhile isD).length
theorem runN_le (l : List UInt8) : runN l ≤ l.length := (List.takeWhile_prefix _).length_le
theorem runN_in {l : List UInt8} {k : Nat} (h : k < runN l) : ∃ c, l[k]? = some c ∧ isD c = true := by
  unfold runN at h
  have hp : (l.takeWhile isD)[k] = l[k]'(Nat.lt_of_lt_of_le h (runN_le l)) := by
    obtain ⟨t, ht⟩ := List.takeWhile_prefix (p := isD) (l := l)
    conv => rhs; rw [List.getElem_of_eq ht.symm]
    rw [List.getElem_append_left h]
  have hm := List.getElem_mem h
  have := List.all_takeWhile (p := isD) (l := l)
  exact ⟨_, List.getElem?_eq_getElem (Nat.lt_of_lt_of_le h (runN_le l)), by rw [← hp]; exact List.all_eq_true.1 this _ hm⟩
theorem runN_out {l : List UInt8} (h : runN l < l.length) : ∃ c, l[runN l]? = some c ∧ isD c = false := by
  induction l with
  | nil => simp at h
  | cons a l ih =>
    by_cases ha : isD a = true
    · have e : runN (a :: l) = runN l + 1 := by unfold runN; rw [List.takeWhile_cons, if_pos ha, List.length_cons]
      rw [e] at h ⊢
      obtain ⟨c, h1, h2⟩ := ih (by simpa using h)
      exact ⟨c, by simpa using h1, h2⟩
    · have e : runN (a :: l) = 0 := by unfold runN; rw [List.takeWhile_cons, if_neg ha]; rfl
      rw [e]
      exact ⟨a, rfl, by simpa using ha⟩
def cutN (l : List UInt8) : Nat := if runN l = 0 then 1 else runN l
theorem byteAt {s : ByteArray} {k : Nat} {c : UInt8} (h : s.data.toList[k]? = some c) (hk : k < s.size) : s[k] = c := by
  have := Lib.data_getElem? s k hk
  rw [h] at this
  exact (Option.some.inj this).symm
set_option maxHeartbeats 1000000 in
theorem cut_calls (s : ByteArray) (w : World) (hs : s.size < 4294967296) (h0 : 0 < s.size) :
    Calls Tryd.prog 20 #[.string s, .func (.func 21) #[] #[]] w fun e w' => e = .returned (.tuple #[.string (s.extract 0 (cutN s.data.toList)), .string (s.extract (cutN s.data.toList) s.size)]) ∧ Below w.heap.size w w' := by
  have hR := runN_le s.data.toList
  rw [← Sp.size_eq] at hR
  obtain ⟨R, hRe⟩ : ∃ R, R = runN s.data.toList := ⟨_, rfl⟩
  have HIN := Lib.hid (fun k (h : k < R) => runN_in (l := s.data.toList) (k := k) (by omega))
  have HOUT := Lib.hid (fun (h : R < s.size) => by have := runN_out (l := s.data.toList) (by rw [← Sp.size_eq]; omega); rw [← hRe] at this; exact this)
  have HCN := Lib.hid (show cutN s.data.toList = if R = 0 then 1 else R by unfold cutN; rw [hRe])
  rw [← hRe] at hR
  clear hRe
  go_enter Tryd.func20, Tryd.ntmps20
  go_wp2
  go_loop [6] (fun v => ∃ k : Nat, k ≤ R ∧ v = .int .i64 (k : Int)) (fun v => R - (intOf v).toNat)
  case atStart => exact ⟨0, Nat.zero_le _, rfl⟩
  case round =>
    obtain ⟨k, hk, rfl⟩ := hrel
    by_cases hlt : k < R
    · obtain ⟨c, hc, hD⟩ := HIN.out k hlt
      have hb := byteAt hc (by omega)
      have HD := Lib.hid (fun W => digit_yes c W hD)
      have hlt2 : k < s.size := by omega
      clear hc hD
      subst hb
      go_wp2_with (go_at_call 21; refine (HD.out _).mono ?_; rintro e w2 ⟨rfl, rfl⟩)
      go_round
      case rel => exact ⟨k + 1, by omega, by go_num⟩
      case measure => simp [intOf]; omega
    · obtain rfl : k = R := by omega
      have HCN' := HCN.out
      by_cases hz : k = 0
      · rw [if_pos hz] at HCN'
        have HC := Lib.hid HCN'
        have hlt2 : k < s.size := by omega
        obtain ⟨c, hc, hD⟩ := HOUT.out hlt2
        have hb := byteAt hc hlt2
        have HD := Lib.hid (fun W => digit_no c W hD)
        have z0 : ((k : Int) == 0) = true := by simp [hz]
        have s1 : (1 : Int) ≤ (s.size : Int) := by omega
        clear hc hD hlt hk HIN HOUT HCN HCN' hz
        subst hb
        go_upto_region 6 with (go_at_call 21; refine (HD.out _).mono ?_; rintro e w2 ⟨rfl, rfl⟩)
        go_quiet (fail)
        go_wp2
        go_ret2
        exact ⟨by rw [HC.out]; rfl, pw_below_drewN (Below.refl _ _) nq⟩
      · rw [if_neg hz] at HCN'
        have HC := Lib.hid HCN'
        have z0 : ((k : Int) == 0) = false := by simpa using hz
        have s0 : (0 : Int) ≤ (k : Int) := by omega
        have s1 : (k : Int) ≤ (s.size : Int) := by omega
        by_cases hlt2 : k < s.size
        · obtain ⟨c, hc, hD⟩ := HOUT.out hlt2
          have hb := byteAt hc hlt2
          have HD := Lib.hid (fun W => digit_no c W hD)
          clear hc hD hlt hk HIN HOUT HCN HCN' hz
          subst hb
          go_upto_region 6 with (go_at_call 21; refine (HD.out _).mono ?_; rintro e w2 ⟨rfl, rfl⟩)
          go_quiet (fail)
          go_wp2
          go_ret2
          exact ⟨by rw [HC.out]; rfl, pw_below_drewN (Below.refl _ _) nq⟩
        · have hge : (s.size : Int) ≤ (k : Int) := by omega
          clear hlt hk HIN HOUT HCN HCN' hz hlt2
          go_upto_region 6 with (fail)
          go_quiet (fail)
          go_wp2
          go_ret2
          exact ⟨by rw [HC.out]; rfl, pw_below_drewN (Below.refl _ _) nq⟩
def cmpB (a b : ByteArray) : Int := if Op.bytesLess a.toList b.toList = true then -1 else if Op.bytesLess b.toList a.toList = true then 1 else 0
set_option maxHeartbeats 1000000 in
theorem cmpS_calls (a b : ByteArray) (w : World) : Calls Tryd.prog 41 #[.string a, .string b] w fun e w' => e = .returned (.int .i64 (cmpB a b)) ∧ Below w.heap.size w w' := by
  have HN : Hid (∀ (x : ByteArray) W, Calls Tryd.prog 60 #[.string x] W fun e w' => e = .returned (.bool false) ∧ W = w') := Lib.hid (by
    intro x W
    have e : (x.toList != x.toList) = false := by simp
    go_enter Tryd.func60, Tryd.ntmps60
    go_wp2
    go_ret
    exact ⟨rfl, rfl⟩)
  unfold cmpB
  cases h1 : Op.bytesLess a.toList b.toList with
  | true =>
    rw [if_pos rfl]
    go_enter Tryd.func41, Tryd.ntmps41
    go_wp2_with (go_at_call 60; refine (HN.out _ _).mono ?_; rintro e w2 ⟨rfl, rfl⟩)
    go_ret
    exact ⟨rfl, Below.refl _ _⟩
  | false =>
    rw [if_neg (by simp)]
    cases h2 : Op.bytesLess b.toList a.toList with
    | true =>
      rw [if_pos rfl]
      have h3 : (a.toList == b.toList) = false := less_flip h2
      go_enter Tryd.func41, Tryd.ntmps41
      go_wp2_with (go_at_call 60; refine (HN.out _ _).mono ?_; rintro e w2 ⟨rfl, rfl⟩)
      go_ret
      exact ⟨rfl, Below.refl _ _⟩
    | false =>
      rw [if_neg (by simp)]
      have h3 : (a.toList == b.toList) = true := by
        have := less_tot _ _ h2
        rw [h1, Bool.false_or] at this
        exact this
      go_enter Tryd.func41, Tryd.ntmps41
      go_wp2_with (go_at_call 60; refine (HN.out _ _).mono ?_; rintro e w2 ⟨rfl, rfl⟩)
      go_ret
      exact ⟨rfl, Below.refl _ _⟩
def or2 (c d : Int) : Int := if c ≠ 0 then c else d
theorem or_ev (c d : Int) : cmp_Or_int.f 5 [c, d] = some (or2 c d) := by
  have w01 : wrap64 1 = 1 := by unfold wrap64; omega
  have w12 : wrap64 2 = 2 := by unfold wrap64; omega
  unfold cmp_Or_int.f or2
  by_cases h : c = 0
  · by_cases h2 : d = 0
    · subst h h2; simp [cmp_Or_int.l0, rd, rdOf, w01, w12]
    · subst h; simp [cmp_Or_int.l0, rd, rdOf, w01, w12, h2]
  · simp [cmp_Or_int.l0, rd, rdOf, h]
def tlB (a : ByteArray) : ByteArray := Sp.mk (Lib.trimLeftB a.data.toList 48)
def headD (a : ByteArray) : Bool := match a.data.toList.head? with | some c => isD c | none => false
def partF (a b : ByteArray) : Int :=
  if headD a = true ∧ headD b = true then or2 (or2 (Lib.compareInt ((tlB a).size : Int) ((tlB b).size : Int)) (cmpB (tlB a) (tlB b))) (cmpB a b) else cmpB a b
theorem lit2 (W : World) (g : Nat) (c d : Int) (t : TypeId) (h : W.heap[g]? = some (.cells #[.int .i64 c, .int .i64 d] t (0, 0))) : Kd.C (Kd.int .i64) W (some ⟨g, 0, none⟩) 2 [c, d] := by
  refine ⟨rfl, by omega, fun _ => ⟨_, rfl, fun j x hj => ?_⟩⟩
  refine ⟨[.int .i64 x], rfl, rfl, fun i u hu => ?_⟩
  have hi : i = 0 := by cases i with | zero => rfl | succ i => simp at hu
  subst hi
  have hu : u = .int .i64 x := by simpa using hu.symm
  subst hu
  have e : (Kd.int .i64).sz = 1 := rfl
  rw [e, Addr.add_lit, Nat.zero_add, cell_of_row W g _ _ t (0, 0) h]
  match j, hj with
  | 0, hj => simp at hj; subst hj; rfl
  | 1, hj => simp at hj; subst hj; rfl
  | j + 2, hj => simp at hj
set_option maxHeartbeats 2000000 in
set_option maxRecDepth 100000 in
theorem part_calls (a b : ByteArray) (w : World) (ha : 0 < a.size) (hb : 0 < b.size) : Calls Tryd.prog 22 #[.string a, .string b] w fun e w' => e = .returned (.int .i64 (partF a b)) ∧ Below w.heap.size w w' := by
  obtain ⟨c, hc, _⟩ := Pu.get_at a (i := 0) ha
  obtain ⟨d, hd, _⟩ := Pu.get_at b (i := 0) hb
  have ea : headD a = isD c := by unfold headD; rw [List.head?_eq_getElem?, hc]
  have eb : headD b = isD d := by unfold headD; rw [List.head?_eq_getElem?, hd]
  have ca := byteAt hc ha
  have cb := byteAt hd hb
  have HS := Lib.hid cmpS_calls
  have HD1 : Hid (∀ W, Calls Tryd.prog 21 #[.int .u8 (c.toNat : Int)] W fun e w' => e = .returned (.bool (isD c)) ∧ W = w') := Lib.hid (fun W => by
    cases h : isD c with
    | true => exact digit_yes c W h
    | false => exact digit_no c W h)
  have HD2 : Hid (∀ W, Calls Tryd.prog 21 #[.int .u8 (d.toNat : Int)] W fun e w' => e = .returned (.bool (isD d)) ∧ W = w') := Lib.hid (fun W => by
    cases h : isD d with
    | true => exact digit_yes d W h
    | false => exact digit_no d W h)
  have ha' : (0 : Int) < (a.size : Int) := by omega
  have hb' : (0 : Int) < (b.size : Int) := by omega
  subst ca cb
  unfold partF
  rw [ea, eb]
  clear hc hd ea eb
  generalize isD a[0] = x at *
  generalize isD b[0] = y at *
  cases x with
  | false =>
    rw [if_neg (by simp)]
    go_enter Tryd.func22, Tryd.ntmps22
    go_wp2_with (first | (go_at_call 21; refine (HD1.out _).mono ?_; rintro e w2 ⟨rfl, rfl⟩) | (go_at_call 41; refine (HS.out _ _ _).mono ?_; rintro e w2 ⟨rfl, hb2⟩))
    go_ret
    exact ⟨rfl, hb2⟩
  | true =>
    cases y with
    | false =>
      rw [if_neg (by simp)]
      go_enter Tryd.func22, Tryd.ntmps22
      go_wp2_with (first | (go_at_call 21; first | ((with_reducible refine (HD1.out _).mono ?_); rintro e w2 ⟨rfl, rfl⟩) | ((with_reducible refine (HD2.out _).mono ?_); rintro e w2 ⟨rfl, rfl⟩)) | (go_at_call 41; refine (HS.out _ _ _).mono ?_; rintro e w2 ⟨rfl, hb2⟩))
      go_ret
      exact ⟨rfl, hb2⟩
    | true =>
      rw [if_pos ⟨rfl, rfl⟩]
      have HTL : Hid (∀ (s : ByteArray) W, Calls Tryd.prog 39 #[.string s, .string ⟨#[48]⟩] W fun e w' => e = .returned (.string (tlB s)) ∧ W = w') := Lib.hid (fun s W => (Tryd.strings_TrimLeft_one s 48 (by decide) W).mono fun e w' ⟨h1, h2⟩ => ⟨h1, h2.symm⟩)
      have HCI : Hid (∀ (x y : Int) W, Calls Tryd.prog 23 #[.int .i64 x, .int .i64 y] W fun e w' => e = .returned (.int .i64 (Lib.compareInt x y)) ∧ W = w') := Lib.hid (fun x y W => (Tryd.cmp_Compare_int x y W).mono fun e w' ⟨h1, h2⟩ => ⟨h1, h2.symm⟩)
      have HOR : Hid (∀ (W : World) (g : Nat) (c d : Int), W.heap[g]? = some (.cells #[.int .i64 c, .int .i64 d] 3 (0, 0)) → Calls Tryd.prog 40 #[.slice (some ⟨g, 0, none⟩) 2 2] W fun e w' => e = .returned (.int .i64 (or2 c d)) ∧ Drawn0 W w') := Lib.hid (fun W g c d h => cmp_Or_int.calls 5 (some ⟨g, 0, none⟩) 2 [c, d] (or2 c d) W (lit2 W g c d 3 h) (Nat.le_refl _) (or_ev c d))
      generalize hq : or2 (Lib.compareInt ((tlB a).size : Int) ((tlB b).size : Int)) (cmpB (tlB a) (tlB b)) = q
      have HQ := Lib.hid hq
      clear hq
      by_cases hz : q = 0
      · subst hz
        rw [show or2 0 (cmpB a b) = cmpB a b from rfl]
        go_enter Tryd.func22, Tryd.ntmps22
        go_wp2_with (first
          | (go_at_call 21; first | ((with_reducible refine (HD1.out _).mono ?_); rintro e w2 ⟨rfl, rfl⟩) | ((with_reducible refine (HD2.out _).mono ?_); rintro e w2 ⟨rfl, rfl⟩))
          | (go_at_call 39; refine (HTL.out _ _).mono ?_; rintro e w2 ⟨rfl, rfl⟩)
          | (go_at_call 23; refine (HCI.out _ _ _).mono ?_; rintro e w2 ⟨rfl, rfl⟩)
          | (go_at_call 40; refine (HOR.out _ _ _ _ (heap_alloc_new _ _)).mono ?_; rintro e w3 ⟨rfl, hd3⟩; rw [HQ.out]; have HB3 := Lib.hid ((HB2.out.trans (((Below.refl _ _).alloc (Nat.le_refl _) (.cells #[.int .i64 (Lib.compareInt ((tlB a).size : Int) ((tlB b).size : Int)), .int .i64 (cmpB (tlB a) (tlB b))] 3)).mono HB2.out.size)).trans (hd3.below.mono (Nat.le_trans HB2.out.size (by simp)))); clear hd3)
          | (go_at_call 41; refine (HS.out _ _ _).mono ?_; rintro e w2 ⟨rfl, hb2⟩; (first | (have HB4 := Lib.hid (HB3.out.trans (hb2.mono HB3.out.size)); clear hb2) | (have HB2 := Lib.hid hb2; clear hb2))))
        go_ret
        exact ⟨rfl, HB4.out⟩
      · have hz' : (q != 0) = true := bne_iff_ne.2 hz
        rw [show or2 q (cmpB a b) = q from if_pos hz]
        clear hz
        go_enter Tryd.func22, Tryd.ntmps22
        go_wp2_with (first
          | (go_at_call 21; first | ((with_reducible refine (HD1.out _).mono ?_); rintro e w2 ⟨rfl, rfl⟩) | ((with_reducible refine (HD2.out _).mono ?_); rintro e w2 ⟨rfl, rfl⟩))
          | (go_at_call 39; refine (HTL.out _ _).mono ?_; rintro e w2 ⟨rfl, rfl⟩)
          | (go_at_call 23; refine (HCI.out _ _ _).mono ?_; rintro e w2 ⟨rfl, rfl⟩)
          | (go_at_call 40; refine (HOR.out _ _ _ _ (heap_alloc_new _ _)).mono ?_; rintro e w3 ⟨rfl, hd3⟩; rw [HQ.out]; have HB3 := Lib.hid ((HB2.out.trans (((Below.refl _ _).alloc (Nat.le_refl _) (.cells #[.int .i64 (Lib.compareInt ((tlB a).size : Int) ((tlB b).size : Int)), .int .i64 (cmpB (tlB a) (tlB b))] 3)).mono HB2.out.size)).trans (hd3.below.mono (Nat.le_trans HB2.out.size (by simp)))); clear hd3)
          | (go_at_call 41; refine (HS.out _ _ _).mono ?_; rintro e w2 ⟨rfl, hb2⟩; (first | (have HB4 := Lib.hid (HB3.out.trans (hb2.mono HB3.out.size)); clear hb2) | (have HB2 := Lib.hid hb2; clear hb2))))
        go_ret
        exact ⟨rfl, HB3.out⟩
end Go.Proofs.YtbbojnjagaljmaaDoor.Nu
