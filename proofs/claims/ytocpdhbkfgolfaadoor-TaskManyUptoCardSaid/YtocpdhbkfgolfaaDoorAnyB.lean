/- strings.ContainsAny at a cutset of ASCII bytes, and whatever string. -/
import Derived.Test.YtocpdhbkfgolfaaDoorSpec
import Derived.Test.YtocpdhbkfgolfaaDoorShelf
import Derived.Lib.OthersKept
import Derived.Lib.TrimU
import Derived.Deep.LoopGhost
import Derived.WalkKit
import Derived.WalkSpells
import Derived.Deep.QuietTactic
import Derived.BigQuiet
import Derived.Lib.Hide
import Derived.Laws.Runes
import Derived.IntWalk
import Derived.WalkMore
namespace Go.Proofs.YtocpdhbkfgolfaaDoor.An
open Go Go.RowKit Go.Proofs Go.Proofs.YtocpdhbkfgolfaaDoor
set_option linter.unusedVariables false
set_option linter.unusedSimpArgs false

theorem below_dn {B : Nat} {a w : World} (h : Below B a w) (n : Nat) : Below B a (w.drewN n) := h.trans ⟨rfl, rfl, rfl, Nat.le_refl _, fun _ _ => rfl⟩
def Ascii (s : ByteArray) : Prop := ∀ (j : Nat) b, s.data.toList[j]? = some b → b.toNat < 128
theorem Ascii.at_ {s : ByteArray} (h : Ascii s) (j : Nat) (hj : j < s.size) : (s[j]'hj).toNat < 128 := h j _ (Lib.data_getElem? s j hj)

/-- A rune from 128 on takes two bytes or more, none of them below 128. -/
theorem encode_high {r : Int} (h0 : 128 ≤ r) (h1 : r ≤ 1114111) : 2 ≤ (Utf8.encode r).size ∧ (Utf8.encode r).size ≤ 4 ∧ ∀ (j : Nat) (hj : j < (Utf8.encode r).size), 128 ≤ ((Utf8.encode r)[j]'hj).toNat := by
  have key : ∀ c : Nat, 128 ≤ c → c ≤ 1114111 → ∀ s : ByteArray, s = (if c < 0x80 then (⟨#[UInt8.ofNat c]⟩ : ByteArray) else if c < 0x800 then ⟨#[UInt8.ofNat (0xC0 + c / 64), UInt8.ofNat (0x80 + c % 64)]⟩ else if c < 0x10000 then ⟨#[UInt8.ofNat (0xE0 + c / 4096), UInt8.ofNat (0x80 + c / 64 % 64), UInt8.ofNat (0x80 + c % 64)]⟩ else ⟨#[UInt8.ofNat (0xF0 + c / 262144), UInt8.ofNat (0x80 + c / 4096 % 64), UInt8.ofNat (0x80 + c / 64 % 64), UInt8.ofNat (0x80 + c % 64)]⟩) → 2 ≤ s.size ∧ s.size ≤ 4 ∧ ∀ (j : Nat) (hj : j < s.size), 128 ≤ (s[j]'hj).toNat := by
    intro c hc0 hc1 s hs
    have hb : ∀ n : Nat, 128 ≤ n → n < 256 → 128 ≤ (UInt8.ofNat n).toNat := by
      intro n hn0 hn1
      rw [UInt8.toNat_ofNat', Nat.mod_eq_of_lt (by simpa using hn1)]
      exact hn0
    rw [if_neg (by omega)] at hs
    split at hs
    · subst hs
      refine ⟨by simp [ByteArray.size], by simp [ByteArray.size], ?_⟩
      intro j hj
      have hj' : j < 2 := hj
      rcases j with _ | _ | j
      · exact hb _ (by omega) (by omega)
      · exact hb _ (by omega) (by omega)
      · omega
    · split at hs
      · subst hs
        refine ⟨by simp [ByteArray.size], by simp [ByteArray.size], ?_⟩
        intro j hj
        have hj' : j < 3 := hj
        rcases j with _ | _ | _ | j
        · exact hb _ (by omega) (by omega)
        · exact hb _ (by omega) (by omega)
        · exact hb _ (by omega) (by omega)
        · omega
      · subst hs
        refine ⟨by simp [ByteArray.size], by simp [ByteArray.size], ?_⟩
        intro j hj
        have hj' : j < 4 := hj
        rcases j with _ | _ | _ | _ | j
        · exact hb _ (by omega) (by omega)
        · exact hb _ (by omega) (by omega)
        · exact hb _ (by omega) (by omega)
        · exact hb _ (by omega) (by omega)
        · omega
  have hc : 128 ≤ (if Utf8.valid r then r.toNat else Utf8.runeError) ∧ (if Utf8.valid r then r.toNat else Utf8.runeError) ≤ 1114111 := by
    split
    · omega
    · simp [Utf8.runeError]
  exact key _ hc.1 hc.2 _ rfl

/-- What is read at a place: an ASCII byte by itself, or a rune from 128 on, none of whose bytes is below 128. -/
theorem decode_low (s : ByteArray) (i : Nat) (h : (s.get! i).toNat < 128) : Utf8.decode s i = ((s.get! i).toNat, 1) := by
  unfold Utf8.decode
  simp only [Nat.add_zero]
  rw [if_pos (by omega)]
theorem decode_high (s : ByteArray) (i : Nat) (h : 128 ≤ (s.get! i).toNat) : 128 ≤ (Utf8.decode s i).1 ∧ (Utf8.decode s i).1 ≤ 1114111 ∧ ∀ k, k < (Utf8.decode s i).2 → 128 ≤ (s.get! (i + k)).toNat := by
  have hl : ∀ j, (s.get! j).toNat < 256 := fun j => (s.get! j).toNat_lt
  have h0 := hl i
  have h1 := hl (i + 1)
  have h2 := hl (i + 2)
  have h3 := hl (i + 3)
  have one : ∀ k, k < 1 → 128 ≤ (s.get! (i + k)).toNat := fun k hk => by
    obtain rfl : k = 0 := by omega
    simpa using h
  unfold Utf8.decode
  simp only [Nat.add_zero]
  rw [if_neg (by omega)]
  simp only [Utf8.runeError, Bool.and_eq_true, beq_iff_eq, decide_eq_true_eq]
  split
  · rename_i hc
    split
    · rename_i hv
      refine ⟨by simpa using hv, by simp only; omega, ?_⟩
      intro k hk
      have hk' : k < 2 := hk
      rcases k with _ | _ | k
      · simpa using h
      · show 128 ≤ (s.get! (i + 1)).toNat; omega
      · omega
    · exact ⟨by simp, by simp, one⟩
  · split
    · rename_i hc
      split
      · rename_i hv
        refine ⟨by have := hv.1; simp only; omega, by simp only; omega, ?_⟩
        intro k hk
        have hk' : k < 3 := hk
        rcases k with _ | _ | _ | k
        · simpa using h
        · show 128 ≤ (s.get! (i + 1)).toNat; omega
        · show 128 ≤ (s.get! (i + 2)).toNat; omega
        · omega
      · exact ⟨by simp, by simp, one⟩
    · split
      · rename_i hc
        split
        · rename_i hv
          refine ⟨by have := hv.1; simp only; omega, ?_, ?_⟩
          · have := hv.2
            simp only [Utf8.valid] at this
            simp at this
            simp only
            omega
          · intro k hk
            have hk' : k < 4 := hk
            rcases k with _ | _ | _ | _ | k
            · simpa using h
            · show 128 ≤ (s.get! (i + 1)).toNat; omega
            · show 128 ≤ (s.get! (i + 2)).toNat; omega
            · show 128 ≤ (s.get! (i + 3)).toNat; omega
            · omega
        · exact ⟨by simp, by simp, one⟩
      · exact ⟨by simp, by simp, one⟩

set_option maxHeartbeats 2000000 in
set_option maxRecDepth 1000000 in
/-- strings.IndexRune of U+FFFD in ASCII text. -/
theorem index_rune_err (chars : ByteArray) (ha : Ascii chars) (w : World) :
    Calls Tryd.prog 72 #[.string chars, .int .i32 65533] w fun e w' => e = .returned (.int .i64 (-1)) ∧ Below w.heap.size w w' := by
  go_enter Tryd.func72, Tryd.ntmps72
  go_wp2
  go_loopg [] chars.size (fun gf wx => ∃ pos : Nat, wx.heap[w.heap.size]? = some (.stringIter chars pos) ∧ Below w.heap.size w wx ∧ chars.size ≤ pos + gf)
  case atStart => exact ⟨0, World.iter_heap w chars 0, (Below.refl _ w).alloc (Nat.le_refl _) _, by omega⟩
  case round =>
    obtain ⟨pos, hit, hbw, hfu⟩ := hrel
    by_cases hps : pos < chars.size
    · obtain ⟨g', rfl⟩ : ∃ g', gk = g' + 1 := ⟨gk - 1, by omega⟩
      have hlow := ha.at_ pos hps
      have hnx : ∀ ty, (Instr.next (.pointer (some ⟨w.heap.size, 0, none⟩)) true ty).run Tryd.prog wr = _ := fun ty => Lib.run_next_ascii_at wr w.heap.size chars pos ty hit hps hlow
      have hit2 := Lib.iterAt_heap wr w.heap.size chars pos (pos + 1) hit
      have hbw2 := Lib.below_iterAt hbw (k := w.heap.size) (Nat.le_refl _) chars (pos + 1)
      obtain ⟨C, hC⟩ : ∃ C, (chars[pos]'hps).toNat = C := ⟨_, rfl⟩
      rw [hC] at hnx hlow
      have hne : (((C : Nat) : Int) == 65533) = false := beq_eq_false_iff_ne.2 (by omega)
      clear hC
      go_wp2
      go_roundg g'
      case measure => omega
      case rel => exact ⟨pos + 1, hit2, hbw2, by omega⟩
    · have hnx : ∀ ty, (Instr.next (.pointer (some ⟨w.heap.size, 0, none⟩)) true ty).run Tryd.prog wr = _ := fun ty => Lib.run_next_end_at wr w.heap.size chars pos ty hit hps
      go_wp2
      go_ret
      exact ⟨rfl, hbw⟩

theorem index_none (s : ByteArray) (a : Nat) (ha : Ascii s) (c : UInt8) (hc : 128 ≤ c.toNat) : Lib.indexByte (s.extract a s.size).data.toList c = -1 := by
  have hge := Lib.indexByte_ge (s.extract a s.size).data.toList c
  by_cases h : 0 ≤ Lib.indexByte (s.extract a s.size).data.toList c
  · obtain ⟨o, ho⟩ := Int.eq_ofNat_of_zero_le h
    have h1 := (Lib.indexByte_some ho).1
    rw [Lib.extract_data, List.getElem?_take] at h1
    split at h1
    · rw [List.getElem?_drop] at h1
      have := ha _ _ h1
      omega
    · cases h1
  · omega

set_option maxHeartbeats 4000000 in
set_option maxRecDepth 1000000 in
/-- strings.IndexRune of any other rune from 128 on in ASCII text. -/
theorem index_rune_high (chars : ByteArray) (ha : Ascii chars) (hsz : chars.size < 4294967295) (r : Int) (h0 : 128 ≤ r) (h1 : r ≤ 1114111) (h2 : r ≠ 65533) (w : World) :
    Calls Tryd.prog 72 #[.string chars, .int .i32 r] w fun e w' => e = .returned (.int .i64 (-1)) ∧ Below w.heap.size w w' := by
  have b1 : (r == 65533) = false := beq_eq_false_iff_ne.2 h2
  have b2 : decide (0 ≤ r) = true := decide_eq_true (by omega)
  have b3 : decide (r < 128) = false := decide_eq_false (by omega)
  obtain ⟨e1, e2, e3⟩ := encode_high h0 h1
  obtain ⟨E, hE⟩ : ∃ E, Utf8.encode r = E := ⟨_, rfl⟩
  have HV := Lib.hid (Tryd.utf8_ValidRune r)
  cases hv : Lib.validRune r
  · have HV2 := Lib.hid hv
    clear hv
    go_enter Tryd.func72, Tryd.ntmps72
    go_wp2_with (go_at_call 86; refine (HV.out _).mono ?_; rintro e w' ⟨rfl, hw⟩; rw [hw, HV2.out]; clear hw)
    go_ret
    exact ⟨rfl, Below.refl _ _⟩
  · have HV2 := Lib.hid hv
    clear hv
    go_enter Tryd.func72, Tryd.ntmps72
    go_wp2_with (go_at_call 86; refine (HV.out _).mono ?_; rintro e w' ⟨rfl, hw⟩; rw [hw, HV2.out]; clear hw)
    go_step3
    have g1 : (2 : Int) ≤ (E.size : Int) := by rw [← hE]; omega
    have g2 : (E.size : Int) ≤ 4 := by rw [← hE]; omega
    have e3' : ∀ hj : E.size - 1 < E.size, 128 ≤ ((E[E.size - 1]'hj).toNat) := by subst hE; exact fun hj => e3 _ hj
    obtain ⟨m, hm⟩ : ∃ m, E.size = m + 1 := ⟨E.size - 1, by omega⟩
    have hmE : m < E.size := by omega
    have hlast : 128 ≤ (E[m]'hmE).toNat := by subst hE; exact e3 _ hmE
    have hnone := fun (hm1 : m < chars.size) => index_none chars (m + 1) ha (E[m]'hmE) hlast
    have HN := Lib.hid hnone
    have HM := Lib.hid hm
    have HI := Lib.hid (fun (x : ByteArray) (c : Int) W => Tryd.strings_IndexByte x c W)
    have gm1 : (1 : Int) ≤ (m : Int) := by omega
    have gm2 : (m : Int) ≤ 3 := by omega
    clear e1 e2 g1 g2 e3 e3' hnone HV HV2
    go_wp2
    clear hm hE
    have hd := HM.out
    go_loopw [9] (fun i wr => i = .int .i64 (m : Int) ∧ wr = w) (fun _ _ => 0)
    case atStart => exact ⟨rfl, rfl⟩
    case round =>
      obtain ⟨rfl, rfl⟩ := hrel
      by_cases hlt : (m : Int) < (chars.size : Int)
      · have hlt2 : m < chars.size := by omega
        have hc1 := ha.at_ m hlt2
        have HN1 := Lib.hid (HN.out hlt2)
        obtain ⟨C, hC⟩ : ∃ C, (chars[m]'hlt2).toNat = C := ⟨_, rfl⟩
        obtain ⟨D, hD⟩ : ∃ D, (E[m]'hmE).toNat = D := ⟨_, rfl⟩
        rw [hC] at hc1
        rw [hD] at hlast
        have hne : (((C : Nat) : Int) != ((D : Nat) : Int)) = true := bne_iff_ne.2 (by omega)
        have q1 : IntKind.i64.wrap ((m : Int) + 1) = (m : Int) + 1 := IntWalk.i64_in _ (by omega)
        have q2 : (m : Int) + 1 ≤ (chars.size : Int) := by omega
        have q3 : ((m : Int) + 1).toNat = m + 1 := by omega
        have hsl : ∀ W : World, (Instr.slice 9 (.string chars) (some (.int .i64 ((m : Int) + 1))) none none).run Tryd.prog W = .ok (.string (chars.extract (m + 1) chars.size)) W := fun W => by
          have := run_slice_string_from_if (P := Tryd.prog) (w := W) 9 chars .i64 ((m : Int) + 1) Tryd.underlying9
          rw [this, if_pos (by omega)]
          rw [q3]
        have hcall : ∀ W : World, Calls Tryd.prog 49 #[.string (chars.extract (m + 1) chars.size), .int .u8 (D : Int)] W fun e w' => e = .returned (.int .i64 (-1)) ∧ w' = W := fun W => by
          have h := Tryd.strings_IndexByte (chars.extract (m + 1) chars.size) (D : Int) W
          have hu : ((D : Int).toNat.toUInt8) = E[m]'hmE := by rw [← hD]; simp
          rw [hu, HN1.out] at h
          exact h
        have HCALL := Lib.hid hcall
        clear hd hcall
        go_wp2
        go_step3
        go_wp2
        go_quiet (fail)
        go_wp2
        have hbq : Below wr.heap.size wr (wr.drewN nq) := below_dn (Below.refl _ _) nq
        obtain ⟨W2, hW2⟩ : ∃ W2, wr.drewN nq = W2 := ⟨_, rfl⟩
        rw [hW2] at hbq ⊢
        clear hW2
        go_quiet ((go_at_call 49; exact Calls.quiet_of_same (HCALL.out _)))
        go_wp2
        rw [Exit.noGoto_ret]
        go_simp
        simp +zetaDelta only [Exit.noGoto, Exit.inBlock, Exit.then]
        go_ret
        exact ⟨rfl, below_dn hbq _⟩
      · clear hd
        go_wp2
        go_ret
        exact ⟨rfl, Below.refl _ _⟩

theorem getD_get (s : ByteArray) (i : Nat) : s.data.toList.getD i 0 = s.get! i := by
  cases s with
  | mk d =>
    show d.toList.getD i 0 = d[i]!
    by_cases h : i < d.size
    · rw [getElem!_pos d i h]
      simp [List.getD, h]
    · rw [getElem!_neg d i h]
      simp [List.getD, h]
      rfl
theorem get_of {s : ByteArray} {j : Nat} {b : UInt8} (h : s.data.toList[j]? = some b) : s.get! j = b := by
  have h1 : s.data.toList.getD j 0 = s.get! j := getD_get s j
  rw [← h1, List.getD_eq_getElem?_getD, h]
  rfl
theorem none_high {chars : ByteArray} (hc : Ascii chars) {b : UInt8} (hb : 128 ≤ b.toNat) : chars.data.toList.contains b = false := by
  rw [← Bool.not_eq_true, List.contains_iff_mem]
  intro hm
  obtain ⟨j, hj, e⟩ := List.getElem_of_mem hm
  have := hc j b (by rw [List.getElem?_eq_getElem hj, e])
  omega
theorem noany_more {s chars : List UInt8} {i k : Nat} (h : Lib.NoAny s chars i) (hk : ∀ j b, i ≤ j → j < i + k → s[j]? = some b → chars.contains b = false) : Lib.NoAny s chars (i + k) := fun j b hj hb => by
  by_cases e : j < i
  · exact h j b e hb
  · exact hk j b (by omega) hj hb

set_option maxHeartbeats 4000000 in
set_option maxRecDepth 1000000 in
theorem index_any_short (s chars : ByteArray) (hc : Ascii chars) (h2 : 2 ≤ chars.size) (hcz : chars.size < 4294967281) (h8 : s.size ≤ 8) (w : World) :
    Calls Tryd.prog 59 #[.string s, .string chars] w fun e w' => e = .returned (.int .i64 (Lib.indexAny s.data.toList chars.data.toList)) ∧ Below w.heap.size w w' := by
  have hemp : chars.toList.isEmpty = false := by
    rw [Lib.toList_data]
    cases h : chars.data.toList with
    | nil => have := Sp.size_eq chars; rw [h, List.length_nil] at this; omega
    | cons _ _ => rfl
  have hn1 : ((chars.size : Int) == 1) = false := beq_eq_false_iff_ne.2 (by omega)
  have h8z : decide ((8 : Int) < (s.size : Int)) = false := decide_eq_false (by omega)
  have HC := Lib.hid hc
  clear hc
  go_enter Tryd.func59, Tryd.ntmps59
  go_wp2_with (go_at_call 73; refine (Tryd.strings_shouldUseASCIISet _ _).mono ?_; rintro e w' ⟨rfl, hw⟩; rw [hw, h8z])
  go_loopg [9, 10] s.size (fun g _ _ wx => ∃ pos : Nat, wx.heap[w.heap.size]? = some (.stringIter s pos) ∧ Below w.heap.size w wx ∧ s.size ≤ pos + g ∧ Lib.NoAny s.data.toList chars.data.toList pos)
  case atStart => exact ⟨0, World.iter_heap w s 0, (Below.refl _ w).alloc (Nat.le_refl _) _, by omega, Lib.NoAny.zero _ _⟩
  case round =>
    obtain ⟨pos, hit, hbw, hfu, hno⟩ := hrel
    have HNO := Lib.hid hno
    clear hno
    by_cases hps : pos < s.size
    · obtain ⟨g', rfl⟩ : ∃ g', gk = g' + 1 := ⟨gk - 1, by omega⟩
      have hnx : ∀ ty, (Instr.next (.pointer (some ⟨w.heap.size, 0, none⟩)) true ty).run Tryd.prog wr = _ := fun ty => Lib.run_next_any_at wr w.heap.size s pos ty hit hps
      obtain ⟨x, hx⟩ : ∃ x : UInt8, s.data.toList[pos]? = some x := ⟨_, List.getElem?_eq_getElem (by rw [← Sp.size_eq]; exact hps)⟩
      have hg := get_of hx
      have HX := Lib.hid hx
      clear hx
      by_cases hlow : x.toNat < 128
      · have hd : Utf8.decode s pos = (x.toNat, 1) := by rw [decode_low s pos (by rw [hg]; exact hlow), hg]
        rw [hd] at hnx
        have hit2 := Lib.iterAt_heap wr w.heap.size s pos (pos + 1) hit
        have hbw2 := Lib.below_iterAt hbw (k := w.heap.size) (Nat.le_refl _) s (pos + 1)
        have hcon := Lib.contains_iff_indexByte chars.data.toList x
        have hback : ((x.toNat : Int)).toNat.toUInt8 = x := by simp
        clear hd hg
        obtain ⟨W, hWd⟩ : ∃ W, wr.iterAt w.heap.size s (pos + 1) = W := ⟨_, rfl⟩
        simp only [hWd] at hnx
        rw [hWd] at hit2 hbw2
        clear hWd hit
        cases hin : chars.data.toList.contains x
        · rw [hin] at hcon
          have hlt : ¬ ((0 : Int) ≤ Lib.indexByte chars.data.toList x) := of_decide_eq_false hcon.symm
          have HIN := Lib.hid hin
          clear hcon hin
          go_wp2_with (go_at_call 72; refine (Tryd.strings_IndexRune_ascii _ _ _ (by omega) (by omega)).mono ?_; rintro e w' ⟨rfl, hw⟩; rw [hw, hback])
          go_roundg g'
          case measure => omega
          case rel => exact ⟨pos + 1, hit2, hbw2, by omega, HNO.out.succ HX.out HIN.out⟩
        · rw [hin] at hcon
          have hge : (0 : Int) ≤ Lib.indexByte chars.data.toList x := of_decide_eq_true hcon.symm
          have HIN := Lib.hid hin
          clear hcon hin
          go_wp2_with (go_at_call 72; refine (Tryd.strings_IndexRune_ascii _ _ _ (by omega) (by omega)).mono ?_; rintro e w' ⟨rfl, hw⟩; rw [hw, hback])
          go_ret
          exact ⟨by rw [Lib.indexAny_hit HNO.out HX.out HIN.out]; rfl, hbw2⟩
      · obtain ⟨q1, q2, q3⟩ := decode_high s pos (by rw [hg]; omega)
        have hwd := Lib.width_pos s pos
        obtain ⟨R, hR⟩ : ∃ R, (Utf8.decode s pos).1 = R := ⟨_, rfl⟩
        obtain ⟨K, hK⟩ : ∃ K, (Utf8.decode s pos).2 = K := ⟨_, rfl⟩
        rw [hR, hK] at hnx
        rw [hK] at hwd q3
        rw [hR] at q1 q2
        have hit2 := Lib.iterAt_heap wr w.heap.size s pos (pos + K) hit
        have hbw2 := Lib.below_iterAt hbw (k := w.heap.size) (Nat.le_refl _) s (pos + K)
        obtain ⟨W, hWd⟩ : ∃ W, wr.iterAt w.heap.size s (pos + K) = W := ⟨_, rfl⟩
        simp only [hWd] at hnx
        rw [hWd] at hit2 hbw2
        clear hWd hit hR hK hg
        have hlt : W.heap.size = W.heap.size := rfl
        have HNEW := Lib.hid (noany_more (k := K) HNO.out (fun j b h1 h2 hb => none_high HC.out (by have := q3 (j - pos) (by omega); rw [show pos + (j - pos) = j by omega, get_of hb] at this; exact this)))
        have hcall : Calls Tryd.prog 72 #[.string chars, .int .i32 (R : Int)] W fun e w' => e = .returned (.int .i64 (-1)) ∧ Below W.heap.size W w' := by
          by_cases e : (R : Int) = 65533
          · rw [e]; exact index_rune_err chars HC.out W
          · exact index_rune_high chars HC.out (by omega) R (by omega) (by omega) e W
        have HCALL := Lib.hid hcall
        clear hcall q3 hlt
        go_wp2_with (go_at_call 72; refine HCALL.out.mono ?_; rintro e W3 ⟨rfl, hw3⟩)
        go_roundg g'
        case measure => omega
        case rel => exact ⟨pos + K, (hw3.block _ (Array.getElem?_eq_some_iff.1 hit2).1).trans hit2, hbw2.trans (hw3.mono hbw2.size), by omega, HNEW.out⟩
    · have hnx : ∀ ty, (Instr.next (.pointer (some ⟨w.heap.size, 0, none⟩)) true ty).run Tryd.prog wr = _ := fun ty => Lib.run_next_end_at wr w.heap.size s pos ty hit hps
      go_wp2
      go_ret
      exact ⟨by rw [Lib.indexAny_none (fun j b hj hb => HNO.out j b (by rw [← Sp.size_eq] at hj; omega) hb)]; rfl, hbw⟩

theorem infoAs : (Tryd.prog.info? 96).map (fun i => (i.zero, i.size)) = some (some (.agg (Array.replicate 256 (.bool false))), 256) := by kernel_rfl
theorem index_any (s chars : ByteArray) (hc : Ascii chars) (h2 : 2 ≤ chars.size) (hcz : chars.size < 4294967281) (hs : s.size < 4294967281) (w : World) :
    Calls Tryd.prog 59 #[.string s, .string chars] w fun e w' => e = .returned (.int .i64 (Lib.indexAny s.data.toList chars.data.toList)) ∧ Below w.heap.size w w' := by
  by_cases h8 : s.size ≤ 8
  · exact index_any_short s chars hc h2 hcz h8 w
  · refine (Tryd.strings_IndexAny_long ?_ s chars w h2 (by omega) hs hcz hc).mono fun e w' ⟨h1, h2⟩ => ⟨h1, ?_⟩
    · exact (zero_of_info infoAs).1
    · rw [h2]
      exact ((Below.refl _ _).alloc (Nat.le_refl _) _).alloc (by simp) _
theorem contains_any (s chars : ByteArray) (hc : Ascii chars) (h2 : 2 ≤ chars.size) (hcz : chars.size < 4294967281) (hs : s.size < 4294967281) (w : World) :
    Calls Tryd.prog 41 #[.string s, .string chars] w fun e w' => e = .returned (.bool (Lib.containsAny s.data.toList chars.data.toList)) ∧ Below w.heap.size w w' := by
  have HI := Lib.hid (index_any s chars hc h2 hcz hs)
  clear hc
  go_enter Tryd.func41, Tryd.ntmps41
  go_wp2_with (go_at_call 59; refine (HI.out _).mono ?_; rintro e w' ⟨rfl, hw⟩)
  go_ret
  exact ⟨rfl, hw⟩
end Go.Proofs.YtocpdhbkfgolfaaDoor.An
