/- path.Parts and path.Clean: what they answer. -/
import Derived.Test.YtocpdhbkfgolfaaDoorPathA
import Derived.Test.YtocpdhbkfgolfaaDoorWWords
import Derived.WalkSmall
namespace Go.Proofs.YtocpdhbkfgolfaaDoor.Pa
open Go.Proofs.YtocpdhbkfgolfaaDoorW.PrintWords (own_weaken)
open Go Go.RowKit Go.Shelf Go.Proofs Go.Proofs.YtocpdhbkfgolfaaDoor
attribute [local go_sem] Oper.semAt_some
set_option linter.unusedVariables false
set_option linter.unusedSimpArgs false

theorem infoS : (Tryd.prog.info? 9).map (fun i => (i.zero, i.size, i.bytes)) = some (some (.string ⟨#[]⟩), 1, 16) := by kernel_rfl
def encP (l : List (List UInt8)) : List Value := l.map fun x => Value.string (Sp.mk x)

theorem parts_maker (n : Nat) (s : ByteArray) (w : World) :
    CallsIn Fence.wide n Tryd.prog 70 #[.string s] w fun e w' => e = .returned (.func (.func 83) #[] #[.pointer (some ⟨w.heap.size, 0, none⟩)]) ∧ w' = w.alloc (.cells #[.string s] 9) := by
  refine callsIn_of_wp Tryd.func70 rfl trivial ?_ rfl
  simp only [Tryd.ntmps70, List.size_toArray, List.length_cons, List.length_nil, Nat.reduceAdd, Nat.reduceSub, Array.replicate_succ, Array.replicate_zero, List.push_toArray, List.append_toArray, List.nil_append, List.cons_append]
  gi_wp2
  go_ret
  exact ⟨rfl, rfl⟩

/-- What a loop over the parts keeps: a box of a row that the call owns; nothing below has turned. -/
def Inv (w : World) (f : List (List UInt8) → List (List UInt8)) (pre : List (List UInt8)) (W : World) : Prop :=
  (∃ v, Boxed W w.heap.size 23 v ∧ W.ownsRow (w.heap.size + 2) 9 1 v (f pre).length (encP (f pre)) ∧ True) ∧ Below w.heap.size w W ∧ w.heap.size + 2 ≤ W.heap.size
theorem inv_own (w : World) (B : Nat) (hB : w.heap.size ≤ B) (f : List (List UInt8) → List (List UInt8)) : OwnFrom B (Inv w f) :=
  OwnFrom.and (Own.from (holdsRow_own (w.heap.size + 2) w.heap.size 23 9 1 (fun pre => (f pre).length) (fun pre => encP (f pre)) (fun _ _ => True)) _) (OwnFrom.and (ownFrom_below (Nat.le_refl _) hB) (fun s W W' row h hg _ => Nat.le_trans h hg.size))
theorem block_ge {W : World} {b e sz n : Nat} {v : Value} {xs : List Value} (h : W.ownsRow b e sz v n xs) : ∀ k, v.ownBlock = some k → b ≤ k := Go.Proofs.YtocpdhbkfgolfaaDoorW.PrintWords.own_base h
theorem inv_set (w : World) (f : List (List UInt8) → List (List UInt8)) (pre : List (List UInt8)) (W : World) (v : Value) (h : Inv w f pre W) : Inv w f pre (W.setCell ⟨w.heap.size + 1, 0, none⟩ v) := by
  obtain ⟨⟨u, hb, hr, _⟩, hB, hz⟩ := h
  refine ⟨⟨u, hb.other (by omega) _, hr.kept (grownBy_setCell' W _ v) (.inr ?_), trivial⟩, hB.setCell (p := ⟨w.heap.size + 1, 0, none⟩) (by simp) v, by simpa using hz⟩
  intro e
  have := block_ge hr _ e
  omega


theorem own_cap {W : World} {b e sz g n c : Nat} {xs : List Value} (h : W.ownsRow b e sz (.slice (some ⟨g, 0, none⟩) n c) n xs) : n ≤ c := by
  rcases h.2 with ⟨h0, _⟩ | ⟨g', cap', cur, hv, hg, hh, hn, hcap, hsz, htake⟩
  · cases h0
  · cases hv; exact hn
theorem encP_len (l : List (List UInt8)) : (encP l).length = l.length := by simp [encP]
theorem own_pop {W : World} {base g cap m : Nat} {l : List (List UInt8)} (hm : l.length = m + 1) (h : W.ownsRow base 9 1 (.slice (some ⟨g, 0, none⟩) (m + 1) cap) (m + 1) (encP l)) : W.ownsRow base 9 1 (.slice (some ⟨g, 0, none⟩) m cap) m (encP l.dropLast) := by
  rcases List.eq_nil_or_concat l with e | ⟨a, b, rfl⟩
  · subst e; simp at hm
  · rw [List.concat_eq_append] at *
    rw [List.dropLast_concat]
    have e1 : encP (a ++ [b]) = encP a ++ [.string (Sp.mk b)] := by simp [encP]
    rw [e1] at h
    exact ownsRow_pop (by rw [encP_len]; simp at hm; omega) h

/-- strings.Join of a row that is owned. -/
theorem joined {w0 : World} {b : Nat} {v : Value} {l : List (List UInt8)} {sep : List UInt8} (h : w0.ownsRow b 9 1 v l.length (encP l)) (h1 : l.length ≤ 140737488355328) (h2 : (Lib.join l sep).length ≤ 140737488355328) :
    Calls Tryd.prog 43 #[v, .string (Sp.mk sep)] w0 fun e w' => e = .returned (.string (Sp.mk (Lib.join l sep))) ∧ Below w0.heap.size w0 w' := by
  rcases Nat.eq_zero_or_pos l.length with h0 | h0
  · obtain rfl := List.eq_nil_of_length_eq_zero h0
    obtain ⟨A, c, rfl⟩ := Go.Proofs.YtocpdhbkfgolfaaDoorW.PrintWords.own_slice h
    refine (Tryd.strings_Join_none A c _ w0).mono ?_
    rintro e w' ⟨rfl, rfl⟩
    exact ⟨rfl, Below.refl _ _⟩
  · obtain ⟨g, cap, hv, _, _⟩ := h.form h0
    subst hv
    have e1 : (l.map Sp.mk).map (·.data.toList) = l := by simp [List.map_map, Function.comp_def]
    have hl : (l.map Sp.mk).length = l.length := by simp
    have hj := Tryd.strings_Join g 0 cap (l.map Sp.mk) (Sp.mk sep) w0 (fun j x hx => by
      have hc := h.cells (g := g) rfl j (.string x) (by simpa [encP, List.map_map, Function.comp_def] using congrArg (Option.map Value.string) hx)
      have ha : (⟨g, 0, none⟩ : Addr).add j = ⟨g, 0 + j, none⟩ := by unfold Addr.add; split <;> simp_all
      rw [ha] at hc; exact hc) ((h.lt g rfl).2) (by rw [hl]; exact h1) (by rw [hl]; exact own_cap h) (by rw [e1, Sp.mk_data]; exact h2)
    rw [hl, e1, Sp.mk_data] at hj
    exact hj

set_option maxRecDepth 100000 in
set_option maxHeartbeats 4000000 in
theorem clean_in (n : Nat) (hn : 3 ≤ n) (s : ByteArray) (w : World) (hs : s.size < 4294967295) :
    CallsIn Fence.wide n Tryd.prog 69 #[.string s] w fun e W' => e = .returned (.string (Sp.mk (Sp.clean s.data.toList))) ∧ Below w.heap.size w W' := by
  have h1 : 1 ≤ n := by omega
  obtain ⟨i0, hi, hz0, hz1, hz2⟩ := info_parts infoS
  refine callsIn_of_wp_marks Tryd.func69 rfl trivial ?_ rfl
  simp only [Tryd.ntmps69, List.size_toArray, List.length_cons, List.length_nil, Nat.reduceAdd, Nat.reduceSub, Array.replicate_succ, Array.replicate_zero, List.push_toArray, List.append_toArray, List.nil_append, List.cons_append]
  gi_wp2_with (refine ⟨trivial, ?_⟩; gi_at_call 70; refine (parts_maker (n - 1) _ _).mono ?_; rintro e w' ⟨rfl, rfl⟩)
  have bO := Boxed.new w 23 (.slice none 0 0)
  have bN := Boxed.new (w.alloc (.cells #[.slice none 0 0] 23)) 9 (.string s)
  rw [World.size_alloc] at bN
  have hB0 : Below w.heap.size w ((w.alloc (.cells #[.slice none 0 0] 23)).alloc (.cells #[.string s] 9)) := ((Below.refl _ w).alloc (Nat.le_refl _) _).alloc (by simp) _
  have bN2 : Boxed ((w.alloc (.cells #[.slice none 0 0] 23)).alloc (.cells #[.string s] 9)) (w.heap.size + 1) 9 (.string (Sp.mk s.data.toList)) := by rw [Sp.mk_of]; exact bN
  have hpl := Sp.parts_len s.data.toList
  rw [← Sp.size_eq] at hpl
  refine Rg.wpIn_range rfl h1 (gf := 83) (lb := #[.pointer (some ⟨w.heap.size + 1, 0, none⟩)]) rfl trivial (enters_of Tryd.func83 (by kernel_rfl) rfl)
    (iter (n - 1) (by omega) (w.heap.size + 1) s.data.toList _ (by rw [← Sp.size_eq]; omega) bN2) (by simp) (Below.refl _ _) (fun _ => rfl)
    (Inv w Sp.climbs) (fun _ _ _ => False) (inv_own w _ (by simp; omega) _) (fun _ _ _ _ _ hs _ _ => hs) (inv_set w _)
    ⟨⟨_, bO.alloc _, World.ownsRow_nil _ _ _ _, trivial⟩, hB0, by simp⟩
    (fun x => { tmps := #[.string s, undef, .string ⟨#[]⟩, .pointer (some ⟨w.heap.size, 0, none⟩), .string (Sp.mk x), .string s, .func (.func 83) #[] #[.pointer (some ⟨w.heap.size + 1, 0, none⟩)], .string (Sp.mk x), undef, undef, undef, undef, undef, undef, undef, undef, undef, undef, undef, undef, undef, undef, undef, undef, undef, undef, undef], defers := [] }) ?assign ?body ?done ?stop
  case assign =>
    intro l x W K hK
    gi_wp2
    exact hK
  case body =>
    rintro l pre x W ⟨⟨v, hv, hrow, _⟩, hB, hz⟩ hpx
    obtain ⟨L, hL⟩ : ∃ L, L = Sp.climbs pre := ⟨_, rfl⟩
    have hrow : W.ownsRow (w.heap.size + 2) 9 1 v L.length (encP L) := by rw [hL]; exact hrow
    have hle := hpx.length_le
    simp only [List.length_append, List.length_singleton] at hle
    have hcl := Sp.climbs_len pre
    rw [← hL] at hcl
    have hnext : Sp.climbs (pre ++ [x]) = Sp.climb L x := by rw [Sp.climbs_snoc, hL]
    have HN := Lib.hid hnext
    clear hnext hL
    have hc := hv.cell
    have hf := hv.frozen
    have hsz := hB.size
    by_cases hx : x = [46, 46]
    · have x1 : ((Sp.mk x).toList == [46, 46]) = true := by rw [Sp.mk_toList]; simpa using hx
      have x2 : ((Sp.mk x).toList != [46, 46]) = false := by rw [Sp.mk_toList]; simpa using hx
      have hnx : Sp.climbs (pre ++ [x]) = L.dropLast := by rw [HN.out, Sp.climb, if_pos hx]
      have HX := Lib.hid hnx
      clear hnx hx
      rcases Nat.eq_zero_or_pos L.length with h0 | h0
      · have e0 : L = [] := List.eq_nil_of_length_eq_zero h0
        subst e0
        have ev : ∃ a c, v = .slice a 0 c := by obtain ⟨A, c, rfl⟩ := Go.Proofs.YtocpdhbkfgolfaaDoorW.PrintWords.own_slice hrow; exact ⟨A, c, rfl⟩
        obtain ⟨A, c, rfl⟩ := ev
        gi_wp2
        exact ⟨KeepsOthers.refl _, fun _ h => h, ⟨_, hv, by rw [HX.out]; simpa [encP] using hrow, trivial⟩, hB, hz⟩
      · obtain ⟨m, hm⟩ : ∃ m, L.length = m + 1 := ⟨L.length - 1, by omega⟩
        rw [hm] at hrow
        obtain ⟨g, cap, rfl⟩ := ownsRow_succ hrow
        have hpop := Lib.hid (own_pop hm hrow)
        have hm2 : m + 1 ≤ maxLen := by unfold maxLen; omega
        have hcap : m ≤ cap := by have := own_cap hrow; omega
        gi_wp2
        exact ⟨KeepsOthers.setCell _ _ _, fun u hu => hu.other (by omega) _, ⟨_, hv.set _, by rw [HX.out, List.length_dropLast, hm]; exact hpop.out.kept (grownBy_setCell' W _ _) (.inr (fun e => by have := block_ge hpop.out _ e; omega)), trivial⟩, hB.setCell (p := ⟨w.heap.size, 0, none⟩) (Nat.le_refl _) _, by simpa using hz⟩
    · have x1 : ((Sp.mk x).toList == [46, 46]) = false := by rw [Sp.mk_toList]; simpa using hx
      have x2 : ((Sp.mk x).toList != [46, 46]) = true := by rw [Sp.mk_toList]; simpa using hx
      have x3 : ¬ (Sp.mk x).toList = [46, 46] := by rw [Sp.mk_toList]; simpa using hx
      have hnx : Sp.climbs (pre ++ [x]) = L ++ [x] := by rw [HN.out, Sp.climb, if_neg hx]
      have HX := Lib.hid hnx
      clear hnx hx
      gi_wp2_with (gi_at_builtin; go_must (refine wpListIn_append_own _ rfl _ _ 23 rfl (w.heap.size + 2) 9 i0 (.string ⟨#[]⟩) 1 16 Tryd.underlying23 hi hz0 hz1 hz2 rfl (by decide) _ _ _ rfl (hrow.alloc _) ⟨W.heap.size, 0, none⟩ 1 1 [.string (Sp.mk x)] rfl rfl (cell_one_new _ _ _) (by simp [Value.oneCell']) (by unfold maxLen; omega) (by omega) (by simp; omega) ?_); intro v' w1 hown' hgrow _; obtain ⟨g', cap', rfl⟩ := ownsRow_succ hown'; obtain ⟨hv1, hv2, hr2, hk2, hb2⟩ := hv.appended (by decide) (own_weaken hrow (by omega)) hB.size (Nat.le_refl _) (own_weaken hown' (by omega)) hgrow; have hbs := Lib.hid (fun (u : Value) (hu : Boxed W (w.heap.size + 1) 9 u) => ((hu.alloc (.cells #[.string (Sp.mk x)] 9)).kept hgrow (fun e => by have := block_ge hrow _ e.symm; omega)).other (B' := w.heap.size) (by omega) (Value.slice (some ⟨g', 0, none⟩) (L.length + 1) cap')); have hrw := Lib.hid (hown'.kept (grownBy_setCell' w1 w.heap.size (Value.slice (some ⟨g', 0, none⟩) (L.length + 1) cap')) (.inr (hv1.not_row (by decide) hown').symm)); have hc1 := hv1.cell; have hf1 := hv1.frozen)
      exact ⟨hk2, hbs.out, ⟨_, hv2, by rw [HX.out]; simpa [encP] using hrw.out, trivial⟩, hB.trans hb2, Nat.le_trans hz (by have := hb2.size; have := hk2.size; omega)⟩
  case done =>
    rintro D W hD ⟨⟨v, hv, hrow, _⟩, hB, hz⟩ hK
    have hc := hv.cell
    have hDW : D < W.heap.size := (Array.getElem?_eq_some_iff.1 hK).1
    obtain ⟨L, hL⟩ : ∃ L, L = Sp.climbs (Sp.parts s.data.toList) := ⟨_, rfl⟩
    have hrow : W.ownsRow (w.heap.size + 2) 9 1 v L.length (encP L) := by rw [hL]; exact hrow
    have hjl : (Lib.join L [47]).length ≤ 4294967296 := by
      have h1 := Sp.join_room L
      have h2 := Sp.climbs_room (Sp.parts s.data.toList)
      have h3 := Sp.parts_room s.data.toList
      rw [← Sp.size_eq] at h3
      rw [← hL] at h2
      omega
    have hj := joined (w0 := W) (sep := [47]) hrow (by rw [hL]; have := Sp.climbs_len (Sp.parts s.data.toList); omega) (by omega)
    obtain ⟨A, c, rfl⟩ := Go.Proofs.YtocpdhbkfgolfaaDoorW.PrintWords.own_slice hrow
    have ht : Sp.clean s.data.toList = 47 :: Lib.join L [47] := by rw [Sp.clean, Sp.text, hL]
    obtain ⟨J, hJ⟩ : ∃ J, J = Lib.join L [47] := ⟨_, rfl⟩
    rw [← hJ] at hj ht hjl
    rw [← Sp.mk_size] at hjl
    have HJ := Lib.hid hj
    have HT := Lib.hid ht
    clear hj hL ht hJ
    gi_wp2_with (refine ⟨trivial, ?_⟩; gi_at_call 43; refine (callsIn_wide.2 HJ.out).mono ?_; rintro e w' ⟨rfl, hbw⟩; have hK2 := Lib.hid ((hbw.block D hDW).trans hK); have hB2 := Lib.hid (hB.trans (hbw.mono hB.size)))
    refine ⟨by simp, .inl ⟨_, _, rfl, run_takeDeferred hK2.out, ?_⟩⟩
    refine ⟨_, results_tmp rfl _ _ _, ?_, hB2.out.trans (belowK_b (w := w) (Nat.le_refl _) _ D _ _ (by simp at hD; omega) hK2.out rfl rfl)⟩
    rw [HT.out]
    exact congrArg (fun x => Ending.returned (Value.string x)) (Sp.mk_cons 47 J).symm
  case stop =>
    rintro D c pre W _ _ h _
    exact h.elim
end Go.Proofs.YtocpdhbkfgolfaaDoor.Pa
