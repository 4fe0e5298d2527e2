/- linhaylaw09.PosixMoves, walked: it returns true. -/
import Derived.Test.YtjfigngmpagloaaQU0
import Derived.Test.YtjfigngmpagloaaQU1
import Derived.Test.YtjfigngmpagloaaQU2
import Derived.Maps.AppendAt

namespace Go.Proofs.Ytjfigngmpagloaa.Tw
open Go Go.RowKit Go.Shelf Go.Proofs Go.Proofs.Ytjfigngmpagloaa Go.Proofs.YtjfigngmpagloaaW.PrintWords Go.Proofs.Ytjfigngmpagloaa.Ext Go.Proofs.Ytjfigngmpagloaa.X Go.Proofs.Ytjfigngmpagloaa.Pu
set_option linter.unusedVariables false
set_option linter.unusedSimpArgs false
theorem walk_nil (T : Tr) (lst : Bool) (k : Nat) (a h : Int) : walkF T lst (k + 1) a h [] = some (a, 0) := rfl
theorem walk_cons (T : Tr) (lst : Bool) (k : Nat) (a h : Int) (s : ByteArray) (l : List ByteArray) : walkF T lst (k + 1) a h (s :: l) =
    if (T.node a).kind ≠ 1 then some (a, 7)
    else if s.toList = [46, 46] then walkF T lst k (T.node a).up h l
    else if (downT T a s).2 ≠ 0 then some (a, (downT T a s).2)
    else if (T.node (downT T a s).1).kind ≠ 3 ∨ (l = [] ∧ lst = false) then walkF T lst k (downT T a s).1 h l
    else if 40 ≤ h then some (a, 10)
    else walkF T lst k (if slashB (T.node (downT T a s).1).data = true then 1 else a) (h + 1) (partsB (T.node (downT T a s).1).data ++ l) := rfl
theorem slash_bt {x : ByteArray} (h : 0 < x.size) : slashB x = true ↔ bt x 0 = 47 := by
  obtain ⟨c, hc, hd⟩ := Pu.get_at x h
  have hb := bt_nat hc
  rw [Int.ofNat_zero] at hb
  rw [hb]
  rw [List.drop_zero] at hd
  unfold slashB
  rw [hd]
  have e : Lib.hasPrefix (c :: x.data.toList.drop 1) [47] = (c == 47) := by
    simp [Lib.hasPrefix, List.isPrefixOf]
    exact Bool.eq_iff_iff.2 (by rw [beq_iff_eq, beq_iff_eq]; exact eq_comm)
  rw [e, beq_iff_eq]
  constructor
  · rintro rfl; rfl
  · intro h
    have : c.toNat = (47 : UInt8).toNat := by have : (47 : UInt8).toNat = 47 := rfl; omega
    exact UInt8.toNat_inj.1 this
set_option maxHeartbeats 1000000 in
theorem go_both {L : List RN} {last : Int} (hG : GoodL L last) (hM : GoodM L) (lst : Bool) : ∀ (j m : Nat) (l : List ByteArray) (a : Int), l.length = m → j ≤ 40 → (l.length : Int) ≤ 3000000 - 70000 * j →
    ∃ k q e h, walkF (trOf L last) lst k a (40 - j) l = some (q, e) ∧ Ev (fun k => linhayref08_Go.f k L last a l lst (40 - j)) (if e = 0 then q else 0, h, e) := by
  have hlen : L.length < 4294967296 := by have := hG.len; omega
  intro j
  induction j using Nat.strongRecOn with
  | _ j ihj =>
  intro m
  induction m with
  | zero =>
    intro l a hl hj hb
    obtain rfl : l = [] := List.eq_nil_of_length_eq_zero hl
    refine ⟨1, a, 0, 40 - j, rfl, ?_⟩
    rw [if_pos rfl]
    refine Ev.step (fun k => by rw [linhayref08_Go.f]) ?_
    exact ev_pos rfl (Ev.now _)
  | succ m ih =>
    intro l a hl hj hb
    obtain ⟨s, l, rfl⟩ : ∃ s l', l = s :: l' := by cases l with | nil => simp at hl | cons s l' => exact ⟨s, l', rfl⟩
    have hl' : l.length = m := by simpa using hl
    have hb' : (l.length : Int) ≤ 3000000 - 70000 * j := by simp only [List.length_cons] at hb; omega
    have hcons : ¬ (((s :: l).length : Nat) : Int) = 0 := by simp only [List.length_cons]; omega
    have hpos : 0 < (((s :: l).length : Nat) : Int) := by simp only [List.length_cons]; omega
    have h1le : 1 ≤ (((s :: l).length : Nat) : Int) := by simp only [List.length_cons]; omega
    have hn := node_of hG a
    have hnk : ((trOf L last).node a).kind = (atR L a).f3 := by rw [hn]
    have hnu : ((trOf L last).node a).up = (atR L a).f1 := by rw [hn]
    by_cases hk : (atR L a).f3 = 1
    · have hw : ∀ k, walkF (trOf L last) lst (k + 1) a (40 - j) (s :: l) = _ := fun k => walk_cons (trOf L last) lst k a (40 - j) s l
      have start : ∀ {r : Int × Int × Int}, Ev (fun k => if (rdOf ByteArray.empty (s :: l) 0).toList = ([46, 46] : List UInt8) then ((linhayref07_At.f k L last a).bind fun bt204 => (if 1 ≤ (((s :: l).length : Nat) : Int) then ((linhayref08_Go.f k L last bt204.2.1 ((s :: l).drop 1) lst (40 - j)).bind fun bt210 => (some (bt210.1, bt210.2.1, bt210.2.2))) else (none))) else ((linhayref03_Check.f k (rdOf ByteArray.empty (s :: l) 0)).bind fun t214 => (if t214 = 0 then ((linhayref07_In.f k L last a (rdOf ByteArray.empty (s :: l) 0)).bind fun t216 => ((linhayref07_At.f k L last t216).bind fun bt217 => (if t216 = 0 then (some ((0 : Int), (40 : Int) - (j : Int), (5 : Int))) else (if bt217.2.2.2.1 = 3 then (if (((s :: l).length : Nat) : Int) = 1 then (linhayref08_Go.j0 k a (s :: l) lst (40 - j) t216 (!lst) L last bt217.1 bt217.2.1 bt217.2.2.1 bt217.2.2.2.1 bt217.2.2.2.2) else (linhayref08_Go.j0 k a (s :: l) lst (40 - j) t216 false L last bt217.1 bt217.2.1 bt217.2.2.1 bt217.2.2.2.1 bt217.2.2.2.2)) else (linhayref08_Go.j0 k a (s :: l) lst (40 - j) t216 true L last bt217.1 bt217.2.1 bt217.2.2.1 bt217.2.2.2.1 bt217.2.2.2.2))))) else (some ((0 : Int), (40 : Int) - (j : Int), t214))))) r → Ev (fun k => linhayref08_Go.f k L last a (s :: l) lst (40 - j)) r := by
        intro r hr
        refine Ev.step (fun k => by rw [linhayref08_Go.f]) ?_
        exact (ev_neg hcons (ev_bind (r07_at L a last hlen) (ev_pos hk (ev_pos hpos hr))))
      by_cases hdd : s.toList = [46, 46]
      · obtain ⟨k, q, e, h, h1, h2⟩ := ih l (atR L a).f1 hl' hj hb'
        refine ⟨k + 1, q, e, h, ?_, start (ev_pos hdd (ev_bind (r07_at L a last hlen) (ev_pos h1le (ev_bind h2 (Ev.now _)))))⟩
        rw [hw, if_neg (by rw [hnk, hk]; simp), if_pos hdd, hnu, h1]
      · have hdn := downT_of hG a s
        by_cases hc : Sp.check s.data.toList = 0
        · rw [if_pos hc] at hdn
          have start2 : ∀ {r : Int × Int × Int}, Ev (fun k => if inR L a s = 0 then (some ((0 : Int), (40 : Int) - (j : Int), (5 : Int))) else (if (atR L (inR L a s)).f3 = 3 then (if (((s :: l).length : Nat) : Int) = 1 then (linhayref08_Go.j0 k a (s :: l) lst (40 - j) (inR L a s) (!lst) L last (atR L (inR L a s)).f0 (atR L (inR L a s)).f1 (atR L (inR L a s)).f2 (atR L (inR L a s)).f3 (atR L (inR L a s)).f4) else (linhayref08_Go.j0 k a (s :: l) lst (40 - j) (inR L a s) false L last (atR L (inR L a s)).f0 (atR L (inR L a s)).f1 (atR L (inR L a s)).f2 (atR L (inR L a s)).f3 (atR L (inR L a s)).f4)) else (linhayref08_Go.j0 k a (s :: l) lst (40 - j) (inR L a s) true L last (atR L (inR L a s)).f0 (atR L (inR L a s)).f1 (atR L (inR L a s)).f2 (atR L (inR L a s)).f3 (atR L (inR L a s)).f4))) r → Ev (fun k => linhayref08_Go.f k L last a (s :: l) lst (40 - j)) r := by
            intro r hr
            refine start (ev_neg hdd (ev_bind (r03_check s) (ev_pos hc (ev_bind (r07_in L a last s hlen) (ev_bind (r07_at L (inR L a s) last hlen) hr)))))
          by_cases hi : inR L a s = 0
          · rw [if_pos hi] at hdn
            refine ⟨1, a, 5, 40 - j, ?_, start2 (ev_pos hi (Ev.now _))⟩
            rw [hw, if_neg (by rw [hnk, hk]; simp), if_neg hdd, hdn]; rfl
          · rw [if_neg hi] at hdn
            obtain ⟨x, hx, hx0, hx1, hx2, hx3, hxe⟩ := inR_mem hG hi
            have hnn := node_of hG (inR L a s)
            have hnnk : ((trOf L last).node (inR L a s)).kind = x.f3 := by rw [hnn, hxe]
            have hnnd : ((trOf L last).node (inR L a s)).data = x.f4 := by rw [hnn, hxe]
            rw [hxe] at start2
            have goon : ((x.f3 ≠ 3 ∨ (l = [] ∧ lst = false))) → ∃ k q e h, walkF (trOf L last) lst k a (40 - j) (s :: l) = some (q, e) ∧ Ev (fun k => linhayref08_Go.f k L last a (s :: l) lst (40 - j)) (if e = 0 then q else 0, h, e) := by
              intro hgo
              obtain ⟨k, q, e, h, h1, h2⟩ := ih l (inR L a s) hl' hj hb'
              refine ⟨k + 1, q, e, h, ?_, start2 (ev_neg hi ?_)⟩
              · rw [hw, if_neg (by rw [hnk, hk]; simp), if_neg hdd, hdn, if_neg (by simp), if_pos (by rw [hnnk]; exact hgo)]; exact h1
              · have hj0 : Ev (fun k => linhayref08_Go.j0 k a (s :: l) lst (40 - j) (inR L a s) true L last x.f0 x.f1 x.f2 x.f3 x.f4) (if e = 0 then q else 0, h, e) := by
                  refine Ev.step (fun k => by rw [linhayref08_Go.j0]) ?_
                  exact ev_pos rfl (ev_pos h1le (ev_bind h2 (Ev.now _)))
                by_cases h3 : x.f3 = 3
                · obtain ⟨rfl, rfl⟩ := hgo.resolve_left (fun h => h h3)
                  exact ev_pos h3 (ev_pos (by rfl) hj0)
                · exact ev_neg h3 hj0
            by_cases h3 : x.f3 = 3
            · by_cases hls : l = [] ∧ lst = false
              · exact goon (.inr hls)
              · have hsz := hM.link x hx h3
                have hs64 := hG.data x hx
                have body : ∀ {r : Int × Int × Int}, Ev (fun k => linhayref08_Go.j0 k a (s :: l) lst (40 - j) (inR L a s) false L last x.f0 x.f1 x.f2 x.f3 x.f4) r → Ev (fun k => linhayref08_Go.f k L last a (s :: l) lst (40 - j)) r := by
                  intro r hr
                  refine start2 (ev_neg hi (ev_pos h3 ?_))
                  by_cases h1 : (((s :: l).length : Nat) : Int) = 1
                  · have hl0 : l = [] := List.eq_nil_of_length_eq_zero (by simp only [List.length_cons] at h1; omega)
                    have hlt : lst = true := by cases lst with | true => rfl | false => exact absurd ⟨hl0, rfl⟩ hls
                    refine ev_pos h1 ?_
                    subst hlt
                    exact hr
                  · exact ev_neg h1 hr
                have hw2 : ∀ k, walkF (trOf L last) lst (k + 1) a (40 - j) (s :: l) = if (40 : Int) ≤ 40 - j then some (a, 10) else walkF (trOf L last) lst k (if slashB x.f4 = true then 1 else a) (40 - j + 1) (partsB x.f4 ++ l) := by
                  intro k
                  rw [hw, if_neg (by rw [hnk, hk]; simp), if_neg hdd, hdn, if_neg (by simp), if_neg (by rw [hnnk]; rintro (h | h); exact h h3; exact hls h), hnnd]
                cases j with
                | zero =>
                  refine ⟨1, a, 10, 40 - (0 : Nat), ?_, body ?_⟩
                  · rw [hw2, if_pos (by omega)]
                  · refine Ev.step (fun k => by rw [linhayref08_Go.j0]) ?_
                    exact ev_neg (by simp) (ev_pos (by omega) (Ev.now _))
                | succ j =>
                  have hpl := partsB_len' x.f4
                  obtain ⟨k, q, e, h, h1, h2⟩ := ihj j (by omega) _ (partsB x.f4 ++ l) (if slashB x.f4 = true then 1 else a) rfl (by omega) (by rw [List.length_append]; omega)
                  have ej : ((40 : Int) - ((j + 1 : Nat) : Int) + 1) = 40 - j := by omega
                  refine ⟨k + 1, q, e, h, ?_, body ?_⟩
                  · rw [hw2, if_neg (by omega), ej]; exact h1
                  · refine Ev.step (fun k => by rw [linhayref08_Go.j0]) ?_
                    refine ev_neg (by simp) (ev_neg (by omega) (ev_pos (by omega) ?_))
                    have hwr : wrap64 ((40 : Int) - ((j + 1 : Nat) : Int) + 1) = 40 - j := by unfold wrap64; omega
                    have hp : Ev (fun k => linhayref04_Parts.f k x.f4) (partsB x.f4) := r04_parts x.f4 (by omega)
                    have fin : ∀ (a' : Int), Ev (fun k => linhayref08_Go.f k L last a' (partsB x.f4 ++ l) lst (40 - j)) (if e = 0 then q else 0, h, e) → Ev (fun k => ((linhayref04_Parts.f k x.f4).bind fun t227 => (if ([] : List ByteArray).length + t227.length < 8796093022208 then ((some (([] : List ByteArray) ++ t227 : List ByteArray)).bind fun y230 => (if 1 ≤ (((s :: l).length : Nat) : Int) then (if y230.length + ((s :: l).drop 1).length < 8796093022208 then ((linhayref08_Go.f k L last a' (y230 ++ ((s :: l).drop 1)) lst (wrap64 ((40 : Int) - ((j + 1 : Nat) : Int) + 1))).bind fun bt237 => (some (bt237.1, bt237.2.1, bt237.2.2))) else (none)) else (none))) else (none)))) (if e = 0 then q else 0, h, e) := by
                      intro a' hr
                      refine ev_bind hp (ev_pos (by simp only [List.length_nil]; omega) (ev_some (ev_pos h1le (ev_pos (by simp only [List.nil_append, List.drop_one, List.tail_cons]; omega) ?_))))
                      rw [hwr, List.nil_append]
                      exact ev_bind hr (Ev.now _)
                    by_cases hsl : bt x.f4 0 = 47
                    · rw [if_pos ((slash_bt hsz).2 hsl)] at h2
                      exact ev_pos hsl (fin 1 h2)
                    · rw [if_neg (fun h => hsl ((slash_bt hsz).1 h))] at h2
                      exact ev_neg hsl (fin a h2)
            · exact goon (.inl h3)
        · rw [if_neg hc] at hdn
          refine ⟨1, a, Sp.check s.data.toList, 40 - j, ?_, start (ev_neg hdd (ev_bind (r03_check s) (ev_neg hc (by rw [if_neg hc]; exact Ev.now _))))⟩
          rw [hw, if_neg (by rw [hnk, hk]; simp), if_neg hdd, hdn, if_pos hc]
    · refine ⟨1, a, 7, 40 - j, ?_, ?_⟩
      · rw [walk_cons, if_pos (by rw [hnk]; exact hk)]
      · refine Ev.step (fun k => by rw [linhayref08_Go.f]) ?_
        exact ev_neg hcons (ev_bind (r07_at L a last hlen) (ev_neg hk (Ev.now _)))
theorem find_both {L : List RN} {last : Int} (hG : GoodL L last) (hM : GoodM L) (lst : Bool) (s : ByteArray) : ∃ k R, findF (trOf L last) lst k s = some R ∧ Ev (fun k => linhayref08_Find.f k L last s lst) R := by
  unfold findF beginE
  by_cases h0 : s.toList = []
  · refine ⟨0, (0, 5), ?_, ?_⟩
    · rw [if_pos h0, if_neg (by decide)]
    · unfold linhayref08_Find.f; exact ev_pos h0 (Ev.now _)
  · by_cases h1 : s.size > 1024
    · refine ⟨0, (0, 11), ?_, ?_⟩
      · rw [if_neg h0, if_pos h1, if_neg (by decide)]
      · unfold linhayref08_Find.f; exact ev_neg h0 (ev_pos (by omega) (Ev.now _))
    · have hpl := partsB_len' s
      obtain ⟨k, q, e, h, h2, h3⟩ := go_both hG hM lst 40 _ (partsB s) 1 rfl (by omega) (by omega)
      refine ⟨k, (if e = 0 then q else 0, e), ?_, ?_⟩
      · rw [if_neg h0, if_neg h1, if_pos rfl, show walkF (trOf L last) lst k 1 0 (partsB s) = some (q, e) from h2]
        simp only [Option.bind_some]
        by_cases he : e = 0
        · rw [if_pos he, if_pos he, he]
        · rw [if_neg he, if_neg he]
      · unfold linhayref08_Find.f
        exact ev_neg h0 (ev_neg (by omega) (ev_bind (r04_parts s (by omega)) (ev_bind h3 (Ev.now _))))
end Go.Proofs.Ytjfigngmpagloaa.Tw

namespace Go.Proofs.Ytjfigngmpagloaa.Tw
open Go Go.RowKit Go.Shelf Go.Proofs Go.Proofs.Ytjfigngmpagloaa Go.Proofs.YtjfigngmpagloaaW.PrintWords Go.Proofs.Ytjfigngmpagloaa.Ext Go.Proofs.Ytjfigngmpagloaa.X Go.Proofs.Ytjfigngmpagloaa.Pu
set_option linter.unusedVariables false
set_option linter.unusedSimpArgs false
end Go.Proofs.Ytjfigngmpagloaa.Tw

namespace Go.Proofs.Ytjfigngmpagloaa.Tw
open Go Go.RowKit Go.Shelf Go.Proofs Go.Proofs.Ytjfigngmpagloaa Go.Proofs.YtjfigngmpagloaaW.PrintWords Go.Proofs.Ytjfigngmpagloaa.Ext Go.Proofs.Ytjfigngmpagloaa.X Go.Proofs.Ytjfigngmpagloaa.Pu Go.Sort
set_option linter.unusedVariables false
set_option linter.unusedSimpArgs false
end Go.Proofs.Ytjfigngmpagloaa.Tw

namespace Go.Proofs.Ytjfigngmpagloaa.Tw
open Go Go.RowKit Go.Shelf Go.Proofs Go.Proofs.Ytjfigngmpagloaa Go.Proofs.YtjfigngmpagloaaW.PrintWords Go.Proofs.Ytjfigngmpagloaa.Ext Go.Proofs.Ytjfigngmpagloaa.X Go.Proofs.Ytjfigngmpagloaa.Pu
set_option linter.unusedVariables false
set_option linter.unusedSimpArgs false
end Go.Proofs.Ytjfigngmpagloaa.Tw

namespace Go.Proofs.Ytjfigngmpagloaa.Ext
end Go.Proofs.Ytjfigngmpagloaa.Ext
namespace Go.Proofs.Ytjfigngmpagloaa.X
open Go.RowKit Go.Proofs.YtjfigngmpagloaaW.PrintWords Go.Proofs.YtjfigngmpagloaaW.PrintLast Go.Proofs.YtjfigngmpagloaaW.PrintMore Go.Proofs.Ytjfigngmpagloaa.Ext
attribute [local go_sem] max2_int min2_int max_two min_two max_three min_three max_four min_four   -- for this text's walks alone
set_option linter.unusedVariables false
set_option linter.unusedSimpArgs false

end Go.Proofs.Ytjfigngmpagloaa.X

namespace Go.Proofs.Ytjfigngmpagloaa.Tw
open Go Go.RowKit Go.Shelf Go.Proofs Go.Proofs.Ytjfigngmpagloaa Go.Proofs.YtjfigngmpagloaaW.PrintWords Go.Proofs.Ytjfigngmpagloaa.Ext Go.Proofs.Ytjfigngmpagloaa.X Go.Proofs.Ytjfigngmpagloaa.Pu
set_option linter.unusedVariables false
set_option linter.unusedSimpArgs false
theorem root_at {L : List RN} {last : Int} (h : GoodL L last) : (atR L 1).f0 = 1 ∧ (atR L 1).f1 = 1 ∧ (atR L 1).f3 = 1 := by
  obtain ⟨r, hr, h0, h1, h3⟩ := h.root
  have := at_mem h hr
  rw [h0] at this
  rw [this]
  exact ⟨h0, h1, h3⟩
theorem inR_of {L : List RN} {last : Int} (hG : GoodL L last) {r : RN} (hr : r ∈ L) (h1 : r.f0 ≠ 1) : inR L r.f1 r.f2 = r.f0 := by
  have hne : inR L r.f1 r.f2 ≠ 0 := by
    intro h0
    exact inR_none hG (d := r.f1) (s := r.f2) (by omega) r hr rfl h1 rfl
  obtain ⟨q, hq, q0, q1, q2, q3, _⟩ := inR_mem hG hne
  rw [← q0]
  obtain ⟨i, hi, rfl⟩ := List.getElem_of_mem hq
  obtain ⟨j, hj, rfl⟩ := List.getElem_of_mem hr
  rcases Nat.lt_trichotomy i j with hlt | rfl | hgt
  · exact absurd q2 (List.pairwise_iff_getElem.1 hG.names i j hi hj hlt q1 q3 h1)
  · rfl
  · exact absurd q2.symm (List.pairwise_iff_getElem.1 hG.names j i hj hi hgt q1.symm h1 q3)
end Go.Proofs.Ytjfigngmpagloaa.Tw

namespace Go.Proofs.Ytjfigngmpagloaa.Tw
open Go Go.RowKit Go.Shelf Go.Proofs Go.Proofs.Ytjfigngmpagloaa Go.Proofs.YtjfigngmpagloaaW.PrintWords Go.Proofs.Ytjfigngmpagloaa.Ext Go.Proofs.Ytjfigngmpagloaa.X Go.Proofs.Ytjfigngmpagloaa.Pu
set_option linter.unusedVariables false
set_option linter.unusedSimpArgs false
structure But (w w' : World) (k : Nat) : Prop where
  g : w.grownBy w' (some k)
  no : ∀ a s, a.block = k → w.cell? a ≠ some (.string s)
theorem But.cell {w w' : World} {k : Nat} (h : But w w' k) {a : Addr} {v : Value} (hne : a.block ≠ k) (hc : w.cell? a = some v) : w'.cell? a = some v := by
  have hlt := block_lt_of_cell hc
  rw [← hc]
  unfold World.cell?
  rw [h.g.block _ hlt (fun e => hne (Option.some.inj e))]
theorem add_block (ad : Addr) (n : Nat) : (ad.add n).block = ad.block := by unfold Addr.add; split <;> rfl
theorem EntsAt.but {w w' : World} {k : Nat} {s : Value} {l : List En} (h : EntsAt w s l) (hb : But w w' k) : EntsAt w' s l := by
  obtain ⟨A, c, e1, e2, hC⟩ := h
  refine ⟨A, c, e1, e2, hC.1, hC.2.1, fun hn => ?_⟩
  obtain ⟨ad, eA, hc⟩ := hC.2.2 hn
  refine ⟨ad, eA, fun j q hj => ?_⟩
  obtain ⟨cs, hl, hK, hq⟩ := hc j q hj
  obtain rfl := k108_open hK
  have hne : ad.block ≠ k := fun e => hb.no _ _ ((add_block ad _).trans e) (hq 0 _ rfl)
  exact ⟨_, hl, k108_mk _ _, fun i u hu => hb.cell (by rw [add_block]; exact hne) (hq i u hu)⟩
theorem RAt.but {w w' : World} {k : Nat} {v : Value} {L : List RN} {last : Int} (h : RAt w v L last) (hb : But w w' k) : RAt w' v L last := by
  obtain ⟨A, c, e1, e2, hC⟩ := h
  refine ⟨A, c, e1, e2, hC.1, hC.2.1, fun hn => ?_⟩
  obtain ⟨ad, eA, hc⟩ := hC.2.2 hn
  refine ⟨ad, eA, fun j q hj => ?_⟩
  obtain ⟨cs, hl, hK, hq⟩ := hc j q hj
  obtain rfl := k97_open hK
  have hne : ad.block ≠ k := fun e => hb.no _ _ ((add_block ad _).trans e) (hq 2 _ rfl)
  exact ⟨_, hl, k97_mk _ _, fun i u hu => hb.cell (by rw [add_block]; exact hne) (hq i u hu)⟩
theorem TreeB.but {w w' : World} {p B k : Nat} {T : Tr} (h : TreeB w p B T) (hb : But w w' k) (hp : p ≠ k) (hB : B ≠ k) : TreeB w' p B T := by
  obtain ⟨sv, D, h⟩ := h
  exact ⟨sv, D, (hb.g.block _ (blk_lt h.ptr) (fun e => hp (Option.some.inj e))).trans h.ptr, h.map.kept hb.g (fun e => hB (Option.some.inj e)), h.cnt, h.has, h.at_, fun n x hn hx => EntsAt.but (h.ents n x hn hx) hb⟩
theorem but_two {w : World} {k : Nat} {v0 v1 u0 u1 : Value} {t : TypeId} (h : w.heap[k]? = some (.cells #[v0, v1] t (0, 0))) (h0 : ∀ s, v0 ≠ .string s) (h1 : ∀ s, v1 ≠ .string s) :
    But w ((w.setCell ⟨k, 0, none⟩ u0).setCell ⟨k, 1, none⟩ u1) k := by
  refine ⟨⟨rfl, rfl, rfl, by simp, fun j _ hj => ?_⟩, ?_⟩
  · have hne : j ≠ k := fun e => hj (by rw [e])
    exact (Below.heap_setCell _ ⟨k, 1, none⟩ u1 j hne).trans (Below.heap_setCell w ⟨k, 0, none⟩ u0 j hne)
  · rintro ⟨b, o, sp⟩ s rfl
    simp only [World.cell?, h]
    split
    · simp
    · match o with
      | 0 => simpa using fun e => h0 s e
      | 1 => simpa using fun e => h1 s e
      | n + 2 => simp
end Go.Proofs.Ytjfigngmpagloaa.Tw

namespace Go.Proofs.Ytjfigngmpagloaa.Tw
open Go Go.RowKit Go.Shelf Go.Proofs Go.Proofs.Ytjfigngmpagloaa Go.Proofs.YtjfigngmpagloaaW.PrintWords Go.Proofs.Ytjfigngmpagloaa.Ext Go.Proofs.Ytjfigngmpagloaa.X Go.Proofs.Ytjfigngmpagloaa.Pu
set_option linter.unusedVariables false
set_option linter.unusedSimpArgs false
def IsI (u : Value) : Prop := ∃ m : Int, u = .int .i64 m
def OwnN (w : World) (base : Nat) (v : Value) (l : List Int) : Prop :=
  (v = .slice none 0 0 ∧ l = []) ∨
  ∃ g cap cur, v = .slice (some ⟨g, 0, none⟩) l.length cap ∧ base ≤ g ∧ w.heap[g]? = some (.cells cur 3 (0, 0)) ∧ l.length ≤ cap ∧ cap ≤ maxLen ∧ cur.size = cap ∧ cur.toList.take l.length = l.map (Value.int .i64) ∧ ∀ u ∈ cur.toList, IsI u
theorem infoI : (Try.prog.info? 3).map (fun i => (i.zero, i.size, i.bytes)) = some (some (.int .i64 0), 1, 8) := by kernel_rfl
theorem OwnN.made (W : World) (base : Nat) (hb : base ≤ W.heap.size) : OwnN (W.alloc (.cells #[] 3)) base (.slice (some ⟨W.heap.size, 0, none⟩) 0 0) [] :=
  .inr ⟨W.heap.size, 0, #[], rfl, hb, heap_alloc_new W _, Nat.le_refl _, by simp [maxLen], rfl, rfl, by simp⟩
theorem OwnN.toR {w : World} {base : Nat} {v : Value} {l : List Int} (h : OwnN w base v l) : Kd.R (Kd.int .i64) 3 w base (fun _ => True) v l := by
  refine Kd.R_of_own ?_ (fun _ _ => trivial)
  refine ⟨by simp [encs], ?_⟩
  rcases h with ⟨rfl, rfl⟩ | ⟨g, cap, cur, rfl, hb, hh, hle, hm, hc, ht, _⟩
  · exact .inl ⟨rfl, rfl⟩
  · refine .inr ⟨g, cap, cur, rfl, hb, hh, hle, hm, by omega, ?_⟩
    rw [Nat.mul_one, ht]; rfl
theorem OwnN.step {w w' : World} {base : Nat} {v : Value} {l : List Int} (h : OwnN w base v l) (hs : ∀ k cur, k < w.heap.size → w.heap[k]? = some (.cells cur 3 (0, 0)) → w'.heap[k]? = w.heap[k]?) : OwnN w' base v l := by
  rcases h with h | ⟨g, cap, cur, e, hb, hh, r⟩
  · exact .inl h
  · exact .inr ⟨g, cap, cur, e, hb, (hs g cur (blk_lt hh) hh).trans hh, r⟩
theorem OwnN.below {w w' : World} {base : Nat} {v : Value} {l : List Int} (h : OwnN w base v l) (hb : Below w.heap.size w w') : OwnN w' base v l := h.step (fun k _ hk _ => hb.block k hk)
theorem OwnN.frm {w w' : World} {p B base : Nat} {T : Tr} {v : Value} {l : List Int} (h : OwnN w base v l) (hT : TreeB w p B T) (hf : Frm w w' p B) : OwnN w' base v l := by
  obtain ⟨hp, es, clock, hB⟩ := hT.two
  refine h.step (fun k cur hk hh => hf.block k hk ?_ ?_)
  · rintro rfl
    rw [hp] at hh
    injection hh with hh
    injection hh with _ hh
    exact absurd hh (by decide)
  · rintro rfl
    rw [hB] at hh
    cases hh
theorem OwnN.but {w w' : World} {k base : Nat} {v : Value} {l : List Int} {cs : Array Value} {t : TypeId} {fr : Nat × Nat} (h : OwnN w base v l) (hk : w.heap[k]? = some (.cells cs t fr)) (ht : t ≠ 3) (hb : But w w' k) : OwnN w' base v l := by
  refine h.step (fun j cur hj hh => hb.g.block j hj ?_)
  intro e
  obtain rfl : j = k := Option.some.inj e
  rw [hk] at hh
  injection hh with hh
  injection hh with _ hh
  exact ht hh
theorem OwnN.noS {w : World} {base : Nat} {v : Value} {l : List Int} (h : OwnN w base v l) (k : Nat) (hk : v.ownBlock = some k) : ∀ a s, a.block = k → w.cell? a ≠ some (.string s) := by
  rcases h with ⟨rfl, _⟩ | ⟨g, cap, cur, rfl, hb, hh, hle, hm, hc, ht, ha⟩
  · cases hk
  · injection hk with hk
    change g = k at hk
    subst hk
    rintro ⟨b, o, sp⟩ s rfl
    simp only [World.cell?, hh]
    split
    · simp
    · intro e
      obtain ⟨m, hm⟩ := ha _ (List.mem_of_getElem? (by simpa using e))
      cases hm
theorem drewAlloc (w : World) (o : Obj) (row : Option Nat) : w.grownBy (w.drew.alloc o) row := ⟨rfl, rfl, rfl, by simp, fun k hk _ => heap_alloc_old w.drew o k hk⟩
theorem zero_is (n : Nat) : ∀ u ∈ (Builtin.zeroCells (Value.cells (.int .i64 0)) n).toList, IsI u := by
  intro u hu
  simp only [Builtin.zeroCells] at hu
  simp at hu
  obtain ⟨_, hu⟩ := hu
  have : u = .int .i64 0 := by simp [Value.cells, Nat.mod_one] at hu; exact hu.2.symm
  exact ⟨0, this⟩
theorem OwnN.append {W : World} {base : Nat} {v : Value} {l : List Int} (h : OwnN W base v l) (x : Int) (ty : TypeId) (hb : base ≤ W.heap.size) (hl : l.length < 1000000) :
    ∃ v' w', (Builtin.append_ #[91, 91] ty #[v, .slice (some ⟨W.heap.size, 0, none⟩) 1 1]).run Try.prog (W.alloc (.cells #[.int .i64 x] 3)) = .ok v' w' ∧ OwnN w' base v' (l ++ [x]) ∧ W.grownBy w' v.ownBlock := by
  obtain ⟨i0, hi, hz0, hz1, hz2⟩ := info_parts infoI
  have ht := Try.underlying91
  have hnews := cell_one_new W (.int .i64 x) 3
  have h1 : ∀ u ∈ [Value.int .i64 x], u.oneCell' = true := by intro u hu; rw [List.mem_singleton.1 hu]; rfl
  have hgr := World.grownBy_alloc W (.cells #[.int .i64 x] 3)
  rcases h with ⟨rfl, rfl⟩ | ⟨g, cap, cur, rfl, hbg, hh, hle, hm, hc, htk, ha⟩
  · have hr := run_append_nil (P := Try.prog) (W.alloc (.cells #[.int .i64 x] 3)) 91 ty 3 i0 (.int .i64 0) ht hi hz0 ⟨W.heap.size, 0, none⟩ 1 1 [.int .i64 x] (by rw [hz1]; rfl) hnews (by omega) (by omega) (by rw [hz2]; omega)
    refine ⟨_, _, hr, .inr ⟨_, _, _, rfl, ?_, heap_alloc_new _ _, ?_, ?_, ?_, ?_, ?_⟩, ?_⟩
    · show base ≤ (W.alloc _).heap.size
      simp; omega
    · exact grownCap_ge _ 1 0 _
    · exact grownCap_le_maxLen _ 1 0 _ (by simp [maxLen])
    · have := grownCap_ge (W.alloc (.cells #[.int .i64 x] 3)) 1 0 3
      simp only [Array.size_append, List.size_toArray, size_zeroCells]
      simp [Value.cells]
      omega
    · simp
    · intro u hu
      rw [Array.toList_append] at hu
      rcases List.mem_append.1 hu with hu | hu
      · exact ⟨x, by simpa using hu⟩
      · exact zero_is _ u hu
    · exact World.grownBy.trans (hgr _) (drewAlloc _ _ _)
  · have hg' : (W.alloc (.cells #[.int .i64 x] 3)).heap[g]? = some (.cells cur 3 (0, 0)) := (heap_alloc_old W _ g (blk_lt hh)).trans hh
    have hgr := World.grownBy_alloc W (.cells #[.int .i64 x] 3) (some g)
    by_cases hroom : l.length + 1 ≤ cap
    · have hr := run_append_room (P := Try.prog) (W.alloc (.cells #[.int .i64 x] 3)) 91 ty 3 i0 ht hi g l.length cap cur hg' ⟨W.heap.size, 0, none⟩ 1 1 [.int .i64 x] (by rw [hz1]; rfl) hnews h1 hroom (by rw [hz1]; simp; omega)
      rw [hz1, Nat.mul_one] at hr
      refine ⟨_, _, hr, .inr ⟨g, cap, _, by simp, hbg, setRow_heap _ g cur _ _ _ hg', by simpa using hroom, hm, ?_, ?_, ?_⟩, ?_⟩
      · have hcl : cur.toList.length = cap := by simpa using hc
        simp only [List.size_toArray, List.length_append, List.length_take, List.length_drop, hcl, List.length_singleton]
        omega
      · rw [htk, List.map_append, List.length_append]
        have e : (l.map (Value.int .i64) ++ [Value.int .i64 x]).length = l.length + 1 := by simp
        show List.take (l.length + 1) (l.map (Value.int .i64) ++ [Value.int .i64 x] ++ _) = _
        rw [← e]
        exact List.take_left
      · intro u hu
        simp only [List.mem_append] at hu
        rcases hu with (hu | hu) | hu
        · exact ha u (List.mem_of_mem_take hu)
        · exact ⟨x, by simpa using hu⟩
        · exact ha u (List.mem_of_mem_drop hu)
      · exact hgr.trans ⟨rfl, rfl, rfl, by simp [World.setRow], fun k hk hne => setRow_other _ g k _ (fun e => hne (by simp [e]))⟩
    · have holds : ∀ j u, (l.map (Value.int .i64))[j]? = some u → (W.alloc (.cells #[.int .i64 x] 3)).cell? ((⟨g, 0, none⟩ : Addr).add j) = some u := by
        intro j u hu
        rw [← htk, List.getElem?_take] at hu
        have hadd : (⟨g, 0, none⟩ : Addr).add j = ⟨g, j, none⟩ := by simp [Addr.add_lit]
        rw [hadd, cell_of_row _ g j cur _ (0, 0) hg']
        split at hu
        · simpa using hu
        · cases hu
      have hle2 : l.length ≤ cap := hle
      have hr := run_append_grow (P := Try.prog) (W.alloc (.cells #[.int .i64 x] 3)) 91 ty 3 i0 (.int .i64 0) ht hi hz0 ⟨g, 0, none⟩ l.length cap (l.map (Value.int .i64)) (by rw [hz1]; simp) holds ⟨W.heap.size, 0, none⟩ 1 1 [.int .i64 x] (by rw [hz1]; rfl) hnews (by omega) (by omega) (growslice_fits (by omega) (by rw [hz2]; omega))
      refine ⟨_, _, hr, .inr ⟨_, grownCap (W.alloc (.cells #[.int .i64 x] 3)) (l.length + 1) cap 3, _, by simp, ?_, heap_alloc_new _ _, ?_, ?_, ?_, ?_, ?_⟩, ?_⟩
      · show base ≤ (W.alloc _).heap.size
        simp; omega
      · simpa using grownCap_ge _ (l.length + 1) cap _
      · exact grownCap_le_maxLen _ (l.length + 1) cap _ (by simp [maxLen]; omega)
      · have := grownCap_ge (W.alloc (.cells #[.int .i64 x] 3)) (l.length + 1) cap 3
        simp only [Array.size_append, List.size_toArray, size_zeroCells]
        simp [Value.cells]
        omega
      · rw [Array.toList_append, Array.toList_append]
        have e : (l.map (Value.int .i64) ++ [Value.int .i64 x]).length = l.length + 1 := by simp
        show List.take (l ++ [x]).length (l.map (Value.int .i64) ++ [Value.int .i64 x] ++ _) = _
        rw [List.length_append, List.map_append]
        show List.take (l.length + 1) _ = _
        rw [← e]
        exact List.take_left
      · intro u hu
        rw [Array.toList_append, Array.toList_append] at hu
        simp only [List.mem_append] at hu
        rcases hu with (hu | hu) | hu
        · obtain ⟨m, _, rfl⟩ := List.mem_map.1 hu
          exact ⟨m, rfl⟩
        · exact ⟨x, by simpa using hu⟩
        · exact zero_is _ u hu
      · exact hgr.trans (drewAlloc _ _ _)
theorem OwnN.blk {w : World} {base : Nat} {v : Value} {l : List Int} (h : OwnN w base v l) (k : Nat) (hk : v.ownBlock = some k) : base ≤ k ∧ ∃ cur, w.heap[k]? = some (.cells cur 3 (0, 0)) := by
  rcases h with ⟨rfl, _⟩ | ⟨g, cap, cur, rfl, hb, hh, _⟩
  · cases hk
  · injection hk with hk
    change g = k at hk
    subst hk
    exact ⟨hb, cur, hh⟩
theorem TreeB.app {w w' : World} {p B base : Nat} {T : Tr} {v : Value} {l : List Int} (h : TreeB w p B T) (hN : OwnN w base v l) (hg : w.grownBy w' v.ownBlock) : TreeB w' p B T := by
  cases hk : v.ownBlock with
  | none => rw [hk] at hg; exact h.below ⟨hg.os, hg.tape, hg.output, hg.size, fun k hk => hg.block k hk (by simp)⟩
  | some k =>
    rw [hk] at hg
    obtain ⟨_, cur, hc⟩ := hN.blk k hk
    obtain ⟨hp, es, clock, hB⟩ := h.two
    refine h.but ⟨hg, hN.noS k hk⟩ ?_ ?_
    · rintro rfl
      rw [hp] at hc
      injection hc with hc
      injection hc with _ hc
      exact absurd hc (by decide)
    · rintro rfl
      rw [hB] at hc
      cases hc
theorem RAt.app {w w' : World} {base : Nat} {u v : Value} {L : List RN} {last : Int} {l : List Int} (h : RAt w u L last) (hN : OwnN w base v l) (hg : w.grownBy w' v.ownBlock) : RAt w' u L last := by
  cases hk : v.ownBlock with
  | none => rw [hk] at hg; exact h.below ⟨hg.os, hg.tape, hg.output, hg.size, fun k hk => hg.block k hk (by simp)⟩
  | some k => rw [hk] at hg; exact h.but ⟨hg, hN.noS k hk⟩
theorem cells_app {w w' : World} {base k : Nat} {v : Value} {l : List Int} {cs : Array Value} {t : TypeId} {fr : Nat × Nat} (h : w.heap[k]? = some (.cells cs t fr)) (ht : t ≠ 3) (hN : OwnN w base v l) (hg : w.grownBy w' v.ownBlock) : w'.heap[k]? = some (.cells cs t fr) := by
  refine (hg.block k (blk_lt h) (fun e => ?_)).trans h
  obtain ⟨_, cur, hc⟩ := hN.blk k e.symm
  rw [h] at hc
  injection hc with hc
  injection hc with _ hc
  exact ht hc
theorem below_app {w0 w w' : World} {base : Nat} {v : Value} {l : List Int} (hB : Below base w0 w) (hN : OwnN w base v l) (hb : base ≤ w.heap.size) (hg : w.grownBy w' v.ownBlock) : Below base w0 w' := hB.grown hg hb (fun k hk => (hN.blk k hk).1)
theorem two_set {w : World} {k : Nat} {v0 v1 u0 u1 : Value} {t : TypeId} (h : w.heap[k]? = some (.cells #[v0, v1] t (0, 0))) : ((w.setCell ⟨k, 0, none⟩ u0).setCell ⟨k, 1, none⟩ u1).heap[k]? = some (.cells #[u0, u1] t (0, 0)) := by
  have k1 : (w.setCell ⟨k, 0, none⟩ u0).heap[k]? = some (.cells #[u0, v1] t (0, 0)) := by rw [setCell_eq_setRow w _ 0 _ _ _ _ h, setRow_heap w _ _ _ _ _ h]; rfl
  rw [setCell_eq_setRow _ _ 1 _ _ _ _ k1, setRow_heap _ _ _ _ _ _ k1]; rfl
section
variable {ops : Array Oper} {rest : List Oper} {o : Oper} {a : Act} {Q : Exit → Act → World → Prop}
theorem wpList_append_ints {W : World} (hgd : o.guard = none) (s x : Operand) (ho : o.op = .call { callee := .builtin .append, args := #[s, x], argTypes := #[91, 91] }) (base : Nat) (v : Value) (l : List Int) (n : Int) (hs : a.eval s = v) (hx : a.eval x = .slice (some ⟨W.heap.size, 0, none⟩) 1 1)
    (HO : OwnN W base v l) (hb : base ≤ W.heap.size) (hl : l.length < 1000000)
    (h : ∀ v' w', OwnN w' base v' (l ++ [n]) → W.grownBy w' v.ownBlock → wpList Try.prog ops Q rest (a.put o.dst v') w') :
    wpList Try.prog ops Q (o :: rest) a (W.alloc (.cells #[.int .i64 n] 3)) := by
  obtain ⟨v', w', hr, h2, h3⟩ := HO.append n o.type hb hl
  refine wpList_plain hgd fun K hK => ?_
  have hw := h v' w' h2 h3
  unfold Oper.wp execOp
  simp only [ho, resolve, invoke, builtin, Sem.run_bind, Sem.run_pure, Result.andThen_ok, List.map_toArray, List.map_cons, List.map_nil, hs, hx, hr]
  exact hK _ _ hw
end
end Go.Proofs.Ytjfigngmpagloaa.Tw

namespace Go.Proofs.Ytjfigngmpagloaa.Tw
open Go Go.RowKit Go.Shelf Go.Proofs Go.Proofs.Ytjfigngmpagloaa Go.Proofs.YtjfigngmpagloaaW.PrintWords Go.Proofs.Ytjfigngmpagloaa.Ext Go.Proofs.Ytjfigngmpagloaa.X Go.Proofs.Ytjfigngmpagloaa.Pu
set_option linter.unusedVariables false
set_option linter.unusedSimpArgs false
structure MW (w wr : World) (p B r : Nat) (v6 : Value) (st : MSt) : Prop where
  hb : Below w.heap.size w wr
  tree : TreeB wr p B (trOf st.L st.last)
  hp : w.heap.size ≤ p
  hB : w.heap.size ≤ B
  hr : w.heap.size < r
  cell : ∃ A c, wr.heap[r]? = some (.cells #[.slice A st.L.length c, .int .i64 st.last] 28 (0, 0)) ∧ st.L.length ≤ c ∧ Kd.C k97 wr A st.L.length st.L
  nums : OwnN wr w.heap.size v6 st.nums
  res : wr.heap[w.heap.size]? = some (.cells #[.slice none 0 0, .int .i64 0] 28 (0, 0))
theorem made_round {w w8 w9 : World} {p B r : Nat} {A7 : Option Addr} {c7 : Nat} {L7 : List RN} {n7 : Int} {v : Value} {l : List Int} {T : Tr}
    (F : TreeB w8 p B T ∧ RAt w8 (.agg #[.slice A7 L7.length c7, .int .i64 n7]) L7 n7 ∧ OwnN w8 w.heap.size v l ∧ w8.heap[w.heap.size]? = some (.cells #[.slice none 0 0, .int .i64 0] 28 (0, 0)) ∧ w8.heap[r]? = some (.cells #[.slice A7 L7.length c7, .int .i64 n7] 28 (0, 0)) ∧ Below w.heap.size w w8) (hle : L7.length ≤ c7) (hg : w8.grownBy w9 v.ownBlock) :
    Below w.heap.size w w9 ∧ TreeB w9 p B T ∧ w9.heap[r]? = some (.cells #[.slice A7 L7.length c7, .int .i64 n7] 28 (0, 0)) ∧ L7.length ≤ c7 ∧ Kd.C k97 w9 A7 L7.length L7 ∧ w9.heap[w.heap.size]? = some (.cells #[.slice none 0 0, .int .i64 0] 28 (0, 0)) := by
  obtain ⟨hT, hR, hN, hS, hc, hB⟩ := F
  obtain ⟨A', c', e, h1, h2⟩ := hR.app hN hg
  simp only [Value.agg.injEq, Array.mk.injEq, List.cons.injEq, Value.slice.injEq, true_and, and_true] at e
  obtain ⟨rfl, rfl⟩ := e
  exact ⟨below_app hB hN hB.size hg, hT.app hN hg, cells_app hc (by decide) hN hg, h1, h2, cells_app hS (by decide) hN hg⟩
set_option maxHeartbeats 2000000 in
set_option maxRecDepth 1000000 in
theorem made_calls (A : Option Addr) (c : Nat) (l : List MN) (w : World) (hC : Kd.C k89 w A l.length l) (hc : l.length ≤ c) (hl : l.length ≤ 60) (hs : ∀ x ∈ l, x.f1.size < 4294967281) :
    Calls Try.prog 12 #[.slice A l.length c] w fun e w' => ∃ p B v, e = .returned (.tuple #[pT p, v]) ∧ TreeB w' p B (trOf (madeF l).L (madeF l).last) ∧ RAt w' v (madeF l).L (madeF l).last ∧ Below w.heap.size w w' ∧ w.heap.size ≤ p ∧ w.heap.size ≤ B := by
  have HC := Lib.hid hC
  have HS := Lib.hid hs
  have HN := Lib.hid (fun W => new_calls W)
  have HRN := Lib.hid (fun W => linhayref07_New.calls [⟨1, 1, ⟨#[]⟩, 1, ⟨#[]⟩⟩] 1 W rfl)
  clear hC hs
  go_enter Try.func12, Try.ntmps12
  go_wp2_with (first | (go_at_call 45; refine (HN.out _).mono ?_; rintro e w2 ⟨p, B, rfl, hT2, hb2, hp2, hB2⟩) | (go_at_call 43; refine (HRN.out _).mono ?_; rintro e w3 ⟨v3, rfl, ho3, hb3⟩; obtain ⟨A3, c3, rfl, hle3, hC3⟩ := Kd.R_reads ho3))
  have hM0 : MW w ((w3.alloc (.cells #[.slice A3 1 c3, .int .i64 1] 28)).alloc (.cells #[] 3)) p B w3.heap.size (.slice (some ⟨w3.heap.size + 1, 0, none⟩) 0 0) made0 := by
    have hb0 := (Below.refl w.heap.size w).alloc (Nat.le_refl _) (.cells #[.slice none 0 0, .int .i64 0] 28)
    have hsz0 : w.heap.size + 1 = (w.alloc (.cells #[.slice none 0 0, .int .i64 0] 28)).heap.size := by simp
    have hbA := below_two w3 (.cells #[.slice A3 1 c3, .int .i64 1] 28) (.cells #[] 3)
    have hb3' : Below w.heap.size w w3 := (hb0.trans (hb2.mono (by omega))).trans (hb3.mono (Nat.le_trans (by omega) hb2.size))
    have hle : w.heap.size + 1 ≤ w3.heap.size := Nat.le_trans (Nat.le_trans (by omega) hb2.size) hb3.size
    have h1 := heap_alloc_new w (.cells #[.slice none 0 0, .int .i64 0] 28)
    refine ⟨hb3'.trans (hbA.mono hb3'.size), by
      have := (hT2.below hb3).below hbA
      rw [T0_eq] at this
      exact this, by omega, by omega, by omega, ⟨A3, c3, ?_, hle3, Kd.C_below hC3 hbA⟩, ?_, ?_⟩
    · exact (((Below.refl _ (w3.alloc (.cells #[.slice A3 1 c3, .int .i64 1] 28))).alloc (Nat.le_refl _) (.cells #[] 3)).block w3.heap.size (by simp)).trans (heap_alloc_new w3 _)
    · have := OwnN.made (w3.alloc (.cells #[.slice A3 1 c3, .int .i64 1] 28)) w.heap.size (by simp; omega)
      simpa [made0] using this
    · exact (hbA.block _ (by omega)).trans ((hb3.block _ (by have := hb2.size; omega)).trans ((hb2.block _ (by omega)).trans h1))
  have HM0 := Aside0.mk hM0
  clear hM0 hb2 hb3 hT2 hp2 hB2 ho3 hle3 hC3
  go_loopw [6, 7] (fun v6 v7 wr => ∃ i : Nat, v7 = .int .i64 (i : Int) ∧ i ≤ l.length ∧ MW w wr p B w3.heap.size v6 ((l.take i).foldl madeStep made0) ∧ MInv ((l.take i).foldl madeStep made0) i) (fun _ v _ => l.length - (intOf v).toNat)
  case atStart => exact ⟨0, rfl, Nat.zero_le _, HM0.out, minv0⟩
  case round =>
    obtain ⟨i, rfl, hi, hM, hI⟩ := hrel
    have HM := Aside0.mk hM
    have HI := Aside0.mk hI
    by_cases hlt : i < l.length
    · obtain ⟨ad, eA, a0, a1, a2, a3⟩ := at_T89 (Kd.C_below HC.out hM.hb) (i : Int) (by omega) (by omega)
      have hrd : rd_T89 l (i : Int) = l[i] := by simp [rd_T89, hlt]
      rw [hrd] at a0 a1 a2 a3
      rw [Int.toNat_natCast] at a0 a1 a2 a3
      subst eA
      have hsz := HS.out l[i] (List.getElem_mem hlt)
      have htk : (l.take (i + 1)).foldl madeStep made0 = madeStep ((l.take i).foldl madeStep made0) l[i] := by
        rw [List.take_succ_eq_append_getElem hlt, List.foldl_append]; rfl
      have HTK := Lib.hid htk
      have HRD := Lib.hid hrd
      clear htk hrd
      generalize (l.take i).foldl madeStep made0 = st at *
      generalize l[i] = x at *
      obtain ⟨A5, c5, hcl, hle5, hC5⟩ := hM.cell
      obtain ⟨A6, c6, rfl, hle6, hC6⟩ := Kd.R_reads hM.nums.toR
      have hlen := hI.len
      have hlt' : (i : Int) < (l.length : Int) := by omega
      have hi0 : (0 : Int) ≤ (i : Int) := by omega
      have HCL := Aside0.mk (And.intro hcl (And.intro hle5 hC5))
      have HARG := Lib.hid (fun (W : World) (h : Below w.heap.size w W) => show W.cell? ⟨(ad.add (i * 4)).block, (ad.add (i * 4)).off + 1, none⟩ = some (.string x.f1) ∧ W.cell? ⟨(ad.add (i * 4)).block, (ad.add (i * 4)).off + 2, none⟩ = some (.int .i64 x.f2) ∧ W.cell? ⟨(ad.add (i * 4)).block, (ad.add (i * 4)).off + 3, none⟩ = some (.string x.f3) by
        obtain ⟨ad', e', b0, b1, b2, b3⟩ := at_T89 (Kd.C_below HC.out h) (i : Int) hi0 hlt'
        cases e'
        rw [Int.toNat_natCast, HRD.out] at b0 b1 b2 b3
        exact ⟨b1, b2, b3⟩)
      have hdin := dirAt_in HI.out x
      have hla : st.last < 1000000 := by have := HI.out.last; omega
      have HPT := Lib.hid (fun W h => tput_calls p B st.L st.last (dirAt st.nums x) x.f1 x.f2 x.f3 W h HI.out.good (wf_of (by omega)) hsz hla)
      have HRP := Lib.hid (fun v W h => rput_calls st.L st.last (dirAt st.nums x) v x.f1 x.f2 x.f3 W h HI.out.good hla)
      have HSTEP := Lib.hid (show madeStep st x = ⟨putL st.L st.last (dirAt st.nums x) x.f1 x.f2 x.f3, putN st.L st.last (dirAt st.nums x) x.f1 x.f2 x.f3, st.nums ++ [putA st.L st.last (dirAt st.nums x) x.f1 x.f2 x.f3]⟩ from rfl)
      have hdir0 : dirAt st.nums x = (if 0 ≤ x.f0 ∧ x.f0 < (i : Int) then st.nums.getD x.f0.toNat 0 else 1) := by
        unfold dirAt; rw [hlen]
      generalize putL st.L st.last (dirAt st.nums x) x.f1 x.f2 x.f3 = L7 at HPT HRP HSTEP
      generalize putN st.L st.last (dirAt st.nums x) x.f1 x.f2 x.f3 = n7 at HPT HRP HSTEP
      generalize putA st.L st.last (dirAt st.nums x) x.f1 x.f2 x.f3 = m7 at HPT HRP HSTEP
      generalize putRE st.L (dirAt st.nums x) x.f1 x.f2 x.f3 = e7 at HPT HRP
      have HNL := Lib.hid hlen
      by_cases hd : 0 ≤ x.f0 ∧ x.f0 < (i : Int)
      case' pos =>
        obtain ⟨d0, d1⟩ := hd
        obtain ⟨a6, eA6, n0⟩ := Kd.at_int hC6 x.f0 d0 (by omega)
        have hdir : dirAt st.nums x = rd st.nums x.f0 := by
          rw [hdir0, if_pos ⟨d0, d1⟩]; rfl
        have d2 : x.f0 < (st.nums.length : Int) := by omega
        rw [← hdir] at n0
        subst eA6
        clear hdir
      case' neg =>
        have hdir : dirAt st.nums x = 1 := by rw [hdir0, if_neg hd]
        rw [hdir] at HPT HRP
        have hd2 : x.f0 < 0 ∨ ((0 : Int) ≤ x.f0 ∧ (i : Int) ≤ x.f0) := by omega
        clear hdir hd
        rcases hd2 with hd2 | ⟨hd2, hd3⟩
      all_goals
        clear hM hI hcl hle5 hC5 hC6 hdin hla hsz hlen hdir0
        go_upto_region 9 with (fail)
        go_region_held3 (fun w' => w'.cell? ⟨(ad.add (i * 4)).block, (ad.add (i * 4)).off + 1, none⟩ = some (.string x.f1) ∧ w'.cell? ⟨(ad.add (i * 4)).block, (ad.add (i * 4)).off + 2, none⟩ = some (.int .i64 x.f2) ∧ w'.cell? ⟨(ad.add (i * 4)).block, (ad.add (i * 4)).off + 3, none⟩ = some (.string x.f3)) (first | (go_keep; done) | exact HA5.out)
          ((go_at_call 46; refine (HPT.out _ (by first | exact HM.out.tree | exact HM.out.tree.drew | exact HM.out.tree.below (pw_below_drewN (Below.refl _ _) _))).mono ?_; rintro e w5 ⟨rfl, hT5, hf5⟩; have hf5' : Frm wr w5 p B := (by first | exact hf5 | exact (Frm.ofBelow (below_drew (Below.refl _ wr))).trans hf5 | exact (Frm.ofBelow (pw_below_drewN (Below.refl _ wr) _)).trans hf5); have HB5 := Aside0.mk (HM.out.hb.trans (Frm.below hf5' HM.out.hb.size HM.out.hp HM.out.hB)); have HA5 := Lib.hid (HARG.out w5 HB5.out)))
        obtain ⟨hcl, hle5, hC5⟩ := HCL.out
        have hcl5 := cells_frm hcl (by decide) HM.out.tree hf5'
        have hR5 : RAt w5 (.agg #[.slice A5 st.L.length c5, .int .i64 st.last]) st.L st.last := RAt.frm ⟨A5, c5, rfl, hle5, hC5⟩ HM.out.tree hf5'
        have hN5 := HM.out.nums.frm HM.out.tree hf5'
        have hS5 := cells_frm HM.out.res (by decide) HM.out.tree hf5'
        have r0 : w5.cell? ⟨w3.heap.size, 0, none⟩ = some (.slice A5 st.L.length c5) := by rw [blk_cell hcl5]; rfl
        have r1 : w5.cell? ⟨w3.heap.size, 1, none⟩ = some (.int .i64 st.last) := by rw [blk_cell hcl5]; rfl
        obtain ⟨b1, b2, b3⟩ := HA5.out
        have hrlt : w3.heap.size < w5.heap.size := blk_lt hcl5
        have HK5 := Lib.hid (fun (W : World) (h : Below w5.heap.size w5 W) => show W.cell? ⟨w3.heap.size, 0, none⟩ = some (.slice A5 st.L.length c5) ∧ W.cell? ⟨w3.heap.size, 1, none⟩ = some (.int .i64 st.last) ∧ W.cell? ⟨(ad.add (i * 4)).block, (ad.add (i * 4)).off + 1, none⟩ = some (.string x.f1) ∧ W.cell? ⟨(ad.add (i * 4)).block, (ad.add (i * 4)).off + 2, none⟩ = some (.int .i64 x.f2) ∧ W.cell? ⟨(ad.add (i * 4)).block, (ad.add (i * 4)).off + 3, none⟩ = some (.string x.f3) from ⟨pw_cell_below h r0, pw_cell_below h r1, pw_cell_below h b1, pw_cell_below h b2, pw_cell_below h b3⟩)
        have HF5 := Aside0.mk (And.intro hcl5 (And.intro hR5 (And.intro hN5 (And.intro hS5 hT5))))
        have HP := Aside0.mk (And.intro HM.out.hp (And.intro HM.out.hB HM.out.hr))
        clear hcl hle5 hC5 hcl5 hR5 hN5 hS5 hT5 hf5 hf5' HM HCL HARG HA5 HPT a0 a1 a2 a3
        go_upto_region 10 with (fail)
        go_region_held3 (fun w' => w'.cell? ⟨w3.heap.size, 0, none⟩ = some (.slice A5 st.L.length c5) ∧ w'.cell? ⟨w3.heap.size, 1, none⟩ = some (.int .i64 st.last) ∧ w'.cell? ⟨(ad.add (i * 4)).block, (ad.add (i * 4)).off + 1, none⟩ = some (.string x.f1) ∧ w'.cell? ⟨(ad.add (i * 4)).block, (ad.add (i * 4)).off + 2, none⟩ = some (.int .i64 x.f2) ∧ w'.cell? ⟨(ad.add (i * 4)).block, (ad.add (i * 4)).off + 3, none⟩ = some (.string x.f3)) (first | (go_keep; done) | exact HK5.out _ hb56 | exact HK5.out _ (hb56.alloc hb56.size _) | exact HK5.out _ (hb56.setCell (p := ⟨w5.heap.size, 0, none⟩) (Nat.le_refl _) _) | exact HK5.out _ ((hb56.setCell (p := ⟨w5.heap.size, 0, none⟩) (Nat.le_refl _) _).setCell (p := ⟨w5.heap.size, 1, none⟩) (Nat.le_refl _) _))
          ((go_at_call 47; refine (HRP.out _ _ (by first | exact HF5.out.2.1 | exact HF5.out.2.1.below (below_drew (Below.refl _ _)) | exact HF5.out.2.1.below (below_drew ((Below.refl _ w5).alloc (Nat.le_refl _) _)) | exact HF5.out.2.1.below ((Below.refl _ w5).alloc (Nat.le_refl _) _) | exact HF5.out.2.1.below (pw_below_drewN (Below.refl _ _) _) | exact HF5.out.2.1.below (pw_below_drewN ((Below.refl _ w5).alloc (Nat.le_refl _) _) _))).mono ?_; rintro e w6 ⟨v', rfl, ⟨A7, c7, rfl, hle7, hC7⟩, hb6⟩; have hb56 : Below w5.heap.size w5 w6 := (by first | exact (below_drew (Below.refl _ w5)).trans hb6 | exact (below_drew ((Below.refl _ w5).alloc (Nat.le_refl _) _)).trans (hb6.mono (by simp)) | exact (pw_below_drewN (Below.refl _ w5) _).trans hb6 | exact (pw_below_drewN ((Below.refl _ w5).alloc (Nat.le_refl _) _) _).trans (hb6.mono (by simp))); have HC7 := Aside0.mk hC7; clear hC7; (first | (have h9 := (hb6.block w5.heap.size (by simp)).trans (heap_alloc_new w5 _); have x90 : w6.cell? ⟨w5.heap.size, 0, none⟩ = some (.slice none 0 0) := (by rw [blk_cell h9]; rfl); have x91 : w6.cell? ⟨w5.heap.size, 1, none⟩ = some (.int .i64 0) := (by rw [blk_cell h9]; rfl); have f90 := blk_frozen h9 0; have f91 := blk_frozen h9 1; have H9 := Aside0.mk h9; clear h9) | skip)))
        all_goals first
          | (have h9' := H9.out; have hR7 : RAt ((w6.setCell ⟨w5.heap.size, 0, none⟩ (.slice A7 L7.length c7)).setCell ⟨w5.heap.size, 1, none⟩ (.int .i64 n7)) (.agg #[.slice A7 L7.length c7, .int .i64 n7]) L7 n7 := RAt.but ⟨A7, c7, rfl, hle7, HC7.out⟩ (but_two h9' (by simp) (by simp)); have hb57 : Below w5.heap.size w5 ((w6.setCell ⟨w5.heap.size, 0, none⟩ (.slice A7 L7.length c7)).setCell ⟨w5.heap.size, 1, none⟩ (.int .i64 n7)) := (hb56.setCell (p := ⟨w5.heap.size, 0, none⟩) (Nat.le_refl _) _).setCell (p := ⟨w5.heap.size, 1, none⟩) (Nat.le_refl _) _; have h7 := two_set (u0 := .slice A7 L7.length c7) (u1 := .int .i64 n7) h9'; have hgr : w3.heap.size < w5.heap.size := hrlt; clear x90 x91 f90 f91 H9 h9'; generalize (w6.setCell ⟨w5.heap.size, 0, none⟩ (.slice A7 L7.length c7)).setCell ⟨w5.heap.size, 1, none⟩ (.int .i64 n7) = w7 at hR7 hb57 h7 ⊢; generalize w5.heap.size = g at h7 hgr ⊢)
          | (have hb57 : Below w5.heap.size w5 (w6.alloc (.cells #[.slice A7 L7.length c7, .int .i64 n7] 28)) := hb56.alloc hb56.size _; have hR7 : RAt (w6.alloc (.cells #[.slice A7 L7.length c7, .int .i64 n7] 28)) (.agg #[.slice A7 L7.length c7, .int .i64 n7]) L7 n7 := RAt.below ⟨A7, c7, rfl, hle7, HC7.out⟩ ((Below.refl _ w6).alloc (Nat.le_refl _) _); have h7 := heap_alloc_new w6 (.cells #[.slice A7 L7.length c7, .int .i64 n7] 28); have hgr : w3.heap.size < w6.heap.size := Nat.lt_of_lt_of_le hrlt hb56.size; generalize w6.alloc (.cells #[.slice A7 L7.length c7, .int .i64 n7] 28) = w7 at hR7 hb57 h7 ⊢; generalize w6.heap.size = g at h7 hgr ⊢)
        all_goals
          obtain ⟨hcl5, hR5, hN5, hS5, hT5⟩ := HF5.out
          have hcl7 := (hb57.block _ hrlt).trans hcl5
          have hS7 := (hb57.block _ (blk_lt hS5)).trans hS5
          have hN7 := hN5.below hb57
          have hT7 := hT5.below hb57
          have hB7 := HB5.out.trans (hb57.mono HB5.out.size)
          have y0 : w7.cell? ⟨g, 0, none⟩ = some (.slice A7 L7.length c7) := by rw [blk_cell h7]; rfl
          have y1 : w7.cell? ⟨g, 1, none⟩ = some (.int .i64 n7) := by rw [blk_cell h7]; rfl
          have z0 : w7.cell? ⟨w3.heap.size, 0, none⟩ = some (.slice A5 st.L.length c5) := by rw [blk_cell hcl7]; rfl
          have z1 : w7.cell? ⟨w3.heap.size, 1, none⟩ = some (.int .i64 st.last) := by rw [blk_cell hcl7]; rfl
          have f0 := blk_frozen hcl7 0
          have f1 := blk_frozen hcl7 1
          have hgne : g ≠ w3.heap.size := by omega
          have hpne : p ≠ w3.heap.size := by
            rintro rfl
            have h1 := hcl7
            rw [hT7.two.1] at h1
            injection h1 with h1
            injection h1 with _ h1
            exact absurd h1 (by decide)
          have hBne : B ≠ w3.heap.size := by
            rintro rfl
            have h1 := hcl7
            obtain ⟨_, es, ck, h2⟩ := hT7.two
            rw [h2] at h1
            cases h1
          have hbut := but_two (u0 := .slice A7 L7.length c7) (u1 := .int .i64 n7) hcl7 (by simp) (by simp)
          have hT8 := hT7.but hbut hpne hBne
          have hR8 := RAt.but hR7 hbut
          have hN8 := hN7.but hcl7 (by decide) hbut
          have hS8 := (hbut.g.block _ (blk_lt hS7) (fun e => by have := Option.some.inj e; have := HP.out.2.2; omega)).trans hS7
          have hcl8 := two_set (u0 := .slice A7 L7.length c7) (u1 := .int .i64 n7) hcl7
          have hB8 := (hB7.setCell (p := ⟨w3.heap.size, 0, none⟩) (Nat.le_of_lt HP.out.2.2) (.slice A7 L7.length c7)).setCell (p := ⟨w3.heap.size, 1, none⟩) (Nat.le_of_lt HP.out.2.2) (.int .i64 n7)
          have F8 := Aside0.mk (And.intro hT8 (And.intro hR8 (And.intro hN8 (And.intro hS8 (And.intro hcl8 hB8)))))
          clear hcl5 hR5 hN5 hS5 hT5 hS7 hN7 hT7 hT8 hR8 hN8 hS8 hcl8 hB8 hbut hcl7 h7 hR7 hb57 hB7 hpne hBne hb6 HC7 r0 r1 b1 b2 b3 HF5 HK5
          go_upto_region 12 with (fail)
          generalize (w7.setCell ⟨w3.heap.size, 0, none⟩ (.slice A7 L7.length c7)).setCell ⟨w3.heap.size, 1, none⟩ (.int .i64 n7) = w8 at F8 ⊢
          clear y0 y1 z0 z1 f0 f1
          go_wp2_with ((with_reducible refine gate_builtin (b := .append) (xs := #[.tmp 85, .tmp 87]) rfl ?_); at_builtin; refine wpList_append_ints rfl (.tmp 85) (.tmp 87) rfl w.heap.size _ st.nums m7 rfl rfl F8.out.2.2.1 F8.out.2.2.2.2.2.size (by have := HNL.out; omega) ?_; intro v9 w9 ho9 hg9)
          have HO9 := Aside0.mk ho9
          have F9 := made_round F8.out hle7 hg9
          have HF9 := Aside0.mk F9
          clear ho9 hg9 F9
          go_roundw
          case rel =>
            refine ⟨i + 1, by go_num, hlt, ?_, ?_⟩
            · rw [HTK.out, HSTEP.out]
              obtain ⟨g1, g2, g3, g4, g5, g6⟩ := HF9.out
              exact ⟨g1, g2, HP.out.1, HP.out.2.1, HP.out.2.2, ⟨A7, c7, g3, g4, g5⟩, HO9.out, g6⟩
            · rw [HTK.out]; exact minv_step HI.out x
          case measure => simp [intOf]; omega
    · obtain rfl : i = l.length := by omega
      rw [List.take_length] at hM hI
      obtain ⟨A5, c5, hcl, hle5, hC5⟩ := hM.cell
      change wr.heap[w3.heap.size]? = some (.cells #[.slice A5 (madeF l).L.length c5, .int .i64 (madeF l).last] _ (0, 0)) at hcl
      change (madeF l).L.length ≤ c5 at hle5
      change Kd.C _ wr A5 (madeF l).L.length (madeF l).L at hC5
      have HT := Aside0.mk (show TreeB wr p B (trOf (madeF l).L (madeF l).last) from hM.tree)
      have HX := Aside0.mk (And.intro hle5 hC5)
      have HP := Aside0.mk (And.intro hM.hp hM.hB)
      have HBB := Aside0.mk hM.hb
      have HRES := Aside0.mk hM.res
      have x0 : wr.cell? ⟨w3.heap.size, 0, none⟩ = some (.slice A5 (madeF l).L.length c5) := by rw [blk_cell hcl]; rfl
      have x1 : wr.cell? ⟨w3.heap.size, 1, none⟩ = some (.int .i64 (madeF l).last) := by rw [blk_cell hcl]; rfl
      have y0 : wr.cell? ⟨w.heap.size, 0, none⟩ = some (.slice none 0 0) := by rw [blk_cell hM.res]; rfl
      have y1 : wr.cell? ⟨w.heap.size, 1, none⟩ = some (.int .i64 0) := by rw [blk_cell hM.res]; rfl
      have f0 := blk_frozen hM.res 0
      have f1 := blk_frozen hM.res 1
      have hbut := but_two (u0 := .slice A5 (madeF l).L.length c5) (u1 := .int .i64 (madeF l).last) hM.res (by simp) (by simp)
      have hpne : p ≠ w.heap.size := by
        rintro rfl
        have h1 := hM.res
        rw [hM.tree.two.1] at h1
        injection h1 with h1
        injection h1 with _ h1
        exact absurd h1 (by decide)
      have hBne : B ≠ w.heap.size := by
        rintro rfl
        have h1 := hM.res
        obtain ⟨_, es, ck, h2⟩ := hM.tree.two
        rw [h2] at h1
        cases h1
      have hT9 := HT.out.but hbut hpne hBne
      have hR9 : RAt ((wr.setCell ⟨w.heap.size, 0, none⟩ (.slice A5 (madeF l).L.length c5)).setCell ⟨w.heap.size, 1, none⟩ (.int .i64 (madeF l).last)) (.agg #[.slice A5 (madeF l).L.length c5, .int .i64 (madeF l).last]) (madeF l).L (madeF l).last := RAt.but ⟨A5, c5, rfl, hle5, hC5⟩ hbut
      have hB9 : Below w.heap.size w ((wr.setCell ⟨w.heap.size, 0, none⟩ (.slice A5 (madeF l).L.length c5)).setCell ⟨w.heap.size, 1, none⟩ (.int .i64 (madeF l).last)) := (hM.hb.setCell (Nat.le_refl _) _).setCell (Nat.le_refl _) _
      have k2 : ((wr.setCell ⟨w.heap.size, 0, none⟩ (.slice A5 (madeF l).L.length c5)).setCell ⟨w.heap.size, 1, none⟩ (.int .i64 (madeF l).last)).heap[w.heap.size]? = some (.cells #[.slice A5 (madeF l).L.length c5, .int .i64 (madeF l).last] 28 (0, 0)) := by
        have k1 : (wr.setCell ⟨w.heap.size, 0, none⟩ (.slice A5 (madeF l).L.length c5)).heap[w.heap.size]? = some (.cells #[.slice A5 (madeF l).L.length c5, .int .i64 0] 28 (0, 0)) := by rw [setCell_eq_setRow wr _ 0 _ _ _ _ hM.res, setRow_heap wr _ _ _ _ _ hM.res]; rfl
        rw [setCell_eq_setRow _ _ 1 _ _ _ _ k1, setRow_heap _ _ _ _ _ _ k1]; rfl
      have FIN := Aside0.mk (And.intro hT9 (And.intro hR9 (And.intro hB9 (And.intro k2 (And.intro hM.hp hM.hB)))))
      clear hM hI hcl hle5 hC5 hbut hpne hBne hT9 hR9 hB9 k2 HT HX HP HBB HRES
      go_wp2
      go_region
      go_wp2
      obtain ⟨hT9, hR9, hB9, k2, hp9, hBB9⟩ := FIN.out
      generalize (wr.setCell ⟨w.heap.size, 0, none⟩ (.slice A5 (madeF l).L.length c5)).setCell ⟨w.heap.size, 1, none⟩ (.int .i64 (madeF l).last) = w9 at hT9 hR9 hB9 k2 ⊢
      have c0 : w9.cell? ⟨w.heap.size, 0, none⟩ = some (.slice A5 (madeF l).L.length c5) := by rw [blk_cell k2]; rfl
      have c1 : w9.cell? ⟨w.heap.size, 1, none⟩ = some (.int .i64 (madeF l).last) := by rw [blk_cell k2]; rfl
      have hu := Try.underlying28
      refine bodyPost_ret (v := .tuple #[pT p, .agg #[.slice A5 (madeF l).L.length c5, .int .i64 (madeF l).last]]) (by simp [results, Try.results12, go_sem, c0, c1, hu]) rfl ⟨p, B, _, rfl, hT9.drew, hR9.below (below_drew (Below.refl _ _)), below_drew hB9, hp9, hBB9⟩
end Go.Proofs.Ytjfigngmpagloaa.Tw

namespace Go.Proofs.Ytjfigngmpagloaa.Tw
open Go Go.RowKit Go.Shelf Go.Proofs Go.Proofs.Ytjfigngmpagloaa Go.Proofs.YtjfigngmpagloaaW.PrintWords Go.Proofs.Ytjfigngmpagloaa.Ext Go.Proofs.Ytjfigngmpagloaa.X Go.Proofs.Ytjfigngmpagloaa.Pu
set_option linter.unusedVariables false
set_option linter.unusedSimpArgs false
def spotRF (L : List RN) (last : Int) (k : Nat) (s : ByteArray) : Option R3 :=
  if beginE s = 0 then
    match (partsB s).getLast? with
    | none => some (noS 6)
    | some z => if z.toList = [46, 46] then some (noS 6) else (linhayref08_Go.f k L last 1 (partsB s).dropLast true 0).bind fun r =>
        if r.2.2 = 0 then (if (atR L r.1).f3 = 1 then (if Sp.check z.data.toList = 0 then some (r.1, z, 0) else some (noS (Sp.check z.data.toList))) else some (noS 7)) else some (noS r.2.2)
  else some (noS (beginE s))
theorem spot_both {L : List RN} {last : Int} (hG : GoodL L last) (hM : GoodM L) (s : ByteArray) : ∃ k k2 R, spotF (trOf L last) k s = some R ∧ spotRF L last k2 s = some R := by
  unfold spotF spotRF
  by_cases h0 : beginE s = 0
  · simp only [if_pos h0]
    have hz := (beginE_ok h0).1
    have hpl := partsB_len' s
    cases hl : (partsB s).getLast? with
    | none => exact ⟨0, 0, _, rfl, rfl⟩
    | some z =>
      by_cases hd : z.toList = [46, 46]
      · simp only [if_pos hd]; exact ⟨0, 0, _, rfl, rfl⟩
      · simp only [if_neg hd]
        obtain ⟨k, q, e, h, h1, h2⟩ := go_both hG hM true 40 _ (partsB s).dropLast 1 rfl (by omega) (by rw [List.length_dropLast]; omega)
        obtain ⟨k2, h3⟩ := Ev.rounds h2
        have h1' : walkF (trOf L last) true k 1 0 (partsB s).dropLast = some (q, e) := h1
        have h3' : linhayref08_Go.f k2 L last 1 (partsB s).dropLast true 0 = some (if e = 0 then q else 0, h, e) := h3
        obtain ⟨R, hR⟩ : ∃ R, (if e = 0 then (if (atR L q).f3 = 1 then (if Sp.check z.data.toList = 0 then some (q, z, 0) else some (noS (Sp.check z.data.toList))) else some (noS 7)) else some (noS e)) = some R := by
          repeat' split
          all_goals exact ⟨_, rfl⟩
        refine ⟨k, k2, R, ?_, ?_⟩
        · rw [h1', ← hR]
          simp only [Option.bind_some, node_of hG]
        · rw [h3', ← hR]
          simp only [Option.bind_some]
          by_cases he : e = 0
          · rw [if_pos he, if_pos he, if_pos he]
          · rw [if_neg he, if_neg he]
  · simp only [if_neg h0]; exact ⟨0, 0, _, rfl, rfl⟩
end Go.Proofs.Ytjfigngmpagloaa.Tw

namespace Go.Proofs.Ytjfigngmpagloaa.Tw
open Go Go.RowKit Go.Shelf Go.Proofs Go.Proofs.Ytjfigngmpagloaa Go.Proofs.YtjfigngmpagloaaW.PrintWords Go.Proofs.Ytjfigngmpagloaa.Ext Go.Proofs.Ytjfigngmpagloaa.X Go.Proofs.Ytjfigngmpagloaa.Pu
set_option linter.unusedVariables false
set_option linter.unusedSimpArgs false
def cellsN (x : MN) : List Value := [.int .i64 x.f0, .string x.f1, .int .i64 x.f2, .string x.f3]
theorem flat4 : ∀ (l : List MN) (j i : Nat) (x : MN) (u : Value), l[j]? = some x → (cellsN x)[i]? = some u → (l.flatMap cellsN)[j * 4 + i]? = some u
  | [], j, i, x, u, h, _ => by simp at h
  | a :: l, 0, i, x, u, h, hu => by
    have : a = x := by simpa using h
    subst this
    rw [List.flatMap_cons, Nat.zero_mul, Nat.zero_add, List.getElem?_append_left (List.getElem?_eq_some_iff.1 hu).1]
    exact hu
  | a :: l, j + 1, i, x, u, h, hu => by
    have hl : (cellsN a).length = 4 := rfl
    rw [List.flatMap_cons, List.getElem?_append_right (by rw [hl]; omega), hl, show (j + 1) * 4 + i - 4 = j * 4 + i by omega]
    exact flat4 l j i x u (by simpa using h) hu
theorem litN (w : World) (g : Nat) (l : List MN) (t : TypeId) (h : w.heap[g]? = some (.cells (l.flatMap cellsN).toArray t (0, 0))) (hn : l.length ≤ 1000000) : Kd.C k89 w (some ⟨g, 0, none⟩) l.length l := by
  refine ⟨rfl, by omega, fun _ => ⟨_, rfl, fun j x hj => ?_⟩⟩
  refine ⟨cellsN x, rfl, k89_mk _ _, fun i u hu => ?_⟩
  rw [Addr.add_lit, Nat.zero_add, cell_of_row w g _ _ t (0, 0) h]
  have := flat4 l j i x u hj hu
  have e : k89.sz = 4 := rfl
  rw [e]
  simpa using this
end Go.Proofs.Ytjfigngmpagloaa.Tw

namespace Go.Proofs.Ytjfigngmpagloaa.Tw
open Go Go.RowKit Go.Shelf Go.Proofs Go.Proofs.Ytjfigngmpagloaa Go.Proofs.YtjfigngmpagloaaW.PrintWords Go.Proofs.Ytjfigngmpagloaa.Ext Go.Proofs.Ytjfigngmpagloaa.X Go.Proofs.Ytjfigngmpagloaa.Pu
set_option linter.unusedVariables false
set_option linter.unusedSimpArgs false
def bulkN (x : MN) : Nat := 1 + (x.f1.size + 1 + (1 + (x.f3.size + 1))) + 1
theorem sum_in8 {α : Type} (β : α → Nat) {x : α} : ∀ {l : List α}, x ∈ l → β x ≤ (l.map β).sum
  | y :: l, h => by
    rw [List.map_cons, List.sum_cons]
    rcases List.mem_cons.1 h with rfl | h
    · omega
    · have := sum_in8 β h; omega
theorem few_ev (l : List MN) (hl : l.length < 4294967296) : ∃ b, Ev (fun k => linhaylaw08_Few.f k l) b ∧ (b = true → l.length ≤ 60) := by
  have key : ∀ (d i : Nat), i + d = l.length → ∃ b, Ev (fun k => linhaylaw08_Few.l0 k l (i : Int)) b ∧ (b = true → l.length ≤ 60) := by
    intro d
    induction d with
    | zero =>
      intro i hi
      refine ⟨decide ((l.length : Int) ≤ 60), ?_, fun h => by have := of_decide_eq_true h; omega⟩
      refine Ev.step (fun k => by rw [linhaylaw08_Few.l0]) ?_
      exact ev_neg (by omega) (Ev.now _)
    | succ d ih =>
      intro i hi
      obtain ⟨b, h1, h2⟩ := ih (i + 1) (by omega)
      by_cases hz : (((rd_T89 l (i : Int)).f3).size : Int) > 2000
      · refine ⟨false, ?_, fun h => by cases h⟩
        refine Ev.step (fun k => by rw [linhaylaw08_Few.l0]) ?_
        exact ev_pos (by omega) (ev_pos (by omega) (ev_pos hz (Ev.now _)))
      · refine ⟨b, ?_, h2⟩
        refine Ev.step (fun k => by rw [linhaylaw08_Few.l0]) ?_
        refine ev_pos (by omega) (ev_pos (by omega) (ev_neg hz ?_))
        rw [w1 (by omega)]
        exact h1
  exact key l.length 0 (by omega)
end Go.Proofs.Ytjfigngmpagloaa.Tw

namespace Go.Proofs.Ytjfigngmpagloaa.Tw
open Go Go.RowKit Go.Shelf Go.Proofs Go.Proofs.Ytjfigngmpagloaa Go.Proofs.YtjfigngmpagloaaW.PrintWords Go.Proofs.Ytjfigngmpagloaa.Ext Go.Proofs.Ytjfigngmpagloaa.X Go.Proofs.Ytjfigngmpagloaa.Pu
set_option linter.unusedVariables false
set_option linter.unusedSimpArgs false
theorem three_set {w : World} {k : Nat} {v0 v1 v2 u0 u1 u2 : Value} {t : TypeId} (h : w.heap[k]? = some (.cells #[v0, v1, v2] t (0, 0))) : (((w.setCell ⟨k, 0, none⟩ u0).setCell ⟨k, 1, none⟩ u1).setCell ⟨k, 2, none⟩ u2).heap[k]? = some (.cells #[u0, u1, u2] t (0, 0)) := by
  have k1 : (w.setCell ⟨k, 0, none⟩ u0).heap[k]? = some (.cells #[u0, v1, v2] t (0, 0)) := by rw [setCell_eq_setRow w _ 0 _ _ _ _ h, setRow_heap w _ _ _ _ _ h]; rfl
  have k2 : ((w.setCell ⟨k, 0, none⟩ u0).setCell ⟨k, 1, none⟩ u1).heap[k]? = some (.cells #[u0, u1, v2] t (0, 0)) := by rw [setCell_eq_setRow _ _ 1 _ _ _ _ k1, setRow_heap _ _ _ _ _ _ k1]; rfl
  rw [setCell_eq_setRow _ _ 2 _ _ _ _ k2, setRow_heap _ _ _ _ _ _ k2]; rfl
def sizeT (T : Tr) (n : Int) : Int := ((T.node n).data.size : Int) + ((T.node n).ents.length : Int)
def stT (T : Tr) (R : Int × Int) : Int × Int × Int := if R.2 = 0 then (R.1, (T.node R.1).kind, sizeT T R.1) else (0, 0, 0)
abbrev v3 (x : Int × Int × Int) : Value := .agg #[.int .i64 x.1, .int .i64 x.2.1, .int .i64 x.2.2]
set_option maxHeartbeats 2000000 in
set_option maxRecDepth 1000000 in
theorem stat_calls (p : Nat) (T : Tr) (s : ByteArray) (last : Bool) (k : Nat) (R : Int × Int) (w : World) (hT : TreeAt w p T) (hO : TrOK T) (hw : wf R.1) (hR : findF T last k s = some R) :
    Calls Try.prog 48 #[pT p, .string s, .bool last] w fun e w' => e = .returned (.tuple #[v3 (stT T R), .int .i64 R.2]) ∧ Below w.heap.size w w' := by
  have HF := Lib.hid (fun W h => seekFind_calls p T s last k R W h hO hR)
  have HK := Lib.hid (fun W h => kind_calls p T R.1 W h hw)
  have HD := Lib.hid (fun W h => data_calls p T R.1 W h hw)
  have HL := Lib.hid (fun W h => list_calls p T R.1 W h hw (hO.small.node R.1))
  have hdz := hO.sz R.1
  have hlz := hO.small.node R.1
  have HT := Lib.hid hT
  have HST := Lib.hid (show stT T R = if R.2 = 0 then (R.1, (T.node R.1).kind, ((T.node R.1).data.size : Int) + ((T.node R.1).ents.length : Int)) else (0, 0, 0) from rfl)
  generalize stT T R = st at *
  obtain ⟨n, e⟩ := R
  simp only [] at *
  generalize T.node n = nd at *
  obtain ⟨kd, up, dt, es⟩ := nd
  simp only [] at *
  clear hT hO hw hR
  have hu := Try.underlying32
  have HB0 := Lib.hid ((Below.refl w.heap.size w).alloc (Nat.le_refl _) (.cells #[.int .i64 0, .int .i64 0, .int .i64 0] 32))
  have HX0 := Lib.hid (heap_alloc_new w (.cells #[.int .i64 0, .int .i64 0, .int .i64 0] 32))
  by_cases he : e = 0
  · subst he
    have hst := HST.out
    rw [if_pos rfl] at hst
    subst hst
    clear HST
    go_enter Try.func48, Try.ntmps48
    go_upto_region 4 with (go_at_call 24; refine (HF.out _ (HT.out.below HB0.out)).mono ?_; rintro e w2 ⟨rfl, hb2⟩)
    have HB2 := Lib.hid (HB0.out.trans (hb2.mono HB0.out.size))
    have H2 := Lib.hid ((hb2.block _ (blk_lt HX0.out)).trans HX0.out)
    have HT2 := Lib.hid (HT.out.below HB2.out)
    clear hb2
    go_wp2_with (first
      | (go_at_call 41; refine (HK.out _ HT2.out).mono ?_; rintro e w3 ⟨rfl, hb3⟩)
      | (go_at_call 53; refine (HD.out _ (HT2.out.below hb3)).mono ?_; rintro e w4 ⟨rfl, hb4⟩)
      | (go_at_call 40; refine (HL.out _ ((HT2.out.below hb3).below hb4)).mono ?_; rintro e w5 ⟨v, rfl, ho, hb5⟩; obtain ⟨A5, c5, rfl, hl5, hC5⟩ := Kd.R_reads ho; have HB5 := Lib.hid (hb3.trans ((hb4.mono hb3.size).trans (hb5.mono (Nat.le_trans hb3.size hb4.size)))); have h5 := (HB5.out.block _ (blk_lt H2.out)).trans H2.out; have x0 : w5.cell? ⟨w.heap.size, 0, none⟩ = some (.int .i64 0) := (by rw [blk_cell h5]; rfl); have x1 : w5.cell? ⟨w.heap.size, 1, none⟩ = some (.int .i64 0) := (by rw [blk_cell h5]; rfl); have x2 : w5.cell? ⟨w.heap.size, 2, none⟩ = some (.int .i64 0) := (by rw [blk_cell h5]; rfl); have f0 := blk_frozen h5 0; have f1 := blk_frozen h5 1; have f2 := blk_frozen h5 2; have H5 := Lib.hid h5; clear h5 ho hC5 hb3 hb4 hb5))
    have H9 := Lib.hid (three_set (u0 := .int .i64 n) (u1 := .int .i64 kd) (u2 := .int .i64 ((dt.size : Int) + (es.length : Int))) H5.out)
    have HB9 := Lib.hid ((((HB2.out.trans (HB5.out.mono HB2.out.size)).setCell (p := ⟨w.heap.size, 0, none⟩) (Nat.le_refl _) (.int .i64 n)).setCell (p := ⟨w.heap.size, 1, none⟩) (Nat.le_refl _) (.int .i64 kd)).setCell (p := ⟨w.heap.size, 2, none⟩) (Nat.le_refl _) (.int .i64 ((dt.size : Int) + (es.length : Int))))
    clear x0 x1 x2
    generalize ((w5.setCell ⟨w.heap.size, 0, none⟩ (.int .i64 n)).setCell ⟨w.heap.size, 1, none⟩ (.int .i64 kd)).setCell ⟨w.heap.size, 2, none⟩ (.int .i64 ((dt.size : Int) + (es.length : Int))) = w9 at H9 HB9 ⊢
    have c0 : w9.cell? ⟨w.heap.size, 0, none⟩ = some (.int .i64 n) := by rw [blk_cell H9.out]; rfl
    have c1 : w9.cell? ⟨w.heap.size, 1, none⟩ = some (.int .i64 kd) := by rw [blk_cell H9.out]; rfl
    have c2 : w9.cell? ⟨w.heap.size, 2, none⟩ = some (.int .i64 ((dt.size : Int) + (es.length : Int))) := by rw [blk_cell H9.out]; rfl
    refine bodyPost_ret (v := .tuple #[.agg #[.int .i64 n, .int .i64 kd, .int .i64 ((dt.size : Int) + (es.length : Int))], .int .i64 0]) (by simp [results, Try.results48, go_sem, c0, c1, c2, hu]) rfl ⟨rfl, HB9.out⟩
  · have hst := HST.out
    rw [if_neg he] at hst
    subst hst
    have he' : (e != 0) = true := bne_iff_ne.2 he
    clear HST he
    go_enter Try.func48, Try.ntmps48
    go_upto_region 3 with (go_at_call 24; refine (HF.out _ (HT.out.below HB0.out)).mono ?_; rintro e w2 ⟨rfl, hb2⟩)
    have h2 := (hb2.block _ (blk_lt HX0.out)).trans HX0.out
    have hB2 := HB0.out.trans (hb2.mono HB0.out.size)
    have x0 : w2.cell? ⟨w.heap.size, 0, none⟩ = some (.int .i64 0) := by rw [blk_cell h2]; rfl
    have x1 : w2.cell? ⟨w.heap.size, 1, none⟩ = some (.int .i64 0) := by rw [blk_cell h2]; rfl
    have x2 : w2.cell? ⟨w.heap.size, 2, none⟩ = some (.int .i64 0) := by rw [blk_cell h2]; rfl
    have f0 := blk_frozen h2 0
    have f1 := blk_frozen h2 1
    have f2 := blk_frozen h2 2
    have H3 := Lib.hid (three_set (u0 := .int .i64 0) (u1 := .int .i64 0) (u2 := .int .i64 0) h2)
    have HB3 := Lib.hid (((hB2.setCell (p := ⟨w.heap.size, 0, none⟩) (Nat.le_refl _) (.int .i64 0)).setCell (p := ⟨w.heap.size, 1, none⟩) (Nat.le_refl _) (.int .i64 0)).setCell (p := ⟨w.heap.size, 2, none⟩) (Nat.le_refl _) (.int .i64 0))
    clear h2 hB2 hb2
    go_wp2
    generalize ((w2.setCell ⟨w.heap.size, 0, none⟩ (.int .i64 0)).setCell ⟨w.heap.size, 1, none⟩ (.int .i64 0)).setCell ⟨w.heap.size, 2, none⟩ (.int .i64 0) = w9 at H3 HB3 ⊢
    have c0 : w9.cell? ⟨w.heap.size, 0, none⟩ = some (.int .i64 0) := by rw [blk_cell H3.out]; rfl
    have c1 : w9.cell? ⟨w.heap.size, 1, none⟩ = some (.int .i64 0) := by rw [blk_cell H3.out]; rfl
    have c2 : w9.cell? ⟨w.heap.size, 2, none⟩ = some (.int .i64 0) := by rw [blk_cell H3.out]; rfl
    refine bodyPost_ret (v := .tuple #[.agg #[.int .i64 0, .int .i64 0, .int .i64 0], .int .i64 e]) (by simp [results, Try.results48, go_sem, c0, c1, c2, hu]) rfl ⟨rfl, HB3.out⟩
set_option maxHeartbeats 2000000 in
set_option maxRecDepth 1000000 in
theorem lstat_calls (p : Nat) (T : Tr) (s : ByteArray) (k : Nat) (R : Int × Int) (w : World) (hT : TreeAt w p T) (hO : TrOK T) (hw : wf R.1) (hR : findF T false k s = some R) :
    Calls Try.prog 13 #[pT p, .string s] w fun e w' => e = .returned (.tuple #[v3 (stT T R), .int .i64 R.2]) ∧ Below w.heap.size w w' := by
  have HS := Lib.hid (fun W h => stat_calls p T s false k R W h hO hw hR)
  have HT := Lib.hid hT
  have hu := Try.underlying32
  have HB0 := Lib.hid ((Below.refl w.heap.size w).alloc (Nat.le_refl _) (.cells #[.int .i64 0, .int .i64 0, .int .i64 0] 32))
  have HX0 := Lib.hid (heap_alloc_new w (.cells #[.int .i64 0, .int .i64 0, .int .i64 0] 32))
  generalize stT T R = st at *
  obtain ⟨a0, a1, a2⟩ := st
  generalize R.2 = e at *
  clear hT hO hw hR
  go_enter Try.func13, Try.ntmps13
  go_wp2_with (go_at_call 48; refine (HS.out _ (HT.out.below HB0.out)).mono ?_; rintro e w5 ⟨rfl, hb5⟩; have h5 := (hb5.block _ (blk_lt HX0.out)).trans HX0.out; have x0 : w5.cell? ⟨w.heap.size, 0, none⟩ = some (.int .i64 0) := (by rw [blk_cell h5]; rfl); have x1 : w5.cell? ⟨w.heap.size, 1, none⟩ = some (.int .i64 0) := (by rw [blk_cell h5]; rfl); have x2 : w5.cell? ⟨w.heap.size, 2, none⟩ = some (.int .i64 0) := (by rw [blk_cell h5]; rfl); have f0 := blk_frozen h5 0; have f1 := blk_frozen h5 1; have f2 := blk_frozen h5 2; have H5 := Lib.hid h5; have HB5 := Lib.hid (HB0.out.trans (hb5.mono HB0.out.size)); clear h5 hb5)
  have H9 := Lib.hid (three_set (u0 := .int .i64 a0) (u1 := .int .i64 a1) (u2 := .int .i64 a2) H5.out)
  have HB9 := Lib.hid (((HB5.out.setCell (p := ⟨w.heap.size, 0, none⟩) (Nat.le_refl _) (.int .i64 a0)).setCell (p := ⟨w.heap.size, 1, none⟩) (Nat.le_refl _) (.int .i64 a1)).setCell (p := ⟨w.heap.size, 2, none⟩) (Nat.le_refl _) (.int .i64 a2))
  clear x0 x1 x2
  generalize ((w5.setCell ⟨w.heap.size, 0, none⟩ (.int .i64 a0)).setCell ⟨w.heap.size, 1, none⟩ (.int .i64 a1)).setCell ⟨w.heap.size, 2, none⟩ (.int .i64 a2) = w9 at H9 HB9 ⊢
  have c0 : w9.cell? ⟨w.heap.size, 0, none⟩ = some (.int .i64 a0) := by rw [blk_cell H9.out]; rfl
  have c1 : w9.cell? ⟨w.heap.size, 1, none⟩ = some (.int .i64 a1) := by rw [blk_cell H9.out]; rfl
  have c2 : w9.cell? ⟨w.heap.size, 2, none⟩ = some (.int .i64 a2) := by rw [blk_cell H9.out]; rfl
  refine bodyPost_ret (v := .tuple #[.agg #[.int .i64 a0, .int .i64 a1, .int .i64 a2], .int .i64 e]) (by simp [results, Try.results13, go_sem, c0, c1, c2, hu]) rfl ⟨rfl, HB9.out⟩
set_option maxHeartbeats 2000000 in
set_option maxRecDepth 1000000 in
theorem pstat_calls (p : Nat) (T : Tr) (s : ByteArray) (k : Nat) (R : Int × Int) (w : World) (hT : TreeAt w p T) (hO : TrOK T) (hw : wf R.1) (hR : findF T true k s = some R) :
    Calls Try.prog 15 #[pT p, .string s] w fun e w' => e = .returned (.tuple #[v3 (stT T R), .int .i64 R.2]) ∧ Below w.heap.size w w' := by
  have HS := Lib.hid (fun W h => stat_calls p T s true k R W h hO hw hR)
  have HT := Lib.hid hT
  have hu := Try.underlying32
  have HB0 := Lib.hid ((Below.refl w.heap.size w).alloc (Nat.le_refl _) (.cells #[.int .i64 0, .int .i64 0, .int .i64 0] 32))
  have HX0 := Lib.hid (heap_alloc_new w (.cells #[.int .i64 0, .int .i64 0, .int .i64 0] 32))
  generalize stT T R = st at *
  obtain ⟨a0, a1, a2⟩ := st
  generalize R.2 = e at *
  clear hT hO hw hR
  go_enter Try.func15, Try.ntmps15
  go_wp2_with (go_at_call 48; refine (HS.out _ (HT.out.below HB0.out)).mono ?_; rintro e w5 ⟨rfl, hb5⟩; have h5 := (hb5.block _ (blk_lt HX0.out)).trans HX0.out; have x0 : w5.cell? ⟨w.heap.size, 0, none⟩ = some (.int .i64 0) := (by rw [blk_cell h5]; rfl); have x1 : w5.cell? ⟨w.heap.size, 1, none⟩ = some (.int .i64 0) := (by rw [blk_cell h5]; rfl); have x2 : w5.cell? ⟨w.heap.size, 2, none⟩ = some (.int .i64 0) := (by rw [blk_cell h5]; rfl); have f0 := blk_frozen h5 0; have f1 := blk_frozen h5 1; have f2 := blk_frozen h5 2; have H5 := Lib.hid h5; have HB5 := Lib.hid (HB0.out.trans (hb5.mono HB0.out.size)); clear h5 hb5)
  have H9 := Lib.hid (three_set (u0 := .int .i64 a0) (u1 := .int .i64 a1) (u2 := .int .i64 a2) H5.out)
  have HB9 := Lib.hid (((HB5.out.setCell (p := ⟨w.heap.size, 0, none⟩) (Nat.le_refl _) (.int .i64 a0)).setCell (p := ⟨w.heap.size, 1, none⟩) (Nat.le_refl _) (.int .i64 a1)).setCell (p := ⟨w.heap.size, 2, none⟩) (Nat.le_refl _) (.int .i64 a2))
  clear x0 x1 x2
  generalize ((w5.setCell ⟨w.heap.size, 0, none⟩ (.int .i64 a0)).setCell ⟨w.heap.size, 1, none⟩ (.int .i64 a1)).setCell ⟨w.heap.size, 2, none⟩ (.int .i64 a2) = w9 at H9 HB9 ⊢
  have c0 : w9.cell? ⟨w.heap.size, 0, none⟩ = some (.int .i64 a0) := by rw [blk_cell H9.out]; rfl
  have c1 : w9.cell? ⟨w.heap.size, 1, none⟩ = some (.int .i64 a1) := by rw [blk_cell H9.out]; rfl
  have c2 : w9.cell? ⟨w.heap.size, 2, none⟩ = some (.int .i64 a2) := by rw [blk_cell H9.out]; rfl
  refine bodyPost_ret (v := .tuple #[.agg #[.int .i64 a0, .int .i64 a1, .int .i64 a2], .int .i64 e]) (by simp [results, Try.results15, go_sem, c0, c1, c2, hu]) rfl ⟨rfl, HB9.out⟩
end Go.Proofs.Ytjfigngmpagloaa.Tw

namespace Go.Proofs.Ytjfigngmpagloaa.Tw
open Go Go.RowKit Go.Shelf Go.Proofs Go.Proofs.Ytjfigngmpagloaa Go.Proofs.YtjfigngmpagloaaW.PrintWords Go.Proofs.Ytjfigngmpagloaa.Ext Go.Proofs.Ytjfigngmpagloaa.X Go.Proofs.Ytjfigngmpagloaa.Pu
set_option linter.unusedVariables false
set_option linter.unusedSimpArgs false
def OnlyV (W : World) (v : Value) (kind e : Int) : Prop := ∃ g h : Nat, v = .func (.func 96) #[] #[.pointer (some ⟨g, 0, none⟩), .pointer (some ⟨h, 0, none⟩)] ∧ W.heap[g]? = some (.cells #[.int .i64 kind] 3 (0, 0)) ∧ W.heap[h]? = some (.cells #[.int .i64 e] 33 (0, 0))
theorem OnlyV.below {w W : World} {v : Value} {kind e : Int} (h : OnlyV w v kind e) (hb : Below w.heap.size w W) : OnlyV W v kind e := by
  obtain ⟨g, k, rfl, h1, h2⟩ := h
  exact ⟨g, k, rfl, (hb.block _ (blk_lt h1)).trans h1, (hb.block _ (blk_lt h2)).trans h2⟩
set_option maxHeartbeats 1000000 in
set_option maxRecDepth 1000000 in
theorem only_calls (kind e : Int) (w : World) : Calls Try.prog 52 #[.int .i64 kind, .int .i64 e] w fun r w' => ∃ v, r = .returned v ∧ OnlyV w' v kind e ∧ Below w.heap.size w w' := by
  go_enter Try.func52, Try.ntmps52
  go_wp2
  go_ret
  have h1 := heap_alloc_new w (.cells #[.int .i64 kind] 3)
  have h2 := heap_alloc_new (w.alloc (.cells #[.int .i64 kind] 3)) (.cells #[.int .i64 e] 33)
  have e2 : (w.alloc (.cells #[.int .i64 kind] 3)).heap.size = w.heap.size + 1 := Array.size_push _
  rw [e2] at h2
  refine ⟨_, rfl, ⟨_, _, rfl, (heap_alloc_old _ _ _ (blk_lt h1)).trans h1, h2⟩, ?_⟩
  exact ((Below.refl w.heap.size w).alloc (Nat.le_refl _) _).alloc (by rw [e2]; omega) _
set_option maxHeartbeats 1000000 in
set_option maxRecDepth 1000000 in
theorem only1_calls (k kind e : Int) (g h : Nat) (w : World) (h1 : w.heap[g]? = some (.cells #[.int .i64 kind] 3 (0, 0))) (h2 : w.heap[h]? = some (.cells #[.int .i64 e] 33 (0, 0))) :
    Calls Try.prog 96 #[.int .i64 k, .pointer (some ⟨g, 0, none⟩), .pointer (some ⟨h, 0, none⟩)] w fun r w' => r = .returned (.int .i64 (if k = kind then 0 else e)) ∧ Below w.heap.size w w' := by
  have x1 : w.cell? ⟨g, 0, none⟩ = some (.int .i64 kind) := by rw [blk_cell h1]; rfl
  have x2 : w.cell? ⟨h, 0, none⟩ = some (.int .i64 e) := by rw [blk_cell h2]; rfl
  by_cases hk : k = kind
  · subst hk
    rw [if_pos rfl]
    go_enter Try.func96, Try.ntmps96
    go_wp2
    go_ret
    exact ⟨rfl, Below.refl _ _⟩
  · rw [if_neg hk]
    have hk' : (k != kind) = true := bne_iff_ne.2 hk
    clear hk
    go_enter Try.func96, Try.ntmps96
    go_wp2
    go_ret
    exact ⟨rfl, Below.refl _ _⟩
def askD (T : Tr) (R : Int × Int) (kind e0 : Int) : ByteArray × Int := if R.2 ≠ 0 then (⟨#[]⟩, R.2) else if (T.node R.1).kind = kind then ((T.node R.1).data, 0) else (⟨#[]⟩, e0)
set_option maxHeartbeats 2000000 in
set_option maxRecDepth 1000000 in
theorem asked_calls (p : Nat) (T : Tr) (s : ByteArray) (last : Bool) (k : Nat) (R : Int × Int) (kind e0 : Int) (v : Value) (w : World) (hT : TreeAt w p T) (hO : TrOK T) (hw : wf R.1) (hR : findF T last k s = some R) (he0 : e0 ≠ 0) (hv : OnlyV w v kind e0) :
    Calls Try.prog 51 #[pT p, .string s, .bool last, v, .func (.func 53) #[pT p] #[]] w fun e w' => e = .returned (.tuple #[.string (askD T R kind e0).1, .int .i64 (askD T R kind e0).2]) ∧ Below w.heap.size w w' := by
  have HS := Lib.hid (fun W h => stat_calls p T s last k R W h hO hw hR)
  have HD := Lib.hid (fun W h => data_calls p T R.1 W h hw)
  have HT := Lib.hid hT
  have HV := Lib.hid hv
  obtain ⟨g, h, rfl, h1, h2⟩ := hv
  have HO := Lib.hid (fun x W q1 q2 => only1_calls x kind e0 g h W q1 q2)
  have H1 := Lib.hid h1
  have H2 := Lib.hid h2
  have HA : Hid (askD T R kind e0 = if R.2 ≠ 0 then (⟨#[]⟩, R.2) else if (T.node R.1).kind = kind then ((T.node R.1).data, 0) else (⟨#[]⟩, e0)) := Lib.hid rfl
  have HST : Hid (stT T R = if R.2 = 0 then (R.1, (T.node R.1).kind, sizeT T R.1) else (0, 0, 0)) := Lib.hid rfl
  generalize askD T R kind e0 = ak at *
  generalize sizeT T R.1 = sz at *
  generalize stT T R = st at *
  obtain ⟨n, e⟩ := R
  simp only [] at *
  generalize T.node n = nd at *
  obtain ⟨kd, up, dt, es⟩ := nd
  simp only [] at *
  clear hT hO hw hR h1 h2
  have hu := Try.underlying32
  have arm5 : True := trivial
  by_cases he : e = 0
  · subst he
    have hst := HST.out
    rw [if_pos rfl] at hst
    subst hst
    have ha := HA.out
    rw [if_neg (by simp)] at ha
    have HBX := Lib.hid (fun (W : World) (o : Obj) (hb : Below w.heap.size w W) => (show TreeAt (W.alloc o) p T ∧ (W.alloc o).heap[g]? = some (.cells #[.int .i64 kind] 3 (0, 0)) ∧ (W.alloc o).heap[h]? = some (.cells #[.int .i64 e0] 33 (0, 0)) ∧ Below w.heap.size w (W.alloc o) from (fun hb2 => ⟨HT.out.below hb2, (hb2.block _ (blk_lt H1.out)).trans H1.out, (hb2.block _ (blk_lt H2.out)).trans H2.out, hb2⟩) (hb.alloc hb.size o)))
    by_cases hk : kd = kind
    · subst hk
      rw [if_pos rfl] at ha
      subst ha
      have HO1 := Lib.hid (fun W q1 q2 => HO.out kd W q1 q2)
      rw [if_pos rfl] at HO1
      clear HST HA HO
      go_enter Try.func51, Try.ntmps51
      go_wp2_with (first
        | (go_at_call 48; refine (HS.out _ HT.out).mono ?_; rintro e w2 ⟨rfl, hb2⟩; have HB2 := Lib.hid hb2; clear hb2)
        | (go_at_call 96; refine (HO1.out _ (HBX.out _ _ HB2.out).2.1 (HBX.out _ _ HB2.out).2.2.1).mono ?_; rintro e w4 ⟨rfl, hb4⟩; have h4 := (hb4.block _ (blk_lt (heap_alloc_new _ _))).trans (heap_alloc_new _ _); have x0 : w4.cell? ⟨w2.heap.size, 0, none⟩ = some (.int .i64 n) := (by rw [blk_cell h4]; rfl); have HB4 := Lib.hid ((HBX.out _ _ HB2.out).2.2.2.trans (hb4.mono (HBX.out _ _ HB2.out).2.2.2.size)); clear h4 hb4)
        | (go_at_call 53; refine (HD.out _ (HT.out.below HB4.out)).mono ?_; rintro e w5 ⟨rfl, hb5⟩))
      refine bodyPost_ret (v := .tuple #[.string dt, .int .i64 0]) (by simp [results, Try.results51, go_sem]) rfl ⟨rfl, HB4.out.trans (hb5.mono HB4.out.size)⟩
    · rw [if_neg hk] at ha
      subst ha
      have HO1 := Lib.hid (fun W q1 q2 => HO.out kd W q1 q2)
      rw [if_neg hk] at HO1
      have he0' : (e0 != 0) = true := bne_iff_ne.2 he0
      clear HST HA HO hk he0
      go_enter Try.func51, Try.ntmps51
      go_wp2_with (first
        | (go_at_call 48; refine (HS.out _ HT.out).mono ?_; rintro e w2 ⟨rfl, hb2⟩; have HB2 := Lib.hid hb2; clear hb2)
        | (go_at_call 96; refine (HO1.out _ (HBX.out _ _ HB2.out).2.1 (HBX.out _ _ HB2.out).2.2.1).mono ?_; rintro e w4 ⟨rfl, hb4⟩; have HB4 := Lib.hid ((HBX.out _ _ HB2.out).2.2.2.trans (hb4.mono (HBX.out _ _ HB2.out).2.2.2.size)); clear hb4))
      refine bodyPost_ret (v := .tuple #[.string ⟨#[]⟩, .int .i64 e0]) (by simp [results, Try.results51, go_sem]) rfl ⟨rfl, HB4.out⟩
  · have ha := HA.out
    rw [if_pos he] at ha
    subst ha
    have hst := HST.out
    rw [if_neg he] at hst
    subst hst
    have he' : (e != 0) = true := bne_iff_ne.2 he
    clear HA HST he
    go_enter Try.func51, Try.ntmps51
    go_wp2_with (go_at_call 48; refine (HS.out _ HT.out).mono ?_; rintro e w2 ⟨rfl, hb2⟩)
    refine bodyPost_ret (v := .tuple #[.string ⟨#[]⟩, .int .i64 e]) (by simp [results, Try.results51, go_sem]) rfl ⟨rfl, hb2.alloc hb2.size _⟩
set_option maxHeartbeats 1000000 in
set_option maxRecDepth 1000000 in
theorem pread_calls (p : Nat) (T : Tr) (s : ByteArray) (k : Nat) (R : Int × Int) (w : World) (hT : TreeAt w p T) (hO : TrOK T) (hw : wf R.1) (hR : findF T true k s = some R) :
    Calls Try.prog 18 #[pT p, .string s] w fun e w' => e = .returned (.tuple #[.string (askD T R 2 8).1, .int .i64 (askD T R 2 8).2]) ∧ Below w.heap.size w w' := by
  have HS := Lib.hid (fun v W h hv => asked_calls p T s true k R 2 8 v W h hO hw hR (by decide) hv)
  have HN := Lib.hid (fun W => only_calls 2 8 W)
  have HT := Lib.hid hT
  generalize askD T R 2 8 = ak at *
  obtain ⟨d, e⟩ := ak
  clear hT hO hw hR
  go_enter Try.func18, Try.ntmps18
  go_wp2_with (first
    | (go_at_call 52; refine (HN.out _).mono ?_; rintro e w2 ⟨v, rfl, hv, hb2⟩; have HB2 := Lib.hid hb2; have HV := Lib.hid hv; clear hb2 hv)
    | (go_at_call 51; refine (HS.out _ _ (HT.out.below HB2.out) HV.out).mono ?_; rintro e w3 ⟨rfl, hb3⟩))
  refine bodyPost_ret (v := .tuple #[.string d, .int .i64 e]) (by simp [results, Try.results18, go_sem]) rfl ⟨rfl, HB2.out.trans (hb3.mono HB2.out.size)⟩
end Go.Proofs.Ytjfigngmpagloaa.Tw

namespace Go.Proofs.Ytjfigngmpagloaa.Tw
open Go Go.RowKit Go.Shelf Go.Proofs Go.Proofs.Ytjfigngmpagloaa Go.Proofs.YtjfigngmpagloaaW.PrintWords Go.Proofs.Ytjfigngmpagloaa.Ext Go.Proofs.Ytjfigngmpagloaa.X Go.Proofs.Ytjfigngmpagloaa.Pu
set_option linter.unusedVariables false
set_option linter.unusedSimpArgs false
def StrV (W : World) (v : Value) (l : List ByteArray) : Prop := ∃ A c, v = .slice A l.length c ∧ l.length ≤ c ∧ Kd.C Kd.string W A l.length l
theorem StrV.below {w W : World} {v : Value} {l : List ByteArray} (h : StrV w v l) (hb : Below w.heap.size w W) : StrV W v l := by
  obtain ⟨A, c, rfl, h1, h2⟩ := h
  exact ⟨A, c, rfl, h1, Kd.C_below h2 hb⟩
end Go.Proofs.Ytjfigngmpagloaa.Tw

namespace Go.Proofs.Ytjfigngmpagloaa.Tw
open Go Go.RowKit Go.Shelf Go.Proofs Go.Proofs.Ytjfigngmpagloaa Go.Proofs.YtjfigngmpagloaaW.PrintWords Go.Proofs.Ytjfigngmpagloaa.Ext Go.Proofs.Ytjfigngmpagloaa.X Go.Proofs.Ytjfigngmpagloaa.Pu
set_option linter.unusedVariables false
set_option linter.unusedSimpArgs false
theorem node_rt {T : Tr} (hO : TrOK T) (n : Int) : Rt (T.node n).ents := by
  unfold Tr.node
  cases hx : T.get n with
  | none => exact List.Pairwise.nil
  | some x => exact hO.sorted n x hx
end Go.Proofs.Ytjfigngmpagloaa.Tw

namespace Go.Proofs.Ytjfigngmpagloaa.Ext
end Go.Proofs.Ytjfigngmpagloaa.Ext
namespace Go.Proofs.Ytjfigngmpagloaa.X
open Go.RowKit Go.Proofs.YtjfigngmpagloaaW.PrintWords Go.Proofs.YtjfigngmpagloaaW.PrintLast Go.Proofs.YtjfigngmpagloaaW.PrintMore Go.Proofs.Ytjfigngmpagloaa.Ext
attribute [local go_sem] max2_int min2_int max_two min_two max_three min_three max_four min_four   -- for this text's walks alone
set_option linter.unusedVariables false
set_option linter.unusedSimpArgs false

end Go.Proofs.Ytjfigngmpagloaa.X

namespace Go.Proofs.Ytjfigngmpagloaa.Ext
end Go.Proofs.Ytjfigngmpagloaa.Ext
namespace Go.Proofs.Ytjfigngmpagloaa.X
open Go.RowKit Go.Proofs.YtjfigngmpagloaaW.PrintWords Go.Proofs.YtjfigngmpagloaaW.PrintLast Go.Proofs.YtjfigngmpagloaaW.PrintMore Go.Proofs.Ytjfigngmpagloaa.Ext
attribute [local go_sem] max2_int min2_int max_two min_two max_three min_three max_four min_four   -- for this text's walks alone
set_option linter.unusedVariables false
set_option linter.unusedSimpArgs false

end Go.Proofs.Ytjfigngmpagloaa.X

namespace Go.Proofs.Ytjfigngmpagloaa.Ext
end Go.Proofs.Ytjfigngmpagloaa.Ext
namespace Go.Proofs.Ytjfigngmpagloaa.X
open Go.RowKit Go.Proofs.YtjfigngmpagloaaW.PrintWords Go.Proofs.YtjfigngmpagloaaW.PrintLast Go.Proofs.YtjfigngmpagloaaW.PrintMore Go.Proofs.Ytjfigngmpagloaa.Ext
attribute [local go_sem] max2_int min2_int max_two min_two max_three min_three max_four min_four   -- for this text's walks alone
set_option linter.unusedVariables false
set_option linter.unusedSimpArgs false

end Go.Proofs.Ytjfigngmpagloaa.X

namespace Go.Proofs.Ytjfigngmpagloaa.Tw
open Go Go.RowKit Go.Proofs Go.Proofs.Ytjfigngmpagloaa Go.Proofs.YtjfigngmpagloaaW.PrintWords Go.Proofs.Ytjfigngmpagloaa.Ext Go.Proofs.Ytjfigngmpagloaa.X Go.Proofs.Ytjfigngmpagloaa.Pu
set_option linter.unusedVariables false
set_option linter.unusedSimpArgs false
end Go.Proofs.Ytjfigngmpagloaa.Tw

namespace Go.Proofs.Ytjfigngmpagloaa.Tw
open Go Go.RowKit Go.Proofs Go.Proofs.Ytjfigngmpagloaa Go.Proofs.YtjfigngmpagloaaW.PrintWords Go.Proofs.Ytjfigngmpagloaa.Ext Go.Proofs.Ytjfigngmpagloaa.X Go.Proofs.Ytjfigngmpagloaa.Pu
set_option linter.unusedVariables false
set_option linter.unusedSimpArgs false
theorem walk_rng {L : List RN} {last : Int} (hG : GoodL L last) (hM : GoodM L) (lst : Bool) : ∀ (k : Nat) (a h : Int) (l : List ByteArray) (R : Int × Int), walkF (trOf L last) lst k a h l = some R → (atR L a).f3 ≠ 0 → R.2 = 0 → (atR L R.1).f3 ≠ 0 := by
  intro k
  induction k with
  | zero => intro a h l R hw; cases hw
  | succ k ih =>
    intro a h l R hw ha hR
    cases l with
    | nil =>
      rw [walk_nil] at hw
      obtain rfl := Option.some.inj hw
      exact ha
    | cons s l =>
      rw [walk_cons, node_of hG a] at hw
      simp only [] at hw
      split at hw
      · obtain rfl := Option.some.inj hw; cases hR
      rename_i hk
      have hk1 : (atR L a).f3 = 1 := by simpa using hk
      split at hw
      · obtain ⟨r, hr, _, hat⟩ := at_kind ha
        refine ih _ _ _ _ hw ?_ hR
        rw [hat, hG.up r hr]
        decide
      split at hw
      · rename_i h3
        obtain rfl := Option.some.inj hw
        exact absurd hR h3
      rename_i h3
      have hd : (atR L (downT (trOf L last) a s).1).f3 ≠ 0 := by
        rw [downT_of hG] at h3 ⊢
        split at h3
        · rename_i hc
          rw [if_pos hc]
          split at h3
          · simp at h3
          · rename_i h0
            rw [if_neg h0]
            obtain ⟨r, hr, _, _, _, _, hat⟩ := inR_mem hG h0
            rw [show (inR L a s, (0 : Int)).1 = inR L a s from rfl, hat]
            have := hM.kind r hr
            omega
        · rename_i hc
          simp at h3
          exact absurd h3 hc
      split at hw
      · exact ih _ _ _ _ hw hd hR
      split at hw
      · obtain rfl := Option.some.inj hw; cases hR
      refine ih _ _ _ _ hw ?_ hR
      split
      · obtain ⟨r, hr, h1, _, h2⟩ := hG.root
        rw [← h1, at_mem hG hr, h2]
        decide
      · exact ha
theorem find_rng {L : List RN} {last : Int} (hG : GoodL L last) (hM : GoodM L) {lst : Bool} {k : Nat} {s : ByteArray} {R : Int × Int} (h : findF (trOf L last) lst k s = some R) : (R.2 = 0 → 1 ≤ R.1 ∧ R.1 ≤ last) ∧ (R.2 ≠ 0 → R.1 = 0) := by
  have hroot : (atR L 1).f3 ≠ 0 := by
    obtain ⟨r, hr, h1, _, h2⟩ := hG.root
    rw [← h1, at_mem hG hr, h2]
    decide
  unfold findF at h
  split at h
  · obtain ⟨q, hq, hr⟩ := Option.bind_eq_some_iff.1 h
    split at hr
    · rename_i h0
      obtain rfl := Option.some.inj hr
      refine ⟨fun _ => ?_, fun h => absurd rfl h⟩
      obtain ⟨r, hr, h1, _⟩ := at_kind (walk_rng hG hM lst k 1 0 (partsB s) q hq hroot h0)
      have := hG.num r hr
      omega
    · rename_i h0
      obtain rfl := Option.some.inj hr
      exact ⟨fun h => absurd h h0, fun _ => rfl⟩
  · rename_i h0
    obtain rfl := Option.some.inj h
    exact ⟨fun h => absurd h h0, fun _ => rfl⟩
theorem find_wf {L : List RN} {last : Int} (hG : GoodL L last) (hM : GoodM L) (hla : last ≤ 1000000) {lst : Bool} {k : Nat} {s : ByteArray} {R : Int × Int} (h : findF (trOf L last) lst k s = some R) : wf R.1 := by
  obtain ⟨h1, h2⟩ := find_rng hG hM h
  by_cases h0 : R.2 = 0
  · have := h1 h0
    exact wf_of (by omega)
  · rw [h2 h0]
    exact wf0
section
variable {L : List RN} {last : Int} {s : ByteArray} {lst : Bool} {R : Int × Int}
end
end Go.Proofs.Ytjfigngmpagloaa.Tw

namespace Go.Proofs.Ytjfigngmpagloaa.Tw
open Go Go.RowKit Go.Shelf Go.Proofs Go.Proofs.Ytjfigngmpagloaa Go.Proofs.YtjfigngmpagloaaW.PrintWords Go.Proofs.Ytjfigngmpagloaa.Ext Go.Proofs.Ytjfigngmpagloaa.X Go.Proofs.Ytjfigngmpagloaa.Pu
set_option linter.unusedVariables false
set_option linter.unusedSimpArgs false
set_option maxHeartbeats 2000000 in
set_option maxRecDepth 1000000 in
theorem write_new (p B : Nat) (L : List RN) (last : Int) (path data s : ByteArray) (n d : Int) (k1 k2 : Nat) (w : World) (h : TreeB w p B (trOf L last)) (hG : GoodL L last) (hla : last < 1000000) (hw : wf n) (hd : wf d) (hs : s.size < 4294967281) (hF : findF (trOf L last) true k1 path = some (n, 5)) (hS : spotF (trOf L last) k2 path = some (d, s, 0)) (hN : inR L d s = 0) :
    Calls Try.prog 44 #[pT p, .string path, .string data] w fun e w' => e = .returned (.int .i64 (putRE L d s 2 data)) ∧ TreeB w' p B (trOf (putL L last d s 2 data) (putN L last d s 2 data)) ∧ Frm w w' p B := by
  have hO := trOK hG (by omega)
  have HS := Lib.hid (fun W h => pstat_calls p (trOf L last) path k1 (n, 5) W h hO hw hF)
  rw [show stT (trOf L last) (n, 5) = (0, 0, 0) from rfl] at HS
  have HP := Lib.hid (fun W h => spot_calls p (trOf L last) path k2 (d, s, 0) W h hO hS)
  have HL := Lib.hid (fun W h => list_calls p (trOf L last) d W h hd (hO.small.node d))
  have HE := Lib.hid (fun A c W h hc => find_calls A c ((trOf L last).node d).ents s W h hc (hO.small.node d) (node_rt hO d))
  rw [node_of hG d] at HE HL
  simp only [find_ents hG d s, hN] at HE
  rw [show decide ((0 : Int) < 0) = false from rfl] at HE
  simp only [] at HL
  generalize entsOf L d = es at HE HL
  have HU := Lib.hid (fun W h => tput_calls p B L last d s 2 data W h hG hd hs hla)
  have HT := Lib.hid h
  have HTA := Lib.hid (fun W (hb : Below w.heap.size w W) => (h.below hb).at_)
  have hu := Try.underlying32
  generalize putRE L d s 2 data = pe at HU ⊢
  generalize putA L last d s 2 data = pa at HU
  generalize trOf (putL L last d s 2 data) (putN L last d s 2 data) = T2 at HU ⊢
  generalize trOf L last = T1 at *
  clear h hO hG hla hw hd hs hF hS hN
  go_enter Try.func44, Try.ntmps44
  go_wp2_with (first
    | (go_at_call 15; refine (HS.out _ HT.out.at_).mono ?_; rintro e w2 ⟨rfl, hb2⟩; have HB2 := Lib.hid (hb2.alloc hb2.size (.cells #[.int .i64 0, .int .i64 0, .int .i64 0] 32)); clear hb2)
    | (go_at_call 26; refine (HP.out _ (HTA.out _ HB2.out)).mono ?_; rintro e w3 ⟨rfl, hb3⟩; have HB3 := Lib.hid (HB2.out.trans (hb3.mono HB2.out.size)); clear hb3)
    | (go_at_call 40; refine (HL.out _ (HTA.out _ HB3.out)).mono ?_; rintro e w4 ⟨v, rfl, hv, hb4⟩; obtain ⟨A4, c4, rfl, hl4, hC4⟩ := Kd.R_reads hv; have HB4 := Lib.hid (HB3.out.trans (hb4.mono HB3.out.size)); have HC4 := Lib.hid hC4; clear hv hb4 hC4)
    | (go_at_call 39; refine (HE.out _ _ _ HC4.out hl4).mono ?_; rintro e w5 ⟨rfl, hb5⟩; have HB5 := Lib.hid (HB4.out.trans (hb5.mono HB4.out.size)); clear hb5)
    | (go_at_call 46; refine (HU.out _ (HT.out.below HB5.out)).mono ?_; rintro e w6 ⟨rfl, hT6, hf6⟩))
  go_ret
  exact ⟨rfl, hT6, (Frm.ofBelow HB5.out).trans hf6⟩
abbrev nodesB : List MN := [⟨-1, ⟨#[97]⟩, 1, ⟨#[]⟩⟩, ⟨-1, ⟨#[108]⟩, 3, ⟨#[97]⟩⟩]
abbrev nodesC : List MN := [⟨-1, ⟨#[97]⟩, 1, ⟨#[]⟩⟩, ⟨-1, ⟨#[108]⟩, 3, ⟨#[97]⟩⟩, ⟨0, ⟨#[102]⟩, 2, ⟨#[120]⟩⟩]
abbrev rowsB : List RN := [⟨1, 1, ⟨#[]⟩, 1, ⟨#[]⟩⟩, ⟨2, 1, ⟨#[97]⟩, 1, ⟨#[]⟩⟩, ⟨3, 1, ⟨#[108]⟩, 3, ⟨#[97]⟩⟩]
abbrev rowsC : List RN := [⟨1, 1, ⟨#[]⟩, 1, ⟨#[]⟩⟩, ⟨2, 1, ⟨#[97]⟩, 1, ⟨#[]⟩⟩, ⟨3, 1, ⟨#[108]⟩, 3, ⟨#[97]⟩⟩, ⟨4, 2, ⟨#[102]⟩, 2, ⟨#[120]⟩⟩]
theorem madeB : madeF nodesB = ⟨rowsB, 3, [2, 3]⟩ := by
  simp [madeF, made0, madeStep, dirAt, putL, putN, putA, putRE, dirE, atR, inR, inQ, toL, mayE, Sp.check, ByteArray.size]
theorem madeC : madeF nodesC = ⟨rowsC, 4, [2, 3, 4]⟩ := by
  simp [madeF, made0, madeStep, dirAt, putL, putN, putA, putRE, dirE, atR, inR, inQ, toL, mayE, Sp.check, ByteArray.size]
theorem goodB : GoodL rowsB 3 ∧ GoodM rowsB := by
  have h := made_good nodesB
  rw [madeB] at h
  exact ⟨h.1, h.2.1⟩
theorem goodC : GoodL rowsC 4 ∧ GoodM rowsC := by
  have h := made_good nodesC
  rw [madeC] at h
  exact ⟨h.1, h.2.1⟩
theorem findB : ∃ k, findF (trOf rowsB 3) true k ⟨#[108, 47, 102]⟩ = some (0, 5) := by
  have hG := goodB.1
  refine ⟨10, ?_⟩
  simp [findF, beginE, toL, ByteArray.size, partsB, bs, Sp.parts, Sp.go, Sp.keep, walk_cons, walk_nil, node_of hG, downT_of hG, atR, inR, inQ, Sp.check, slashB, Lib.hasPrefix, Sp.mk]
theorem spotB : ∃ k, spotF (trOf rowsB 3) k ⟨#[108, 47, 102]⟩ = some (2, ⟨#[102]⟩, 0) := by
  have hG := goodB.1
  refine ⟨10, ?_⟩
  simp [spotF, beginE, toL, ByteArray.size, partsB, bs, Sp.parts, Sp.go, Sp.keep, walk_cons, walk_nil, node_of hG, downT_of hG, atR, inR, inQ, Sp.check, slashB, Lib.hasPrefix, Sp.mk]
theorem findC : ∃ k, findF (trOf rowsC 4) true k ⟨#[47, 97, 47, 102]⟩ = some (4, 0) := by
  have hG := goodC.1
  refine ⟨10, ?_⟩
  simp [findF, beginE, toL, ByteArray.size, partsB, bs, Sp.parts, Sp.go, Sp.keep, walk_cons, walk_nil, node_of hG, downT_of hG, atR, inR, inQ, Sp.check, slashB, Lib.hasPrefix, Sp.mk]
theorem putB : putRE rowsB 2 ⟨#[102]⟩ 2 ⟨#[120]⟩ = 0 ∧ putL rowsB 3 2 ⟨#[102]⟩ 2 ⟨#[120]⟩ = rowsC ∧ putN rowsB 3 2 ⟨#[102]⟩ 2 ⟨#[120]⟩ = 4 := by
  simp [putL, putN, putRE, dirE, atR, inR, inQ, toL, mayE, Sp.check, ByteArray.size]
theorem made_B (g : Nat) (W : World) (h : W.heap[g]? = some (.cells (nodesB.flatMap cellsN).toArray 89 (0, 0))) :
    Calls Try.prog 12 #[.slice (some ⟨g, 0, none⟩) 2 2] W fun e w' => ∃ p B v, e = .returned (.tuple #[pT p, v]) ∧ TreeB w' p B (trOf rowsB 3) ∧ RAt w' v rowsB 3 ∧ Below W.heap.size W w' ∧ W.heap.size ≤ p ∧ W.heap.size ≤ B := by
  have := made_calls (some ⟨g, 0, none⟩) 2 nodesB W (litN W g nodesB _ h (by decide)) (by decide) (by decide) (by intro x hx; simp only [nodesB, List.mem_cons, List.not_mem_nil, or_false] at hx; rcases hx with rfl | rfl <;> decide)
  rw [madeB] at this
  exact this
theorem write_B (p B : Nat) (W : World) (h : TreeB W p B (trOf rowsB 3)) :
    Calls Try.prog 44 #[pT p, .string ⟨#[108, 47, 102]⟩, .string ⟨#[120]⟩] W fun e w' => e = .returned (.int .i64 0) ∧ TreeB w' p B (trOf rowsC 4) ∧ Frm W w' p B := by
  obtain ⟨k1, h1⟩ := findB
  obtain ⟨k2, h2⟩ := spotB
  obtain ⟨e1, e2, e3⟩ := putB
  have := write_new p B rowsB 3 ⟨#[108, 47, 102]⟩ ⟨#[120]⟩ ⟨#[102]⟩ 0 2 k1 k2 W h goodB.1 (by decide) wf0 (wf_of (by decide)) (by decide) h1 h2 (by simp [inR, inQ, toL])
  rw [e1, e2, e3] at this
  exact this
theorem read_C (p : Nat) (W : World) (h : TreeAt W p (trOf rowsC 4)) :
    Calls Try.prog 18 #[pT p, .string ⟨#[47, 97, 47, 102]⟩] W fun e w' => e = .returned (.tuple #[.string ⟨#[120]⟩, .int .i64 0]) ∧ Below W.heap.size W w' := by
  obtain ⟨k, hk⟩ := findC
  have hG := goodC.1
  have := pread_calls p (trOf rowsC 4) ⟨#[47, 97, 47, 102]⟩ k (4, 0) W h (trOK hG (by decide)) (wf_of (by decide)) hk
  rw [show askD (trOf rowsC 4) (4, 0) 2 8 = (⟨#[120]⟩, 0) by simp [askD, node_of hG, atR]] at this
  exact this
set_option maxHeartbeats 1000000 in
set_option maxRecDepth 1000000 in
theorem lives09_calls (w : World) : Calls Try.prog 11 #[] w fun e w' => e = .returned (.bool true) ∧ Below w.heap.size w w' := by
  have HBX := Lib.hid (heap_alloc_new w (.cells (nodesB.flatMap cellsN).toArray 89))
  have HB0 := Lib.hid ((Below.refl w.heap.size w).alloc (Nat.le_refl _) (.cells (nodesB.flatMap cellsN).toArray 89))
  have hsz : (w.alloc (.cells (nodesB.flatMap cellsN).toArray 89)).heap.size = w.heap.size + 1 := Array.size_push _
  have HSZ := Lib.hid hsz
  have HM := Lib.hid (made_B w.heap.size)
  have HW := Lib.hid write_B
  have HR := Lib.hid read_C
  clear hsz
  go_enter Try.func11, Try.ntmps11
  go_wp2_with (first
    | (go_at_call 12; refine (HM.out _ HBX.out).mono ?_; rintro e w2 ⟨p, B, v, rfl, hT2, ⟨A2, c2, rfl, _, _⟩, hb2, hp2, hB2⟩; have HT2 := Lib.hid hT2; have HB2 := Lib.hid (HB0.out.trans (hb2.mono HB0.out.size)); have HPB := Lib.hid (show w.heap.size ≤ p ∧ w.heap.size ≤ B by have := HSZ.out; omega); clear hT2 hb2 hp2 hB2)
    | (go_at_call 44; refine (HW.out _ _ _ (HT2.out.below ((Below.refl _ w2).alloc (Nat.le_refl _) _))).mono ?_; rintro e w3 ⟨rfl, hT3, hf3⟩; have HT3 := Lib.hid hT3; have HB3 := Lib.hid ((HB2.out.alloc HB2.out.size _).trans (hf3.below (HB2.out.alloc HB2.out.size _).size HPB.out.1 HPB.out.2)); clear hT3 hf3)
    | (go_at_call 18; refine (HR.out _ _ HT3.out.at_).mono ?_; rintro e w4 ⟨rfl, hb4⟩))
  go_ret
  exact ⟨rfl, HB3.out.trans (hb4.mono HB3.out.size)⟩
end Go.Proofs.Ytjfigngmpagloaa.Tw

namespace Go.Proofs.Ytjfigngmpagloaa.Tw
open Go Go.RowKit Go.Shelf Go.Proofs Go.Proofs.Ytjfigngmpagloaa Go.Proofs.YtjfigngmpagloaaW.PrintWords Go.Proofs.Ytjfigngmpagloaa.Ext Go.Proofs.Ytjfigngmpagloaa.X Go.Proofs.Ytjfigngmpagloaa.Pu
set_option linter.unusedVariables false
set_option linter.unusedSimpArgs false
noncomputable def spotV (L : List RN) (last : Int) (s : ByteArray) : R3 := @Classical.epsilon R3 ⟨noS 0⟩ (fun R => ∃ k, spotF (trOf L last) k s = some R)
theorem spotV_spec {L : List RN} {last : Int} (hG : GoodL L last) (hM : GoodM L) (s : ByteArray) : ∃ k, spotF (trOf L last) k s = some (spotV L last s) := by
  obtain ⟨k, _, R, h, _⟩ := spot_both hG hM s
  exact @Classical.epsilon_spec R3 (fun R => ∃ k, spotF (trOf L last) k s = some R) ⟨R, k, h⟩
theorem spotF_wf {T : Tr} (hO : TrOK T) {k : Nat} {s : ByteArray} {R : R3} (h : spotF T k s = some R) : wf R.1 ∧ R.2.1.size ≤ 1024 := by
  unfold spotF at h
  by_cases h0 : beginE s = 0
  · rw [if_pos h0] at h
    have hz := (beginE_ok h0).1
    cases hl : (partsB s).getLast? with
    | none => rw [hl] at h; cases h; exact ⟨wf0, Nat.zero_le _⟩
    | some z =>
      rw [hl] at h
      have hzm : z ∈ partsB s := List.mem_of_getLast? hl
      have hzz := partsB_sz s z hzm
      simp only [] at h
      split at h
      · cases h; exact ⟨wf0, Nat.zero_le _⟩
      · obtain ⟨r, hr, h⟩ := Option.bind_eq_some_iff.1 h
        have hwr := walkF_wf hO true k 1 0 _ r wf1 hr
        split at h
        · split at h
          · split at h
            · cases h; exact ⟨hwr, by show z.size ≤ 1024; omega⟩
            · cases h; exact ⟨wf0, Nat.zero_le _⟩
          · cases h; exact ⟨wf0, Nat.zero_le _⟩
        · cases h; exact ⟨wf0, Nat.zero_le _⟩
  · rw [if_neg h0] at h
    cases h
    exact ⟨wf0, Nat.zero_le _⟩
abbrev Op3 := List RN × Int × Int
noncomputable def renP (L : List RN) (last : Int) (a b : ByteArray) : Op3 :=
  if (spotV L last a).2.2 ≠ 0 then (L, last, (spotV L last a).2.2) else if (spotV L last b).2.2 ≠ 0 then (L, last, (spotV L last b).2.2) else
    (movM L last (spotV L last a).1 (spotV L last a).2.1 (spotV L last b).1 (spotV L last b).2.1, last, movP L last (spotV L last a).1 (spotV L last a).2.1 (spotV L last b).1 (spotV L last b).2.1)
structure Fine (L : List RN) (last : Int) (o : Op3) : Prop where
  good : GoodL o.1 o.2.1
  goodm : GoodM o.1
  lst : o.2.1 ≤ last + 1
  same : o.2.2 ≠ 0 → o.1 = L ∧ o.2.1 = last
theorem fine_err {L : List RN} {last e : Int} (hG : GoodL L last) (hM : GoodM L) : Fine L last (L, last, e) := ⟨hG, hM, by show last ≤ last + 1; omega, fun _ => ⟨rfl, rfl⟩⟩
theorem fine_ren {L : List RN} {last : Int} (hG : GoodL L last) (hM : GoodM L) (a b : ByteArray) : Fine L last (renP L last a b) := by
  unfold renP
  split
  · exact fine_err hG hM
  · split
    · exact fine_err hG hM
    · have := good_mov hG hM (spotV L last a).1 (spotV L last a).2.1 (spotV L last b).1 (spotV L last b).2.1
      refine ⟨this.1, this.2, by show last ≤ last + 1; omega, fun h => ⟨?_, rfl⟩⟩
      show movM _ _ _ _ _ _ = L
      unfold movM
      rw [if_neg (fun q => h q.1)]
def Left (p B : Nat) (w : World) (o : Op3) (e : Ending) (w' : World) : Prop := e = .returned (.int .i64 o.2.2) ∧ TreeB w' p B (trOf o.1 o.2.1) ∧ Frm w w' p B
theorem left_err {p B : Nat} {w w' : World} {L : List RN} {last e : Int} (h : TreeB w p B (trOf L last)) (hb : Below w.heap.size w w') : Left p B w (L, last, e) (.returned (.int .i64 e)) w' := ⟨rfl, h.below hb, Frm.ofBelow hb⟩
set_option maxHeartbeats 1000000 in
set_option maxRecDepth 1000000 in
theorem rename9_calls (p B : Nat) (L : List RN) (last : Int) (a b : ByteArray) (w : World) (h : TreeB w p B (trOf L last)) (hG : GoodL L last) (hM : GoodM L) (hla : last < 1000000) :
    Calls Try.prog 38 #[pT p, .string a, .string b] w (Left p B w (renP L last a b)) := by
  have hO := trOK hG (by omega)
  obtain ⟨k, hk⟩ := spotV_spec hG hM a
  obtain ⟨hw, hz⟩ := spotF_wf hO hk
  obtain ⟨k2, hk2⟩ := spotV_spec hG hM b
  obtain ⟨hw2, hz2⟩ := spotF_wf hO hk2
  have HP := Lib.hid (fun W h => spot_calls p (trOf L last) a k _ W h hO hk)
  have HP2 := Lib.hid (fun W h => spot_calls p (trOf L last) b k2 _ W h hO hk2)
  have HU := Lib.hid (fun W h => tmove_calls p B L last (spotV L last a).1 (spotV L last a).2.1 (spotV L last b).1 (spotV L last b).2.1 W h hG hM hw hw2 (by omega) (by omega))
  have HT := Lib.hid h
  unfold renP
  generalize movP L last (spotV L last a).1 (spotV L last a).2.1 (spotV L last b).1 (spotV L last b).2.1 = pe at *
  generalize hpl : movM L last (spotV L last a).1 (spotV L last a).2.1 (spotV L last b).1 (spotV L last b).2.1 = pl at *
  generalize spotV L last a = R at *
  generalize spotV L last b = R2 at *
  obtain ⟨d, z, e⟩ := R
  obtain ⟨d2, z2, e2⟩ := R2
  simp only [] at *
  clear h hO hG hM hla hk hw hz hk2 hw2 hz2 hpl
  have tk1 : True := trivial
  by_cases he : e = 0
  · subst he
    rw [if_neg (by simp)]
    by_cases he2 : e2 = 0
    · subst he2
      rw [if_neg (by simp)]
      go_enter Try.func38, Try.ntmps38
      go_upto_region 2 with (go_at_call 26; refine (HP.out _ HT.out.at_).mono ?_; rintro e w3 ⟨rfl, hb3⟩)
      go_wp2_with (first
        | (go_at_call 26; refine (HP2.out _ (HT.out.below hb3).at_).mono ?_; rintro e w4 ⟨rfl, hb4⟩)
        | (go_at_call 78; refine (HU.out _ ((HT.out.below hb3).below hb4)).mono ?_; rintro e w6 ⟨rfl, hT6, hf6⟩))
      go_ret
      exact ⟨rfl, hT6, (Frm.ofBelow (hb3.trans (hb4.mono hb3.size))).trans hf6⟩
    · rw [if_pos he2]
      have b1 : (e2 != 0) = true := bne_iff_ne.2 he2
      clear he2
      go_enter Try.func38, Try.ntmps38
      go_upto_region 2 with (go_at_call 26; refine (HP.out _ HT.out.at_).mono ?_; rintro e w3 ⟨rfl, hb3⟩)
      go_wp2_with (go_at_call 26; refine (HP2.out _ (HT.out.below hb3).at_).mono ?_; rintro e w4 ⟨rfl, hb4⟩)
      go_ret
      exact left_err HT.out (hb3.trans (hb4.mono hb3.size))
  · rw [if_pos he]
    have b1 : (e != 0) = true := bne_iff_ne.2 he
    clear he
    go_enter Try.func38, Try.ntmps38
    go_wp2_with (go_at_call 26; refine (HP.out _ HT.out.at_).mono ?_; rintro e w3 ⟨rfl, hb3⟩)
    go_ret
    exact left_err HT.out hb3
end Go.Proofs.Ytjfigngmpagloaa.Tw

namespace Go.Proofs.Ytjfigngmpagloaa.Tw
open Go Go.RowKit Go.Shelf Go.Proofs Go.Proofs.Ytjfigngmpagloaa Go.Proofs.YtjfigngmpagloaaW.PrintWords Go.Proofs.Ytjfigngmpagloaa.Ext Go.Proofs.Ytjfigngmpagloaa.X Go.Proofs.Ytjfigngmpagloaa.Pu
set_option linter.unusedVariables false
set_option linter.unusedSimpArgs false
theorem walk_split {T : Tr} {z : ByteArray} (hz : z.toList ≠ [46, 46]) : ∀ (k k' : Nat) (a h : Int) (l : List ByteArray) (R R' : Int × Int), walkF T false k a h (l ++ [z]) = some R → walkF T true k' a h l = some R' → R.2 = 0 →
    (downT T R'.1 z).2 = 0 ∧ (downT T R'.1 z).1 = R.1
  | 0, _, _, _, _, _, _, h, _, _ => by simp [walkF] at h
  | _ + 1, 0, _, _, _, _, _, _, h, _ => by simp [walkF] at h
  | k + 1, k' + 1, a, h, [], R, R', h1, h2, h3 => by
    simp only [walkF, Option.some.injEq] at h2
    subst h2
    rw [List.nil_append] at h1
    unfold walkF at h1
    by_cases c1 : (T.node a).kind ≠ 1
    · rw [if_pos c1] at h1
      cases h1; cases h3
    · rw [if_neg c1, if_neg hz] at h1
      by_cases q : (downT T a z).2 ≠ 0
      · rw [if_pos q] at h1
        cases h1; exact absurd h3 q
      · rw [if_neg q, if_pos (.inr ⟨rfl, rfl⟩)] at h1
        cases k with
        | zero => simp [walkF] at h1
        | succ k =>
          simp only [walkF, Option.some.injEq] at h1
          subst h1
          exact ⟨Decidable.byContradiction fun e => q e, rfl⟩
  | k + 1, k' + 1, a, h, s :: l, R, R', h1, h2, h3 => by
    rw [List.cons_append] at h1
    unfold walkF at h1 h2
    by_cases c1 : (T.node a).kind ≠ 1
    · rw [if_pos c1] at h1
      cases h1; cases h3
    · rw [if_neg c1] at h1 h2
      by_cases c2 : s.toList = [46, 46]
      · rw [if_pos c2] at h1 h2
        exact walk_split hz k k' _ h l R R' h1 h2 h3
      · rw [if_neg c2] at h1 h2
        by_cases c3 : (downT T a s).2 ≠ 0
        · rw [if_pos c3] at h1
          cases h1; exact absurd h3 c3
        · rw [if_neg c3] at h1 h2
          by_cases c4 : (T.node (downT T a s).1).kind ≠ 3
          · rw [if_pos (.inl c4)] at h1 h2
            exact walk_split hz k k' _ h l R R' h1 h2 h3
          · rw [if_neg (by rintro (e | e); exact c4 e; exact absurd e.1 (by simp))] at h1
            rw [if_neg (by rintro (e | e); exact c4 e; cases e.2)] at h2
            by_cases c5 : 40 ≤ h
            · rw [if_pos c5] at h1
              cases h1; cases h3
            · rw [if_neg c5] at h1 h2
              rw [← List.append_assoc] at h1
              exact walk_split hz k k' _ (h + 1) _ R R' h1 h2 h3
theorem find_spot {T : Tr} {k k' : Nat} {s : ByteArray} {R : Int × Int} {R' : R3} (h1 : findF T false k s = some R) (h2 : spotF T k' s = some R') (h3 : R.2 = 0) (h4 : R'.2.2 = 0) : (downT T R'.1 R'.2.1).2 = 0 ∧ (downT T R'.1 R'.2.1).1 = R.1 := by
  unfold findF at h1
  unfold spotF at h2
  by_cases h0 : beginE s = 0
  · rw [if_pos h0] at h1 h2
    rcases List.eq_nil_or_concat (partsB s) with e | ⟨ini, z, e⟩
    · rw [e] at h2
      cases h2
      cases h4
    · rw [List.concat_eq_append] at e
      rw [e] at h1 h2
      rw [List.getLast?_concat, List.dropLast_concat] at h2
      simp only [] at h2
      obtain ⟨r, hr, h1⟩ := Option.bind_eq_some_iff.1 h1
      by_cases hd : z.toList = [46, 46]
      · rw [if_pos hd] at h2; cases h2; cases h4
      · rw [if_neg hd] at h2
        obtain ⟨r', hr', h2⟩ := Option.bind_eq_some_iff.1 h2
        split at h1
        · rename_i q
          cases h1
          split at h2
          · split at h2
            · split at h2
              · cases h2
                exact walk_split hd k k' 1 0 ini r r' hr hr' q
              · rename_i q2; cases h2; exact absurd h4 q2
            · cases h2; cases h4
          · rename_i q2; cases h2; exact absurd h4 q2
        · rename_i q
          cases h1
          exact absurd h3 q
  · rw [if_neg h0] at h1
    cases h1
    exact absurd h3 h0
theorem moves_law {L : List RN} {last : Int} (hG : GoodL L last) (hM : GoodM L) {k : Nat} {a b : ByteArray} {R : Int × Int} (h1 : findF (trOf L last) false k a = some R) (h2 : R.2 = 0) (h3 : (renP L last a b).2.2 = 0) :
    inR (renP L last a b).1 (spotV L last b).1 (spotV L last b).2.1 = R.1 ∧ R.1 ≠ 0 ∧ (atR (renP L last a b).1 R.1).f3 = (atR L R.1).f3 := by
  unfold renP at h3 ⊢
  split at h3
  · rename_i q; exact absurd h3 q
  · rename_i q1
    rw [if_neg q1]
    split at h3
    · rename_i q; exact absurd h3 q
    · rename_i q2
      rw [if_neg q2]
      obtain ⟨k', hk'⟩ := spotV_spec hG hM a
      obtain ⟨d1, d2⟩ := find_spot h1 hk' h2 (Decidable.byContradiction fun e => q1 e)
      have hn : inR L (spotV L last a).1 (spotV L last a).2.1 = R.1 ∧ R.1 ≠ 0 := by
        rw [downT_of hG] at d1 d2
        split at d1
        · rename_i c
          rw [if_pos c] at d2
          split at d1
          · cases d1
          · rename_i c2
            rw [if_neg c2] at d2
            have d2 : inR L (spotV L last a).1 (spotV L last a).2.1 = R.1 := d2
            exact ⟨d2, by rw [← d2]; exact c2⟩
        · rename_i c
          exact absurd d1 c
      refine ⟨?_, hn.2, ?_⟩
      · show inR (movM _ _ _ _ _ _) _ _ = _
        have h3 : movP L last (spotV L last a).1 (spotV L last a).2.1 (spotV L last b).1 (spotV L last b).2.1 = 0 := h3
        unfold movM
        by_cases hs : (roomRE L (inR L (spotV L last a).1 (spotV L last a).2.1) (spotV L last b).1 (spotV L last b).2.1).1 = false
        · rw [if_pos ⟨h3, hs⟩]
          have M := mov_all hG hM h3 hs
          obtain ⟨r, hr, hrn, hrd, hrs, hr1⟩ := M.mem
          have hz := (movRE_zero h3).2.2.1
          obtain ⟨r0, hr0, hr0n, _, _, hr01, hra⟩ := inR_mem hG hz
          have hx0 : (movX L (inR L (spotV L last a).1 (spotV L last a).2.1) (spotV L last b).1 (spotV L last b).2.1).f0 = inR L (spotV L last a).1 (spotV L last a).2.1 := by
            show (atR L _).f0 = _; rw [hra]; exact hr0n
          have := inR_of M.good.1 (withL_mem2 hr (hrn.trans hx0.symm)) (by rw [hx0, ← hrn]; exact hr1)
          rw [hx0] at this
          rw [← hn.1]
          exact this
        · rw [if_neg (fun q => hs q.2)]
          have hs : (roomRE L (inR L (spotV L last a).1 (spotV L last a).2.1) (spotV L last b).1 (spotV L last b).2.1).1 = true := by simpa using hs
          unfold roomRE at hs
          split at hs
          · cases hs
          · split at hs
            · rename_i e; rw [e]; exact hn.1
            · split at hs
              · cases hs
              · split at hs
                · cases hs
                · cases hs
      · show (atR (movM _ _ _ _ _ _) _).f3 = _
        have h3 : movP L last (spotV L last a).1 (spotV L last a).2.1 (spotV L last b).1 (spotV L last b).2.1 = 0 := h3
        unfold movM
        by_cases hs : (roomRE L (inR L (spotV L last a).1 (spotV L last a).2.1) (spotV L last b).1 (spotV L last b).2.1).1 = false
        · rw [if_pos ⟨h3, hs⟩]
          have M := mov_all hG hM h3 hs
          obtain ⟨r, hr, hrn, hrd, hrs, hr1⟩ := M.mem
          have hz := (movRE_zero h3).2.2.1
          obtain ⟨r0, hr0, hr0n, _, _, hr01, hra⟩ := inR_mem hG hz
          have hx0 : (movX L (inR L (spotV L last a).1 (spotV L last a).2.1) (spotV L last b).1 (spotV L last b).2.1).f0 = inR L (spotV L last a).1 (spotV L last a).2.1 := by
            show (atR L _).f0 = _; rw [hra]; exact hr0n
          have := withL_at1 (L := roomL L (spotV L last b).1 (spotV L last b).2.1) ⟨r, hr, hrn.trans hx0.symm⟩
          rw [hx0] at this
          rw [← hn.1, this]
          rfl
        · rw [if_neg (fun q => hs q.2)]
theorem len_bulk9 : ∀ l : List MN, l.length ≤ (l.map bulkN).sum := by
  intro l
  induction l with
  | nil => simp
  | cons x l ih =>
    rw [List.map_cons, List.sum_cons, List.length_cons]
    have : 1 ≤ bulkN x := by unfold bulkN; omega
    omega
theorem st9_cell {W W' : World} {g : Nat} {a b c : Int} (h : W.heap[g]? = some (.cells #[.int .i64 a, .int .i64 b, .int .i64 c] 32 (0, 0))) (hb : Below W.heap.size W W') :
    W'.cell? ⟨g, 0, none⟩ = some (.int .i64 a) ∧ W'.cell? ⟨g, 1, none⟩ = some (.int .i64 b) ∧ W'.cell? ⟨g, 2, none⟩ = some (.int .i64 c) := by
  have h5 := (hb.block _ (blk_lt h)).trans h
  exact ⟨by rw [blk_cell h5]; rfl, by rw [blk_cell h5]; rfl, by rw [blk_cell h5]; rfl⟩
set_option maxHeartbeats 4000000 in
set_option maxRecDepth 1000000 in
theorem posixMoves_calls (A : Option Addr) (c : Nat) (l : List MN) (s q : ByteArray) (w : World) (hC : Kd.C k89 w A l.length l) (hc : l.length ≤ c) (hb : (l.map bulkN).sum + 1 ≤ 1048576) (ho : ∀ x ∈ l, (Lit.int .i64 x.f0).wf = true ∧ True ∧ (Lit.int .i64 x.f2).wf = true ∧ True) (hs : s.size ≤ 1048576) (hq : q.size ≤ 1048576) :
    Calls Try.prog 8 #[.slice A l.length c, .string s, .string q] w fun e w' => e = .returned (.bool true) ∧ Below w.heap.size w w' := by
  have hsz : ∀ x ∈ l, x.f1.size < 4294967281 := fun x hx => by
    have h1 := sum_in8 bulkN hx
    have h2 : x.f1.size ≤ bulkN x := by unfold bulkN; omega
    omega
  obtain ⟨b, hfew, hb60⟩ := few_ev l (by have := len_bulk9 l; omega)
  obtain ⟨kf, hkf⟩ := Ev.rounds hfew
  have HF := Lib.hid (fun W h => linhaylaw08_Few.calls kf A c l b W h hc hkf)
  have HC := Lib.hid hC
  have HLV := Lib.hid lives09_calls
  clear hC hfew hkf hb ho
  cases b with
  | false =>
    clear hb60
    go_enter Try.func8, Try.ntmps8
    go_wp2_with (first | (go_at_call 10; refine (HF.out _ HC.out).mono ?_; rintro e w2 ⟨rfl, hd2⟩) | (go_at_call 11; refine (HLV.out _).mono ?_; rintro e w7 ⟨rfl, hb7⟩))
    go_ret
    exact ⟨rfl, hd2.below.trans (hb7.mono hd2.below.size)⟩
  | true =>
    have h60 := hb60 rfl
    by_cases hz : (2000 : Int) < (s.size : Int)
    · clear hb60
      go_enter Try.func8, Try.ntmps8
      go_wp2_with (first | (go_at_call 10; refine (HF.out _ HC.out).mono ?_; rintro e w2 ⟨rfl, hd2⟩) | (go_at_call 11; refine (HLV.out _).mono ?_; rintro e w7 ⟨rfl, hb7⟩))
      go_ret
      exact ⟨rfl, hd2.below.trans (hb7.mono hd2.below.size)⟩
    by_cases hz2 : (2000 : Int) < (q.size : Int)
    · clear hb60
      go_enter Try.func8, Try.ntmps8
      go_wp2_with (first | (go_at_call 10; refine (HF.out _ HC.out).mono ?_; rintro e w2 ⟨rfl, hd2⟩) | (go_at_call 11; refine (HLV.out _).mono ?_; rintro e w7 ⟨rfl, hb7⟩))
      go_ret
      exact ⟨rfl, hd2.below.trans (hb7.mono hd2.below.size)⟩
    obtain ⟨hG, hM, hla, hln⟩ := made_good l
    have hO := trOK hG (by omega)
    obtain ⟨kL, RL, hRL, hEL⟩ := find_both hG hM false s
    have hwL := find_wf hG hM (by omega) hRL
    obtain ⟨kS, hkS⟩ := spotV_spec hG hM q
    obtain ⟨hwS, -⟩ := spotF_wf hO hkS
    have HM := Lib.hid (fun W h => made_calls A c l W h hc h60 hsz)
    have HA1 := Lib.hid (fun p W h => lstat_calls p (trOf (madeF l).L (madeF l).last) s kL RL W h hO hwL hRL)
    have HST : Hid (stT (trOf (madeF l).L (madeF l).last) RL = if RL.2 = 0 then (RL.1, ((trOf (madeF l).L (madeF l).last).node RL.1).kind, sizeT (trOf (madeF l).L (madeF l).last) RL.1) else (0, 0, 0)) := Lib.hid rfl
    rw [node_of hG RL.1] at HST
    have HSP := Lib.hid (fun p W h => spot_calls p (trOf (madeF l).L (madeF l).last) q kS _ W h hO hkS)
    have HREN := Lib.hid (fun p B W h => rename9_calls p B (madeF l).L (madeF l).last s q W h hG hM (by omega))
    have HLAW := Lib.hid (fun h2 h3 => moves_law hG hM (b := q) hRL h2 h3)
    have HFN := fine_ren hG hM s q
    have hO2 := trOK HFN.good (by have := HFN.lst; omega)
    have HLS := Lib.hid (fun p W h => list_calls p (trOf (renP (madeF l).L (madeF l).last s q).1 (renP (madeF l).L (madeF l).last s q).2.1) (spotV (madeF l).L (madeF l).last q).1 W h hwS (hO2.small.node _))
    have HEF := Lib.hid (fun A c W h hc => find_calls A c ((trOf (renP (madeF l).L (madeF l).last s q).1 (renP (madeF l).L (madeF l).last s q).2.1).node (spotV (madeF l).L (madeF l).last q).1).ents (spotV (madeF l).L (madeF l).last q).2.1 W h hc (hO2.small.node _) (hO2.sorted.node _))
    rw [node_of HFN.good (spotV (madeF l).L (madeF l).last q).1] at HLS HEF
    simp only [find_ents HFN.good] at HEF
    have HKD := Lib.hid (fun p W h => kind_calls p (trOf (renP (madeF l).L (madeF l).last s q).1 (renP (madeF l).L (madeF l).last s q).2.1) RL.1 W h hwL)
    rw [node_of HFN.good RL.1] at HKD
    have hin := inR_le HFN.good (spotV (madeF l).L (madeF l).last q).1 (spotV (madeF l).L (madeF l).last q).2.1
    have HIN := Lib.hid hin
    simp only [] at HLS HST HKD
    clear hRL hEL hwL hkS hwS hO hO2 HFN hin
    generalize hst : stT (trOf (madeF l).L (madeF l).last) RL = stL at *
    generalize sizeT (trOf (madeF l).L (madeF l).last) RL.1 = sz at *
    generalize inR (renP (madeF l).L (madeF l).last s q).1 (spotV (madeF l).L (madeF l).last q).1 (spotV (madeF l).L (madeF l).last q).2.1 = nn at *
    generalize entsOf (renP (madeF l).L (madeF l).last s q).1 (spotV (madeF l).L (madeF l).last q).1 = es at *
    generalize (atR (renP (madeF l).L (madeF l).last s q).1 RL.1).f3 = kd2 at *
    generalize (atR (madeF l).L RL.1).f3 = kd at *
    generalize renP (madeF l).L (madeF l).last s q = o at *
    generalize spotV (madeF l).L (madeF l).last q = RS at *
    generalize (madeF l).L = L at *
    generalize (madeF l).last = la at *
    clear hst
    obtain ⟨nL, eL⟩ := RL
    obtain ⟨oL, oN, oE⟩ := o
    obtain ⟨ds, zs, e3⟩ := RS
    simp only [] at *
    clear hb60 hG hM hla hln hsz
    obtain ⟨a0, a1, a2⟩ := stL
    by_cases he : eL = 0
    · subst he
      have hst := HST.out
      rw [if_pos rfl] at hst
      cases hst
      clear HST
      by_cases hk : kd = 2
      · subst hk
        by_cases hoe : oE = 0
        · subst hoe
          obtain ⟨rfl, hn0, rfl⟩ := HLAW.out rfl rfl
          have hpos : (0 : Int) < nn := by have := HIN.out.1; omega
          rw [decide_eq_true hpos] at HEF
          clear HLAW HIN hn0 hpos
          
          go_enter Try.func8, Try.ntmps8
          go_upto_region 4 with (first | (go_at_call 10; refine (HF.out _ HC.out).mono ?_; rintro e w2 ⟨rfl, hd2⟩; have HB2 := Lib.hid hd2.below) | (go_at_call 12; refine (HM.out _ (Kd.C_below HC.out HB2.out)).mono ?_; rintro e w3 ⟨p, B, v, rfl, hT3, ⟨A3, c3, rfl, hc3, hC3⟩, hb3, hp, hB⟩; have HT3 := Lib.hid hT3; have HPB := Lib.hid (And.intro (Nat.le_trans HB2.out.size hp) (Nat.le_trans HB2.out.size hB)); clear hT3 hC3 hp hB))
          have hba := (Below.refl _ w3).alloc (Nat.le_refl _) (.cells #[.slice A3 L.length c3, .int .i64 la] 28)
          have HT4 := Lib.hid (HT3.out.below hba)
          have HB4 := Lib.hid (HB2.out.trans ((hb3.mono HB2.out.size).trans (hba.mono (Nat.le_trans HB2.out.size hb3.size))))
          generalize w3.alloc (.cells #[.slice A3 L.length c3, .int .i64 la] 28) = w4 at HT4 HB4 ⊢
          generalize w3.heap.size = g
          clear hba hb3 HT3 hd2 HB2
          go_upto_region 6 with (first | (go_at_call 13; refine (HA1.out _ _ HT4.out.at_).mono ?_; rintro e w5 ⟨rfl, hb5⟩; have hb6 := hb5.alloc hb5.size (.cells #[.int .i64 nn, .int .i64 2, .int .i64 sz] 32); have HB6 := Lib.hid (HB4.out.trans (hb6.mono HB4.out.size)); have HT6 := Lib.hid (HT4.out.below hb6); have HX6 := Lib.hid (heap_alloc_new w5 (.cells #[.int .i64 nn, .int .i64 2, .int .i64 sz] 32)); clear hb5 hb6) | (go_at_call 26; refine (HSP.out _ _ HT6.out.at_).mono ?_; rintro e w7 ⟨rfl, hb7⟩; have HB7 := Lib.hid (HB6.out.trans (hb7.mono HB6.out.size)); have HT7 := Lib.hid (HT6.out.below hb7); have h7 := (hb7.block _ (blk_lt HX6.out)).trans HX6.out; have HX7 := Lib.hid h7; clear hb7 h7))
          obtain ⟨y0, y1, y2⟩ := st9_cell HX7.out (Below.refl _ _)
          have hgw := blk_lt HX7.out
          generalize w5.heap.size = gs at HX7 hgw y0 y1 y2 ⊢
          
          go_upto_region 8 with (go_at_call 38; refine (HREN.out _ _ _ HT7.out).mono ?_; rintro e w8 ⟨rfl, hT8, hF8⟩; have HB8 := Lib.hid (HB7.out.trans (hF8.below HB7.out.size HPB.out.1 HPB.out.2)); have HT8 := Lib.hid hT8; have hx8 := cells_frm HX7.out (by decide) HT7.out hF8; have HX8 := Lib.hid hx8; clear hT8 hF8 hx8)
          clear y0 y1 y2
          go_upto_region 9 with (first | (go_at_call 40; refine (HLS.out _ _ HT8.out.at_).mono ?_; rintro e w9 ⟨v, rfl, hv, hb9⟩; obtain ⟨A9, c9, rfl, hl9, hC9⟩ := Kd.R_reads hv; have HB9 := Lib.hid (HB8.out.trans (hb9.mono HB8.out.size)); have HT9 := Lib.hid (HT8.out.below hb9); have HC9 := Lib.hid hC9; have HX9 := Lib.hid ((hb9.block _ (blk_lt HX8.out)).trans HX8.out); clear hv hb9 hC9) | (go_at_call 39; refine (HEF.out _ _ _ HC9.out hl9).mono ?_; rintro e w10 ⟨rfl, hb10⟩; have HB10 := Lib.hid (HB9.out.trans (hb10.mono HB9.out.size)); have HT10 := Lib.hid (HT9.out.below hb10); have HX10 := Lib.hid ((hb10.block _ (blk_lt HX9.out)).trans HX9.out); clear hb10))
          obtain ⟨y0, y1, y2⟩ := st9_cell HX10.out (Below.refl _ _)
          go_wp2_with (first | (go_at_call 41; refine (HKD.out _ _ HT10.out.at_).mono ?_; rintro e w11 ⟨rfl, hb11⟩; have HB11 := Lib.hid (HB10.out.trans (hb11.mono HB10.out.size)); clear hb11) | (go_at_call 11; refine (HLV.out _).mono ?_; rintro e w12 ⟨rfl, hb12⟩))
          go_ret
          exact ⟨rfl, HB11.out.trans (hb12.mono HB11.out.size)⟩
        · have b3 : (oE != 0) = true := bne_iff_ne.2 hoe
          clear HLAW HIN HLS HEF HKD hoe
          go_enter Try.func8, Try.ntmps8
          go_upto_region 4 with (first | (go_at_call 10; refine (HF.out _ HC.out).mono ?_; rintro e w2 ⟨rfl, hd2⟩; have HB2 := Lib.hid hd2.below) | (go_at_call 12; refine (HM.out _ (Kd.C_below HC.out HB2.out)).mono ?_; rintro e w3 ⟨p, B, v, rfl, hT3, ⟨A3, c3, rfl, hc3, hC3⟩, hb3, hp, hB⟩; have HT3 := Lib.hid hT3; have HPB := Lib.hid (And.intro (Nat.le_trans HB2.out.size hp) (Nat.le_trans HB2.out.size hB)); clear hT3 hC3 hp hB))
          have hba := (Below.refl _ w3).alloc (Nat.le_refl _) (.cells #[.slice A3 L.length c3, .int .i64 la] 28)
          have HT4 := Lib.hid (HT3.out.below hba)
          have HB4 := Lib.hid (HB2.out.trans ((hb3.mono HB2.out.size).trans (hba.mono (Nat.le_trans HB2.out.size hb3.size))))
          generalize w3.alloc (.cells #[.slice A3 L.length c3, .int .i64 la] 28) = w4 at HT4 HB4 ⊢
          generalize w3.heap.size = g
          clear hba hb3 HT3 hd2 HB2
          go_upto_region 6 with (first | (go_at_call 13; refine (HA1.out _ _ HT4.out.at_).mono ?_; rintro e w5 ⟨rfl, hb5⟩; have hb6 := hb5.alloc hb5.size (.cells #[.int .i64 nL, .int .i64 2, .int .i64 sz] 32); have HB6 := Lib.hid (HB4.out.trans (hb6.mono HB4.out.size)); have HT6 := Lib.hid (HT4.out.below hb6); have HX6 := Lib.hid (heap_alloc_new w5 (.cells #[.int .i64 nL, .int .i64 2, .int .i64 sz] 32)); clear hb5 hb6) | (go_at_call 26; refine (HSP.out _ _ HT6.out.at_).mono ?_; rintro e w7 ⟨rfl, hb7⟩; have HB7 := Lib.hid (HB6.out.trans (hb7.mono HB6.out.size)); have HT7 := Lib.hid (HT6.out.below hb7); have h7 := (hb7.block _ (blk_lt HX6.out)).trans HX6.out; have HX7 := Lib.hid h7; clear hb7 h7))
          obtain ⟨y0, y1, y2⟩ := st9_cell HX7.out (Below.refl _ _)
          have hgw := blk_lt HX7.out
          generalize w5.heap.size = gs at HX7 hgw y0 y1 y2 ⊢
          
          go_wp2_with (first | (go_at_call 38; refine (HREN.out _ _ _ HT7.out).mono ?_; rintro e w8 ⟨rfl, hT8, hF8⟩; have HB8 := Lib.hid (HB7.out.trans (hF8.below HB7.out.size HPB.out.1 HPB.out.2))) | (go_at_call 11; refine (HLV.out _).mono ?_; rintro e w9 ⟨rfl, hb9⟩))
          go_ret
          exact ⟨rfl, HB8.out.trans (hb9.mono HB8.out.size)⟩
      · have b2 : (kd != 2) = true := bne_iff_ne.2 hk
        clear HLAW HIN HLS HEF HKD hk
        go_enter Try.func8, Try.ntmps8
        go_upto_region 4 with (first | (go_at_call 10; refine (HF.out _ HC.out).mono ?_; rintro e w2 ⟨rfl, hd2⟩; have HB2 := Lib.hid hd2.below) | (go_at_call 12; refine (HM.out _ (Kd.C_below HC.out HB2.out)).mono ?_; rintro e w3 ⟨p, B, v, rfl, hT3, ⟨A3, c3, rfl, hc3, hC3⟩, hb3, hp, hB⟩; have HT3 := Lib.hid hT3; have HPB := Lib.hid (And.intro (Nat.le_trans HB2.out.size hp) (Nat.le_trans HB2.out.size hB)); clear hT3 hC3 hp hB))
        have hba := (Below.refl _ w3).alloc (Nat.le_refl _) (.cells #[.slice A3 L.length c3, .int .i64 la] 28)
        have HT4 := Lib.hid (HT3.out.below hba)
        have HB4 := Lib.hid (HB2.out.trans ((hb3.mono HB2.out.size).trans (hba.mono (Nat.le_trans HB2.out.size hb3.size))))
        generalize w3.alloc (.cells #[.slice A3 L.length c3, .int .i64 la] 28) = w4 at HT4 HB4 ⊢
        generalize w3.heap.size = g
        clear hba hb3 HT3 hd2 HB2
        go_upto_region 6 with (first | (go_at_call 13; refine (HA1.out _ _ HT4.out.at_).mono ?_; rintro e w5 ⟨rfl, hb5⟩; have hb6 := hb5.alloc hb5.size (.cells #[.int .i64 nL, .int .i64 kd, .int .i64 sz] 32); have HB6 := Lib.hid (HB4.out.trans (hb6.mono HB4.out.size)); have HT6 := Lib.hid (HT4.out.below hb6); have HX6 := Lib.hid (heap_alloc_new w5 (.cells #[.int .i64 nL, .int .i64 kd, .int .i64 sz] 32)); clear hb5 hb6) | (go_at_call 26; refine (HSP.out _ _ HT6.out.at_).mono ?_; rintro e w7 ⟨rfl, hb7⟩; have HB7 := Lib.hid (HB6.out.trans (hb7.mono HB6.out.size)); have HT7 := Lib.hid (HT6.out.below hb7); have h7 := (hb7.block _ (blk_lt HX6.out)).trans HX6.out; have HX7 := Lib.hid h7; clear hb7 h7))
        obtain ⟨y0, y1, y2⟩ := st9_cell HX7.out (Below.refl _ _)
        have hgw := blk_lt HX7.out
        generalize w5.heap.size = gs at HX7 hgw y0 y1 y2 ⊢
        
        go_wp2_with (go_at_call 11; refine (HLV.out _).mono ?_; rintro e w9 ⟨rfl, hb9⟩)
        go_ret
        exact ⟨rfl, HB7.out.trans (hb9.mono HB7.out.size)⟩
    · have b1 : (eL != 0) = true := bne_iff_ne.2 he
      clear HLAW HIN HLS HEF HKD HST he
      go_enter Try.func8, Try.ntmps8
      go_upto_region 4 with (first | (go_at_call 10; refine (HF.out _ HC.out).mono ?_; rintro e w2 ⟨rfl, hd2⟩; have HB2 := Lib.hid hd2.below) | (go_at_call 12; refine (HM.out _ (Kd.C_below HC.out HB2.out)).mono ?_; rintro e w3 ⟨p, B, v, rfl, hT3, ⟨A3, c3, rfl, hc3, hC3⟩, hb3, hp, hB⟩; have HT3 := Lib.hid hT3; have HPB := Lib.hid (And.intro (Nat.le_trans HB2.out.size hp) (Nat.le_trans HB2.out.size hB)); clear hT3 hC3 hp hB))
      have hba := (Below.refl _ w3).alloc (Nat.le_refl _) (.cells #[.slice A3 L.length c3, .int .i64 la] 28)
      have HT4 := Lib.hid (HT3.out.below hba)
      have HB4 := Lib.hid (HB2.out.trans ((hb3.mono HB2.out.size).trans (hba.mono (Nat.le_trans HB2.out.size hb3.size))))
      generalize w3.alloc (.cells #[.slice A3 L.length c3, .int .i64 la] 28) = w4 at HT4 HB4 ⊢
      generalize w3.heap.size = g
      clear hba hb3 HT3 hd2 HB2
      go_upto_region 6 with (first | (go_at_call 13; refine (HA1.out _ _ HT4.out.at_).mono ?_; rintro e w5 ⟨rfl, hb5⟩; have hb6 := hb5.alloc hb5.size (.cells #[.int .i64 a0, .int .i64 a1, .int .i64 a2] 32); have HB6 := Lib.hid (HB4.out.trans (hb6.mono HB4.out.size)); have HT6 := Lib.hid (HT4.out.below hb6); have HX6 := Lib.hid (heap_alloc_new w5 (.cells #[.int .i64 a0, .int .i64 a1, .int .i64 a2] 32)); clear hb5 hb6) | (go_at_call 26; refine (HSP.out _ _ HT6.out.at_).mono ?_; rintro e w7 ⟨rfl, hb7⟩; have HB7 := Lib.hid (HB6.out.trans (hb7.mono HB6.out.size)); have HT7 := Lib.hid (HT6.out.below hb7); have h7 := (hb7.block _ (blk_lt HX6.out)).trans HX6.out; have HX7 := Lib.hid h7; clear hb7 h7))
      obtain ⟨y0, y1, y2⟩ := st9_cell HX7.out (Below.refl _ _)
      have hgw := blk_lt HX7.out
      generalize w5.heap.size = gs at HX7 hgw y0 y1 y2 ⊢
      
      go_wp2_with (go_at_call 11; refine (HLV.out _).mono ?_; rintro e w9 ⟨rfl, hb9⟩)
      go_ret
      exact ⟨rfl, HB7.out.trans (hb9.mono HB7.out.size)⟩
end Go.Proofs.Ytjfigngmpagloaa.Tw
