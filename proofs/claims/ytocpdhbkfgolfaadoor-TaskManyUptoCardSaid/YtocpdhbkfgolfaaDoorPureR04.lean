/- The reference of layer 4, as plain functions on bytes. -/
import Derived.Test.YtocpdhbkfgolfaaDoorPure0
import Derived.Test.YtocpdhbkfgolfaaDoorX3
import Derived.Test.YtocpdhbkfgolfaaDoorX3
namespace Go.Proofs.YtocpdhbkfgolfaaDoor.Pu
open Go Go.RowKit Go.Proofs Go.Proofs.YtocpdhbkfgolfaaDoor Go.Proofs.YtocpdhbkfgolfaaDoorW.PrintWords Go.Proofs.YtocpdhbkfgolfaaDoor.Ext Go.Proofs.YtocpdhbkfgolfaaDoor.X
set_option linter.unusedVariables false
set_option linter.unusedSimpArgs false

theorem r04_parts_l0 (s : ByteArray) (hs : s.size < 4294967296) : ∀ (d i : Nat) (out : List (List UInt8)) (now : List UInt8), i + d = s.size → out.length ≤ i → now.length ≤ i →
    Ev (fun k => linhayref04_Parts.l0 k s (bs out) (Sp.mk now) (i : Int)) (bs (out ++ Sp.go now (s.data.toList.drop i))) := by
  have fin : ∀ out now, Ev (fun k => linhayref04_Parts.l0 k s out now ((s.size + 1 : Nat) : Int)) out := fun out now => by
    refine Ev.step (fun k => by rw [linhayref04_Parts.l0]) ?_
    exact ev_neg (by omega) (Ev.now _)
  have last : ∀ (i : Nat) (out : List (List UInt8)) (now : List UInt8) (R : List ByteArray), i ≤ s.size → out.length ≤ i →
      Ev (fun k => linhayref04_Parts.l0 k s (bs (out ++ Sp.keep now [])) (Sp.mk []) ((i + 1 : Nat) : Int)) R →
      Ev (fun k => linhayref04_Parts.j1 k s (bs out) (Sp.mk now) (i : Int) false) R := fun i out now R hi ho hn => by
    refine Ev.step (fun k => by rw [linhayref04_Parts.j1]) ?_
    refine ev_neg (by simp) ?_
    rw [toList_mk]
    by_cases h1 : now = []
    · refine ev_pos h1 ?_
      rw [w1 (by omega)]
      simpa [Sp.keep, h1, Sp.mk] using hn
    · refine ev_neg h1 ?_
      by_cases h2 : now = [46]
      · refine ev_pos h2 ?_
        rw [w1 (by omega)]
        simpa [Sp.keep, h2, Sp.mk] using hn
      · refine ev_neg h2 (ev_pos (by rw [bs_len]; omega) ?_)
        rw [w1 (by omega)]
        simpa [Sp.keep, h1, h2, bs, Sp.mk] using hn
  intro d
  induction d with
  | zero =>
    intro i out now hi ho hn
    obtain rfl : i = s.size := by omega
    refine Ev.step (fun k => by rw [linhayref04_Parts.l0]) ?_
    refine ev_pos (by omega) (ev_neg (by omega) ?_)
    have e : s.data.toList.drop s.size = [] := by rw [Sp.size_eq]; simp
    rw [e, Sp.go]
    exact last s.size out now _ (by omega) ho (fin _ _)
  | succ d ih =>
    intro i out now hi ho hn
    have hlt : i < s.size := by omega
    obtain ⟨c, hc, hd⟩ := get_at s hlt
    refine Ev.step (fun k => by rw [linhayref04_Parts.l0]) ?_
    refine ev_pos (by omega) (ev_pos (by omega) (ev_pos (by omega) ?_))
    rw [bt_nat hc, hd, Sp.go]
    by_cases h47 : c = 47
    · rw [if_pos h47]
      have e : ((c.toNat : Int) != 47) = false := by subst h47; rfl
      rw [e, Sp.keep_app, ← List.append_assoc]
      refine last i out now _ (by omega) ho ?_
      refine ih (i + 1) (out ++ Sp.keep now []) [] (by omega) ?_ (by simp)
      have := Sp.keep_one now
      rw [List.length_append]
      omega
    · rw [if_neg h47]
      have e : ((c.toNat : Int) != 47) = true := u8_ne.2 h47
      rw [e]
      refine Ev.step (fun k => by rw [linhayref04_Parts.j1]) ?_
      refine ev_pos rfl (ev_pos (by omega) ?_)
      rw [w1 (by omega)]
      refine ev_pos (by omega) (ev_pos (by omega) ?_)
      rw [Int.toNat_natCast, Int.toNat_natCast, ex1 hc]
      refine ev_pos (by rw [Sp.mk_size, Sp.mk_size]; simp; omega) ?_
      rw [app_mk]
      exact ih (i + 1) out (now ++ [c]) (by omega) (by omega) (by simp; omega)
theorem r04_parts (s : ByteArray) (hs : s.size < 4294967296) : Ev (fun k => linhayref04_Parts.f k s) (bs (Sp.parts s.data.toList)) := by
  have h := r04_parts_l0 s hs s.size 0 [] [] (by omega) (by simp) (by simp)
  simpa [bs, Sp.mk, Sp.parts, linhayref04_Parts.f] using h

theorem r04_text_l0 (l : List (List UInt8)) (hl : Sp.room l < 4294967296) : ∀ (d i : Nat), i + d = l.length →
    Ev (fun k => linhayref04_text.l0 k (bs l) (Sp.mk (Lib.joinTail [47] (l.take i))) (i : Int)) (Sp.mk (Sp.text l)) := by
  have hlen := Sp.len_room l
  intro d
  induction d with
  | zero =>
    intro i hi
    obtain rfl : i = l.length := by omega
    refine Ev.step (fun k => by rw [linhayref04_text.l0]) ?_
    refine ev_neg (by rw [bs_len]; omega) ?_
    rw [toList_mk, List.take_length]
    cases l with
    | nil => exact ev_pos (by simp [Lib.joinTail]) (Ev.now _)
    | cons x l =>
      refine ev_neg (by simp [Lib.joinTail]) ?_
      rw [Sp.text, Lib.join_cons]
      exact Ev.now _
  | succ d ih =>
    intro i hi
    have hlt : i < l.length := by omega
    have hg : (bs l)[i]? = some (Sp.mk l[i]) := by rw [bs_get, List.getElem?_eq_getElem hlt]; rfl
    refine Ev.step (fun k => by rw [linhayref04_text.l0]) ?_
    refine ev_pos (by rw [bs_len]; omega) (ev_pos (by omega) ?_)
    rw [rd_nat hg]
    have hm := Sp.mem_room (List.getElem_mem hlt)
    have ht : (Lib.joinTail [47] (l.take i)).length ≤ Sp.room l := by
      rw [Sp.tail_room]
      have := Sp.room_append (l.take i) (l.drop i)
      rw [List.take_append_drop] at this
      omega
    refine ev_pos (by rw [Sp.mk_size]; omega) ?_
    have e1 : (⟨#[47]⟩ : ByteArray) ++ Sp.mk l[i] = Sp.mk (47 :: l[i]) := (Sp.mk_cons _ _).symm
    rw [e1]
    refine ev_pos (by rw [Sp.mk_size, Sp.mk_size, List.length_cons]; omega) ?_
    rw [w1 (by omega), app_mk]
    have e2 : Lib.joinTail [47] (l.take i) ++ 47 :: l[i] = Lib.joinTail [47] (l.take (i + 1)) := by
      rw [List.take_succ_eq_append_getElem hlt, Lib.joinTail, Lib.joinTail, List.map_append, List.flatten_append, List.map_cons, List.map_nil, List.flatten_cons, List.flatten_nil, List.append_nil]
      rfl
    rw [e2]
    exact ih (i + 1) (by omega)
theorem r04_text (l : List (List UInt8)) (hl : Sp.room l < 4294967296) : Ev (fun k => linhayref04_text.f k (bs l)) (Sp.mk (Sp.text l)) := by
  have h := r04_text_l0 l hl l.length 0 (by omega)
  simpa [Sp.mk, Lib.joinTail, linhayref04_text.f] using h

end Go.Proofs.YtocpdhbkfgolfaaDoor.Pu
