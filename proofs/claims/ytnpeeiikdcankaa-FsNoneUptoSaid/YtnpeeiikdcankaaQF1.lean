/- Texts of this session, merged: Del, Enter, X1, Put, Tput, TputOk, Tcut, Seek, Walk, Move, Tmove, TmoveOk, PureR04, PureIs, Ref7, Rel, Rput, RputOk, RelPut, Frm, MadeF, Good, RelOps, RelCut. -/
import Derived.Test.YtnpeeiikdcankaaQF0
import Derived.Deep.RegionLaw
import Derived.Maps.Views
import Derived.Deep.RegionHeld3
import Derived.Deep.AppendLies
import Derived.StillTailTactics
import Derived.Deep.LoopGhost
import Derived.Deep.QuietTactic
import Derived.BigQuiet
import Derived.LoopN
set_option linter.unusedVariables false
set_option linter.unusedSimpArgs false

set_option maxHeartbeats 8000000
set_option maxRecDepth 1000000
namespace Go.Proofs.Ytnpeeiikdcankaa.Tw
open Go Go.RowKit Go.Shelf Go.Proofs Go.Proofs.Ytnpeeiikdcankaa Go.Proofs.YtnpeeiikdcankaaW.PrintWords Go.Proofs.Ytnpeeiikdcankaa.Ext Go.Proofs.Ytnpeeiikdcankaa.X Go.Proofs.Ytnpeeiikdcankaa.Pu
theorem step_append_runI {P : Program} {ops : Array Oper} {o : Oper} {a : Act} {w : World} {K : Act → World → Prop} {Q : Exit → Act → World → Prop} {E : Prop}
  (hg : o.guard = none) (d x : Operand) (dT sT : TypeId) (hop : o.op = Op.call { callee := Callee.builtin Builtin.append, args := #[d, x], argTypes := #[dT, sT] })
  (v u : Value) (hd : a.eval d = v) (hx : a.eval x = u) {v' : Value} {w' : World} (hr : (Builtin.append_ #[dT, sT] o.type #[v, u]).run P w = .ok v' w') (hK : K (a.put o.dst v') w') :
  if Region.wanted o (yielded ops a.tmps) = true then Oper.wp P o a w K Q else E := by
 have hw : Region.wanted o (yielded ops a.tmps) = true := by simp [Region.wanted, hg]
 rw [if_pos hw]
 unfold Oper.wp
 simp [execOp, hop, resolve, invoke, builtin, hd, hx, hr, Result.andThen]
 exact hK
theorem zeroEn (w : World) : (zeroValue 91).run Try.prog w = .ok (.agg #[.string ⟨#[]⟩, .int .i64 0]) w := by kernel_rfl
theorem clear_E (W : World) (g o c : Nat) (cur : Array Value) (hg : W.heap[g]? = some (.cells cur 91 (0, 0))) (hfit : o + 2 ≤ cur.size) :
  ∃ W1, (∀ ty, (Builtin.clear_ #[68] ty #[.slice (some ⟨g, o, none⟩) 1 c]).run Try.prog W = .ok (.tuple #[]) W1) ∧
   W1.heap[g]? = some (.cells (cur.toList.take o ++ [Value.string ⟨#[]⟩, Value.int .i64 0] ++ cur.toList.drop (o + 2)).toArray 91 (0, 0)) ∧ W.grownBy W1 (some g) := by
 have hst := run_storeCells_at Try.prog g o 91 [.string ⟨#[]⟩, .int .i64 0] 0 cur W hg (by simpa using hfit) (by intro v hv; simp at hv; rcases hv with rfl | rfl <;> rfl)
 simp only [Nat.add_zero, List.length_cons, List.length_nil, Nat.zero_add] at hst
 have hz : (Builtin.zeroCells (Value.agg #[.string ⟨#[]⟩, .int .i64 0]).cells 1).toList = [Value.string ⟨#[]⟩, Value.int .i64 0] := by kernel_rfl
 refine ⟨_, fun ty => ?_, setRow_heap W g cur _ _ _ hg, ⟨rfl, rfl, rfl, by simp, fun k _ hk => setRow_other W g k _ (fun e => hk (by rw [e]))⟩⟩
 simp [Builtin.clear_, run_underlying Try.underlying68, zeroEn, hz, hst]
theorem delete_calls (v : Value) (l : List En) (i j : Nat) (w : World) (base : Nat) (hi : i < l.length) (hj : j = i + 1) (hR : OwnE w base v l) (hs : l.length < 4294967296) :
  Calls Try.prog 69 #[v, .int .i64 i, .int .i64 j] w fun e w' => ∃ v', e = .returned v' ∧ OwnE w' base v' (l.take i ++ l.drop (i + 1)) ∧ Below base w w' := by
 rcases hR with ⟨rfl, rfl⟩ | ⟨g, cap, cur, rfl, hb, hh, hnc, hcm, hcs, htake⟩
 · simp at hi
 obtain ⟨i0, hi0, hz0, hzs, hzb⟩ := info_parts infoE
 have hld : (rowE (l.drop j)).length = (l.length - j) * i0.size := by rw [rowE_len, List.length_drop, hzs]
 have hhd : w.drew.heap[g]? = some (.cells cur 91 (0, 0)) := hh
 obtain ⟨ad, hA, hsrc⟩ : ∃ ad : Addr, (if cap = j then some (⟨g, 0, none⟩ : Addr) else some ⟨g, j * 2, none⟩) = some ad ∧ ∀ t u, (rowE (l.drop j))[t]? = some u → w.drew.cell? (ad.add t) = some u := by
  by_cases h : cap = j
  ·
   refine ⟨⟨g, 0, none⟩, by simp [h], fun t u hu => ?_⟩
   rw [List.drop_eq_nil_of_le (by omega)] at hu
   simp [rowE] at hu
  ·
   refine ⟨⟨g, j * 2, none⟩, by simp [h], cells_E hhd ?_⟩
   rw [List.length_drop, ← rowE_drop, ← htake, List.drop_take]
   congr 1
   omega
 have hap := fun ty => run_append_room (P := Try.prog) w.drew 68 ty 91 i0 Try.underlying68 hi0 g i cap cur hhd ad (l.length - j) (cap - j) (rowE (l.drop j)) hld hsrc (rowE_one _) (by omega) (by rw [hzs, rowE_len, List.length_drop]; omega)
 rw [hzs] at hap
 obtain ⟨cur1, hcur1⟩ : ∃ c, c = (cur.toList.take (i * 2) ++ rowE (l.drop j) ++ cur.toList.drop (i * 2 + (rowE (l.drop j)).length)).toArray := ⟨_, rfl⟩
 rw [← hcur1] at hap
 obtain ⟨W1, hW1⟩ : ∃ W1, W1 = w.drew.setRow g cur1 := ⟨_, rfl⟩
 rw [← hW1] at hap
 have hg1 : W1.heap[g]? = some (.cells cur1 91 (0, 0)) := by rw [hW1]; exact setRow_heap w.drew g cur _ _ _ hhd
 have hk1 : w.grownBy W1 (some g) := by rw [hW1]; exact ⟨rfl, rfl, rfl, by simp, fun k _ hk => setRow_other w.drew g k _ (fun e => hk (by rw [e]))⟩
 have hs1 : cur1.size = cap * 2 := by
  rw [hcur1]
  simp only [List.size_toArray, List.length_append, List.length_take, List.length_drop, Array.length_toList, rowE_len, hcs]
  omega
 have hone : l.length - (i + (l.length - j)) = 1 := by omega
 obtain ⟨W2, hcl, hg2, hk2⟩ := clear_E W1 g ((i + (l.length - j)) * 2) (cap - (i + (l.length - j))) cur1 hg1 (by omega)
 obtain ⟨cur2, hcur2⟩ : ∃ c, c = (cur1.toList.take ((i + (l.length - j)) * 2) ++ [Value.string ⟨#[]⟩, Value.int .i64 0] ++ cur1.toList.drop ((i + (l.length - j)) * 2 + 2)).toArray := ⟨_, rfl⟩
 rw [← hcur2] at hg2
 have FIN : cur2.size = cap * 2 ∧ cur2.toList.take ((i + (l.length - j)) * 2) = rowE (l.take i ++ l.drop j) := by
  refine ⟨?_, ?_⟩
  ·
   rw [hcur2]
   simp only [List.size_toArray, List.length_append, List.length_take, List.length_drop, Array.length_toList, hs1, List.length_cons, List.length_nil]
   omega
  ·
   rw [hcur2]
   show (cur1.toList.take ((i + (l.length - j)) * 2) ++ [Value.string ⟨#[]⟩, Value.int .i64 0] ++ cur1.toList.drop ((i + (l.length - j)) * 2 + 2)).take _ = _
   rw [List.append_assoc, List.take_append_of_le_length (by simp only [List.length_take, Array.length_toList]; omega), List.take_take, Nat.min_self, hcur1]
   show (cur.toList.take (i * 2) ++ rowE (l.drop j) ++ cur.toList.drop (i * 2 + (rowE (l.drop j)).length)).take _ = _
   rw [rowE_append, ← rowE_take, ← htake, List.take_take, Nat.min_eq_left (by omega)]
   exact List.take_left' (by simp only [List.length_append, rowE_len, List.length_take, List.length_drop, Array.length_toList]; omega)
 have HF := qh (And.intro FIN (And.intro hg2 (hk1.trans hk2)))
 have HAP := qh hap
 have HGG := qh (blk_lt hh)
 have hz1 : ¬ (i = j) := by omega
 have hz2 : ((i : Int) == (j : Int)) = false := beq_eq_false_iff_ne.2 (by omega)
 have hb1 : i ≤ j := by omega
 have hb2 : j ≤ l.length := by omega
 have hb3 : i ≤ cap := by omega
 have hb4 : j ≤ cap := by omega
 have hb5 : i + (l.length - j) ≤ l.length := by omega
 have hb6 : ¬ (cap = i + (l.length - j)) := by omega
 have hb7 : i + (l.length - j) ≤ cap := by omega
 have HJ := qh hj
 have HONE := qh hone
 rw [← hone] at hcl
 have HCL := qh hcl
 clear FIN hcur2 hcur1 hg1 hs1 hk1 hk2 hg2 hap hhd hh hcs htake hs hld hsrc hi0 hz0 hzs hzb hW1 hj hone hi hcl
 have HB := qh hb
 have HG := HGG
 have HCM := qh hcm
 have HNC := qh (And.intro hnc (show (l.take i ++ l.drop j).length = i + (l.length - j) by simp only [List.length_append, List.length_take, List.length_drop]; omega))
 rw [← HJ.out]
 generalize hn : l.length = n at *
 have HN := qh hn
 clear hn hb hcm
 go_enter Try.func69, Try.ntmps69
 go_wp2
 go_region_law (refine step_append_runI rfl _ _ 68 68 rfl _ _ (by simp [Act.eval, Act.put]) (by simp [Act.eval, Act.put]) (HAP.out _) ?_)
 have hcl := HCL.out
 go_wp2
 go_ret
 obtain ⟨⟨f1, f2⟩, f3, f4⟩ := HF.out
 exact ⟨_, rfl, .inr ⟨g, cap, cur2, by rw [HNC.out.2]; rfl, HB.out, f3, by rw [HNC.out.2]; exact hb7, HCM.out, f1, by rw [HNC.out.2]; exact f2⟩, f4.os, f4.tape, f4.output, f4.size, fun k hk => f4.block k (Nat.lt_trans (Nat.lt_of_lt_of_le hk HB.out) HGG.out) (fun e => by have := HB.out; injection e with e; omega)⟩
def cutEn (l : List En) (s : ByteArray) : List En := l.filter (fun e => !(e.f0.toList == s.toList))
theorem cutEn_cut {l : List En} {s : ByteArray} {lo : Nat} (h : Cut l s lo) (hR : Rt l) (ha : isAt l s lo = true) : cutEn l s = l.take lo ++ l.drop (lo + 1) := by
 have hlt : lo < l.length := by unfold isAt at ha; rw [Bool.and_eq_true] at ha; exact of_decide_eq_true ha.1
 have hat : (l[lo].f0.toList == s.toList) = true := by
  unfold isAt at ha; rw [Bool.and_eq_true] at ha
  have := ha.2
  simpa [hlt] using this
 have h1 : (l.take lo).filter (fun e => !(e.f0.toList == s.toList)) = l.take lo := by
  rw [List.filter_eq_self]
  intro e he
  obtain ⟨i, hi, rfl⟩ := List.mem_iff_getElem.1 he
  have hi' : i < lo := by simp at hi; omega
  have := h.lt i hi'
  have hi2 : i < l.length := by omega
  rw [List.getElem_take]
  have e1 : (l.getD i z91) = l[i] := by simp [hi2]
  rw [e1] at this
  rw [bl_ne this]; rfl
 have h2 : (l.drop (lo + 1)).filter (fun e => !(e.f0.toList == s.toList)) = l.drop (lo + 1) := by
  rw [List.filter_eq_self]
  intro e he
  obtain ⟨i, hi, rfl⟩ := List.mem_iff_getElem.1 he
  rw [List.getElem_drop]
  have hb := List.pairwise_iff_getElem.1 hR lo (lo + 1 + i) hlt (by simp at hi; omega) (by omega)
  have e1 : l[lo].f0 = s := toL_inj.1 (by simpa using hat)
  rw [e1] at hb
  have := bl_ne hb
  have h3 : ((l[lo + 1 + i]'(by simp at hi; omega)).f0.toList == s.toList) = false := by
   rw [beq_eq_false_iff_ne] at this ⊢
   exact fun e => this e.symm
  rw [h3]; rfl
 have hsp : l = l.take lo ++ l[lo] :: l.drop (lo + 1) := by rw [← List.drop_eq_getElem_cons hlt, List.take_append_drop]
 unfold cutEn
 conv => lhs; rw [hsp]
 rw [List.filter_append, List.filter_cons, hat, h1, h2]
 rfl
theorem entsCut_calls (A : Option Addr) (c : Nat) (l : List En) (s : ByteArray) (w : World) (hr : Kd.C k91 w A l.length l) (hc : l.length ≤ c) (hl : l.length < 4294967296) (hR : Rt l) (hn : (findE l s).2 = true) :
  Calls Try.prog 54 #[.slice A l.length c, .string s] w fun e w' => ∃ v', e = .returned v' ∧ OwnE w' w.heap.size v' (cutEn l s) ∧ Below w.heap.size w w' := by
 obtain ⟨lo, hcut, hf⟩ := exists_cut s l hR
 have hat : isAt l s lo = true := by
  cases h : isAt l s lo with
  | true => rfl
  | false => rw [hf, h] at hn; cases hn
 have hlt : lo < l.length := by unfold isAt at hat; rw [Bool.and_eq_true] at hat; exact of_decide_eq_true hat.1
 have HA := qh (fun W h => all_calls A c l W h hc hl hR)
 have HCL := qh (fun W h => clone_calls A c l W h hc hl)
 have HT := qh (fun A' c' W h hc' => at_ents_calls A' c' l s lo W h hc' hl hcut)
 rw [hat] at HT
 have HD := qh (fun v W base h => delete_calls v l lo (lo + 1) W base hlt rfl h hl)
 rw [← cutEn_cut hcut hR hat] at HD
 have HR := qh hr
 have hw : IntKind.i64.wrap ((lo : Int) + 1) = ((lo + 1 : Nat) : Int) := by rw [IntKind.wrap_i64]; omega
 have hw' : wrap64 ((lo : Int) + 1) = ((lo + 1 : Nat) : Int) := by rw [IntWalk.wrap64_in _ (by omega)]; omega
 clear hat hf hcut hR hr hl hc hn
 go_enter Try.func54, Try.ntmps54
 go_wp2_with (first | (go_at_call 59; refine (HA.out _ HR.out).mono ?_; rintro e w2 ⟨rfl, hb2⟩) | (go_at_call 61; refine (HCL.out _ (Kd.C_below HR.out hb2)).mono ?_; rintro e w3 ⟨v, rfl, ho, hb3⟩; obtain ⟨A3, c3, rfl, hle3, hC3⟩ := Kd.R_reads ho; have HO3 := qh ho; have HC3 := qh hC3; have HLE := qh hle3; clear ho hC3 hle3) | (go_at_call 60; refine (HT.out _ _ _ HC3.out HLE.out).mono ?_; rintro e w4 ⟨rfl, hb4⟩) | (go_at_call 69; refine (HD.out _ _ w2.heap.size (OwnE.ofR (Kd.R_below HO3.out hb4))).mono ?_; rintro e w5 ⟨v', rfl, ho5, hb5⟩))
 go_ret
 exact ⟨_, rfl, ho5.lower hb2.size, hb2.trans ((hb3.mono hb2.size).trans ((hb4.mono (Nat.le_trans hb2.size hb3.size)).trans (hb5.mono hb2.size)))⟩
structure Frm (w w' : World) (p B : Nat) : Prop where
 os : w'.os = w.os
 tape : w'.tape = w.tape
 output : w'.output = w.output
 size : w.heap.size ≤ w'.heap.size
 block : ∀ k, k < w.heap.size → k ≠ p → k ≠ B → w'.heap[k]? = w.heap[k]?
theorem Frm.refl (w : World) (p B : Nat) : Frm w w p B := ⟨rfl, rfl, rfl, Nat.le_refl _, fun _ _ _ _ => rfl⟩
theorem Frm.trans {w w1 w2 : World} {p B : Nat} (h : Frm w w1 p B) (k : Frm w1 w2 p B) : Frm w w2 p B :=
 ⟨k.os.trans h.os, k.tape.trans h.tape, k.output.trans h.output, Nat.le_trans h.size k.size, fun j hj h1 h2 => (k.block j (Nat.lt_of_lt_of_le hj h.size) h1 h2).trans (h.block j hj h1 h2)⟩
theorem Frm.ofBelow {w w' : World} {p B : Nat} (h : Below w.heap.size w w') : Frm w w' p B := ⟨h.os, h.tape, h.output, h.size, fun k hk _ _ => h.block k hk⟩
theorem Frm.below {w w' : World} {p B base : Nat} (h : Frm w w' p B) (hb : base ≤ w.heap.size) (hp : base ≤ p) (hB : base ≤ B) : Below base w w' :=
 ⟨h.os, h.tape, h.output, h.size, fun k hk => h.block k (by omega) (by omega) (by omega)⟩
def TreeB (w : World) (p B : Nat) (T : Tr) : Prop := ∃ sv D, TreeIs w p T B sv D
theorem TreeB.at_ {w : World} {p B : Nat} {T : Tr} (h : TreeB w p B T) : TreeAt w p T := ⟨B, h⟩
theorem TreeB.below {w w' : World} {p B : Nat} {T : Tr} (h : TreeB w p B T) (hb : Below w.heap.size w w') : TreeB w' p B T := by
 obtain ⟨sv, D, h⟩ := h
 exact ⟨sv, D, h.below hb⟩
theorem EntsAt.frm {w w' : World} {p B : Nat} {s : Value} {l : List En} {mb : Option Nat} {y : Int} {t : TypeId} {es : Array MapEntry} {clock : Nat} (h : EntsAt w s l) (hp : w.heap[p]? = some (.cells #[.map mb, .int .i64 y] t (0, 0))) (hB : w.heap[B]? = some (.map es clock)) (hf : Frm w w' p B) : EntsAt w' s l := by
 obtain ⟨A, c, e1, e2, hC⟩ := h
 refine ⟨A, c, e1, e2, hC.1, hC.2.1, fun hn => ?_⟩
 obtain ⟨ad, eA, hc⟩ := hC.2.2 hn
 have key : ∀ (x : En) (q : List Value) (j : Nat), k91.K w x q → (∀ i u, q[i]? = some u → w.cell? (ad.add (j * k91.sz + i)) = some u) → ad.block < w.heap.size ∧ ad.block ≠ p ∧ ad.block ≠ B := by
  intro x q j hK hq
  obtain rfl := k91_open hK
  have h0 := hq 0 _ rfl
  have hbl : (ad.add (j * k91.sz + 0)).block = ad.block := by unfold Addr.add; split <;> rfl
  generalize ad.add (j * k91.sz + 0) = a0 at h0 hbl
  refine ⟨?_, ?_, ?_⟩
  · rw [← hbl]; exact block_lt_of_cell h0
  ·
   intro e
   rw [e] at hbl
   obtain ⟨b, o, sp⟩ := a0
   subst hbl
   simp [World.cell?, hp] at h0
   cases sp with
   | none =>
    simp at h0
    match o, h0 with
    | 0, h0 => simp at h0
    | 1, h0 => simp at h0
    | n + 2, h0 => simp at h0
   | some q => simp at h0
  ·
   intro e
   rw [e] at hbl
   obtain ⟨b, o, sp⟩ := a0
   subst hbl
   simp [World.cell?, hB] at h0
 refine ⟨ad, eA, fun j q hj => ?_⟩
 obtain ⟨cs, hl, hK, hq⟩ := hc j q hj
 obtain ⟨k1, k2, k3⟩ := key q cs j hK hq
 refine ⟨cs, hl, ?_, fun i u hu => ?_⟩
 ·
  obtain rfl := k91_open hK
  exact k91_mk _ _
 ·
  have := hq i u hu
  have hbl : (ad.add (j * k91.sz + i)).block = ad.block := by unfold Addr.add; split <;> rfl
  rw [← this]
  generalize ad.add (j * k91.sz + i) = a at hbl
  unfold World.cell?
  rw [hbl, hf.block _ k1 k2 k3]
theorem TreeIs.mapB {w : World} {p : Nat} {T : Tr} {B : Nat} {sv : Int → Value} {D : DataW Value} (h : TreeIs w p T B sv D) : ∃ es clock, w.heap[B]? = some (.map es clock) := by
 obtain ⟨es, clock, hb, _⟩ := h.map
 exact ⟨es, clock, hb⟩
theorem TreeIs.ne {w : World} {p : Nat} {T : Tr} {B : Nat} {sv : Int → Value} {D : DataW Value} (h : TreeIs w p T B sv D) : p ≠ B := by
 obtain ⟨es, clock, hb⟩ := h.mapB
 rintro rfl
 rw [h.ptr] at hb
 cases hb
def Tr.set (T : Tr) (n : Int) (x : Nd) : Tr := ⟨fun m => if m = n then some x else T.get m, if (T.get n).isSome then T.cnt else T.cnt + 1, T.last⟩
def Tr.bump (T : Tr) : Tr := { T with last := T.last + 1 }
theorem ownsMap_fit {H : Type} {P : Program} {k : TypeId} {R : Value → Option (DataW H × List MemPlace)} {w : World} {b n : Nat} {D : DataW H} (h : w.ownsMap P k R b n D) : w.ownsMap P k R b (Maps.size D) D := by
 obtain ⟨es, clock, hb, F, hs, rfl⟩ := h
 exact ⟨es, clock, hb, F, by simp [Maps.size, length_sorted], rfl⟩
theorem TreeIs.store {w : World} {p : Nat} {T : Tr} {B : Nat} {sv : Int → Value} {D : DataW Value} (h : TreeIs w p T B sv D) (n : Int) (hn : wf n) (x : Nd) (s : Value) (hs : EntsAt w s x.ents) (hc : T.cnt < 1000000) :
  ∃ w', (Instr.mapUpdate 52 (.map (some B)) (.int .i64 n) (ndV x s)).run Try.prog w = .ok () w' ∧ TreeB w' p B (T.set n x) ∧ Frm w w' p B := by
 have hkey : keyOf Try.prog 3 (.int .i64 n) = some (.int .i64 n) := Maps.keyOf_int_mk Try.underlying3 hn
 have hkl : WideAt.IsKeyLit (.int .i64 n) := by simp [WideAt.IsKeyLit]
 obtain ⟨es, clock, hb⟩ := h.mapB
 obtain ⟨w', hrun, hown, hturn⟩ := h.map.store keyed Try.underlying52 (by rw [h.cnt]; unfold maxLen; omega) hkey (d := .held (ndV x s)) (ps := []) rfl
 have hg := hturn.grown
 have hf : Frm w w' p B := ⟨hg.os, hg.tape, hg.output, hg.size, fun k hk _ h2 => hg.block k hk (fun e => h2 (Option.some.inj e))⟩
 have hsz : Maps.size (D.put (.int .i64 n) (.held (ndV x s))) = (T.set n x).cnt := by
  rw [Maps.size_put (h.map.tidy keyed), h.has n hn, h.cnt]; rfl
 refine ⟨w', hrun, ⟨fun m => if m = n then s else sv m, _, ⟨(hg.block p (blk_lt h.ptr) (fun e => h.ne (Option.some.inj e))).trans h.ptr, ownsMap_fit hown, hsz, fun m hm => ?_, fun m z hm => ?_, fun m y hm hy => ?_⟩⟩, hf⟩
 ·
  by_cases e : m = n
  ·
   subst e
   rw [Maps.has_put_same h.map.isMap hkl]
   simp [Tr.set]
  ·
   rw [Maps.has_put_other (by intro e2; injection e2 with _ e2; exact e e2), h.has m hm]
   simp [Tr.set, e]
 ·
  by_cases e : m = n
  ·
   subst e
   rw [Maps.atKey_put_same h.map.isMap hkl]
   simp [Tr.set]
  ·
   rw [Maps.atKey_put_other (by intro e2; injection e2 with _ e2; exact e e2), h.at_ m z hm]
   simp [Tr.set, e]
 ·
  by_cases e : m = n
  ·
   subst e
   simp [Tr.set] at hy
   subst hy
   simp only [if_true]
   exact hs.frm h.ptr hb hf
  ·
   simp [Tr.set, e] at hy
   simp only [if_neg e]
   exact EntsAt.frm (h.ents m y hm hy) h.ptr hb hf
theorem TreeIs.bump {w : World} {p : Nat} {T : Tr} {B : Nat} {sv : Int → Value} {D : DataW Value} (h : TreeIs w p T B sv D) :
  TreeB (w.setCell ⟨p, 1, none⟩ (.int .i64 (T.last + 1))) p B T.bump ∧ Frm w (w.setCell ⟨p, 1, none⟩ (.int .i64 (T.last + 1))) p B := by
 obtain ⟨es, clock, hb⟩ := h.mapB
 have hk : ∀ k, k ≠ p → (w.setCell ⟨p, 1, none⟩ (.int .i64 (T.last + 1))).heap[k]? = w.heap[k]? := fun k hk => Below.heap_setCell w _ _ k hk
 have hf : Frm w (w.setCell ⟨p, 1, none⟩ (.int .i64 (T.last + 1))) p B := ⟨rfl, rfl, rfl, by simp, fun k _ h1 _ => hk k h1⟩
 refine ⟨⟨sv, D, ⟨?_, h.map.setCell h.ne.symm _, h.cnt, h.has, h.at_, fun m y hm hy => EntsAt.frm (h.ents m y hm hy) h.ptr hb hf⟩⟩, hf⟩
 rw [setCell_eq_setRow w p 1 _ _ _ _ h.ptr, setRow_heap w p _ _ _ _ h.ptr]
 rfl
end Go.Proofs.Ytnpeeiikdcankaa.Tw

namespace Go.Proofs.Ytnpeeiikdcankaa.X
open Go.RowKit Go.Proofs.YtnpeeiikdcankaaW.PrintWords Go.Proofs.YtnpeeiikdcankaaW.PrintLast Go.Proofs.YtnpeeiikdcankaaW.PrintMore Go.Proofs.Ytnpeeiikdcankaa.Ext
attribute [local go_sem] max2_int min2_int max_two min_two max_three min_three max_four min_four
mutual
def tree_may.j0 : Nat → Int → ByteArray → Bool → Option (Int)
 | 0, _, _, _ => none
 | k + 1, x0, x1, x5 => if x5 = true then (some 2) else (if x0 = 1 then (tree_may.j1 k x0 x1 (x1.toList != ([] : List UInt8))) else (tree_may.j1 k x0 x1 false))
def tree_may.j1 : Nat → Int → ByteArray → Bool → Option (Int)
 | 0, _, _, _ => none
 | k + 1, x0, x1, x12 => if x12 = true then (tree_may.j2 k x1 x12) else (if x0 = 3 then (tree_may.j2 k x1 (x1.toList == ([] : List UInt8))) else (tree_may.j2 k x1 false))
def tree_may.j2 : Nat → ByteArray → Bool → Option (Int)
 | 0, _, _ => none
 | k + 1, x1, x12 => if x12 = true then (some 3) else (if (x1.size : Int) > 65536 then (some 4) else (some 0))
end
def tree_may.f (k : Nat) (a0 : Int) (a1 : ByteArray) : Option (Int) := if a0 < 1 then (tree_may.j0 k a0 a1 true) else (tree_may.j0 k a0 a1 (decide (a0 > 3)))
theorem tree_may.calls (k : Nat) (a0 : Int) (a1 : ByteArray) (r : Int) (w : World) (h : tree_may.f k a0 a1 = some r) :
  Calls Try.prog 58 #[.int .i64 a0, .string a1] w fun e w' => e = .returned (.int .i64 r) ∧ Drawn0 w w' := by
 have hu91 := Try.underlying91
 have H : (if a0 < 1 then (tree_may.j0 k a0 a1 true) else (tree_may.j0 k a0 a1 (decide (a0 > 3)))) = some r := h
 clear h
 have HC3 := qa H
 clear H
 go_enter Try.func58, Try.ntmps58
 go_upto_region 1 with (fail)
 go_cut [5] (fun v5 wc => ∃ (kq : Nat) (x5_2 : Bool), v5 = .bool x5_2 ∧ Aside0 (tree_may.j0 kq a0 a1 x5_2 = some r) ∧ Aside0 (kq ≤ k) ∧ Drawn0 w wc)
 case first =>
  have H := HC3.out
  clear HC3
  by_cases c4 : a0 < 1
  ·
   rw [if_pos c4] at H
   have c4b0 : decide (a0 < 1) = true := decide_eq_true c4
   clear c4
   (first | rw [c4b0] | (simp only [i64_w, i32_w]; rw [c4b0]) | skip)
   have H' := qa H
   clear H
   go_wp2
   go_meet
   case rel => exact ⟨_, (true), (by first | rfl | (simp; done) | (simp [*]; done) | (simp [bne_nil]; done)), H', ⟨by first | omega | exact Nat.le_refl _⟩, by repeat (first | exact Drawn0.refl _ | apply Drawn0.step)⟩
  ·
   rw [if_neg c4] at H
   have c4b0 : decide (a0 < 1) = false := decide_eq_false c4
   clear c4
   (first | rw [c4b0] | (simp only [i64_w, i32_w]; rw [c4b0]) | skip)
   have H' := qa H
   clear H
   go_wp2
   go_meet
   case rel => exact ⟨_, (decide (a0 > 3)), (by first | rfl | (simp; done) | (simp [*]; done) | (simp [bne_nil]; done)), H', ⟨by first | omega | exact Nat.le_refl _⟩, by repeat (first | exact Drawn0.refl _ | apply Drawn0.step)⟩
 case rest =>
  clear HC3
  try clear p2
  try clear c4
  try clear c4b0
  obtain ⟨kq, x5_2, rfl, HA, HJ2, ⟨mc2, rfl⟩⟩ := hcut
  cases kq with
  | zero => exact absurd HA.out (by simp [tree_may.j0])
  | succ kj2 =>
   have H := HA.out
   clear HA
   simp only [tree_may.j0] at H
   by_cases c5 : x5_2 = true
   ·
    subst c5
    have H1 : (some 2) = some r := by rw [if_pos rfl] at H; exact H
    clear H
    have H := H1
    clear H1
    obtain rfl := Option.some.inj H
    go_wp2
    go_ret
    exact ⟨by first | rfl | (simp; done) | (simp [*]; done), by repeat (first | exact Drawn0.refl _ | apply Drawn0.step)⟩
   ·
    replace c5 := Bool.eq_false_iff.mpr c5
    subst c5
    have H1 : (if a0 = 1 then (tree_may.j1 kj2 a0 a1 (a1.toList != ([] : List UInt8))) else (tree_may.j1 kj2 a0 a1 false)) = some r := by rw [if_neg (show ¬ (false = true) by decide)] at H; exact H
    clear H
    have H := H1
    clear H1
    have HC6 := qa H
    clear H
    go_upto_region 3 with (fail)
    go_cut [12] (fun v12 wc => ∃ (kq : Nat) (x12_5 : Bool), v12 = .bool x12_5 ∧ Aside0 (tree_may.j1 kq a0 a1 x12_5 = some r) ∧ Aside0 (kq ≤ kj2) ∧ Drawn0 w wc)
    case first =>
     have H := HC6.out
     clear HC6
     by_cases c7 : a0 = 1
     ·
      rw [if_pos c7] at H
      have c7b0 : (a0 == 1) = true := beq_iff_eq.mpr c7
      have c7b1 : (a0 != 1) = false := bne_eq_false_iff_eq.mpr c7
      clear c7
      (first | rw [c7b0] | (simp only [i64_w, i32_w]; rw [c7b0]) | skip)
      have H' := qa H
      clear H
      go_wp2
      go_meet
      case rel => exact ⟨_, ((a1.toList != ([] : List UInt8))), (by first | rfl | (simp; done) | (simp [*]; done) | (simp [bne_nil]; done)), H', ⟨by have := HJ2.out; first | omega | exact Nat.le_refl _⟩, by repeat (first | exact Drawn0.refl _ | apply Drawn0.step)⟩
     ·
      rw [if_neg c7] at H
      have c7b0 : (a0 == 1) = false := beq_eq_false_iff_ne.mpr c7
      have c7b1 : (a0 != 1) = true := bne_iff_ne.mpr c7
      (first | rw [c7b0] | (simp only [i64_w, i32_w]; rw [c7b0]) | skip)
      have H' := qa H
      clear H
      go_wp2
      go_meet
      case rel => exact ⟨_, (false), (by first | rfl | (simp; done) | (simp [*]; done) | (simp [bne_nil]; done)), H', ⟨by have := HJ2.out; first | omega | exact Nat.le_refl _⟩, by repeat (first | exact Drawn0.refl _ | apply Drawn0.step)⟩
    case rest =>
     clear HC6
     try clear c2
     try clear p2
     try clear c4
     try clear c4b0
     try clear c5
     try clear c7
     try clear c7b0
     try clear c7b1
     try clear p2
     obtain ⟨kq, x12_5, rfl, HA, HJ5, ⟨mc5, rfl⟩⟩ := hcut
     cases kq with
     | zero => exact absurd HA.out (by simp [tree_may.j1])
     | succ kj5 =>
      have H := HA.out
      clear HA
      simp only [tree_may.j1] at H
      have HC8 := qa H
      clear H
      go_upto_if 12 with (fail)
      go_cut [12] (fun v12 wc => ∃ (kq : Nat) (x12_7 : Bool), v12 = .bool x12_7 ∧ Aside0 (tree_may.j2 kq a1 x12_7 = some r) ∧ Aside0 (kq ≤ kj5) ∧ Drawn0 w wc)
      case first =>
       have H := HC8.out
       clear HC8
       by_cases c9 : x12_5 = true
       ·
        subst c9
        have H1 : (tree_may.j2 kj5 a1 true) = some r := by rw [if_pos rfl] at H; exact H
        clear H
        have H := H1
        clear H1
        have H' := qa H
        clear H
        go_wp2
        go_meet
        case rel => exact ⟨_, (true), (by first | rfl | (simp; done) | (simp [*]; done) | (simp [bne_nil]; done)), H', ⟨by have := HJ2.out; have := HJ5.out; first | omega | exact Nat.le_refl _⟩, by repeat (first | exact Drawn0.refl _ | apply Drawn0.step)⟩
       ·
        replace c9 := Bool.eq_false_iff.mpr c9
        subst c9
        have H1 : (if a0 = 3 then (tree_may.j2 kj5 a1 (a1.toList == ([] : List UInt8))) else (tree_may.j2 kj5 a1 false)) = some r := by rw [if_neg (show ¬ (false = true) by decide)] at H; exact H
        clear H
        have H := H1
        clear H1
        by_cases c10 : a0 = 3
        ·
         rw [if_pos c10] at H
         have c10b0 : (a0 == 3) = true := beq_iff_eq.mpr c10
         have c10b1 : (a0 != 3) = false := bne_eq_false_iff_eq.mpr c10
         clear c10
         (first | rw [c10b0] | (simp only [i64_w, i32_w]; rw [c10b0]) | skip)
         have H' := qa H
         clear H
         go_wp2
         go_meet
         case rel => exact ⟨_, ((a1.toList == ([] : List UInt8))), (by first | rfl | (simp; done) | (simp [*]; done) | (simp [bne_nil]; done)), H', ⟨by have := HJ2.out; have := HJ5.out; first | omega | exact Nat.le_refl _⟩, by repeat (first | exact Drawn0.refl _ | apply Drawn0.step)⟩
        ·
         rw [if_neg c10] at H
         have c10b0 : (a0 == 3) = false := beq_eq_false_iff_ne.mpr c10
         have c10b1 : (a0 != 3) = true := bne_iff_ne.mpr c10
         (first | rw [c10b0] | (simp only [i64_w, i32_w]; rw [c10b0]) | skip)
         have H' := qa H
         clear H
         go_wp2
         go_meet
         case rel => exact ⟨_, (false), (by first | rfl | (simp; done) | (simp [*]; done) | (simp [bne_nil]; done)), H', ⟨by have := HJ2.out; have := HJ5.out; first | omega | exact Nat.le_refl _⟩, by repeat (first | exact Drawn0.refl _ | apply Drawn0.step)⟩
      case rest =>
       clear HC8
       try clear c1
       try clear c2
       try clear p2
       try clear c4
       try clear c4b0
       try clear c5
       try clear c7
       try clear c7b0
       try clear c7b1
       try clear c9
       try clear c10
       try clear c10b0
       try clear c10b1
       try clear p2
       obtain ⟨kq, x12_7, rfl, HA, HJ7, ⟨mc7, rfl⟩⟩ := hcut
       cases kq with
       | zero => exact absurd HA.out (by simp [tree_may.j2])
       | succ kj7 =>
        have H := HA.out
        clear HA
        simp only [tree_may.j2] at H
        by_cases c11 : x12_7 = true
        ·
         subst c11
         have H1 : (some 3) = some r := by rw [if_pos rfl] at H; exact H
         clear H
         have H := H1
         clear H1
         obtain rfl := Option.some.inj H
         go_wp2
         go_ret
         exact ⟨by first | rfl | (simp; done) | (simp [*]; done), by repeat (first | exact Drawn0.refl _ | apply Drawn0.step)⟩
        ·
         replace c11 := Bool.eq_false_iff.mpr c11
         subst c11
         have H1 : (if (a1.size : Int) > 65536 then (some 4) else (some 0)) = some r := by rw [if_neg (show ¬ (false = true) by decide)] at H; exact H
         clear H
         have H := H1
         clear H1
         by_cases c12 : (a1.size : Int) > 65536
         ·
          rw [if_pos c12] at H
          have c12b0 : decide (65536 < (a1.size : Int)) = true := decide_eq_true c12
          have c12b1 : decide (65536 < a1.size) = true := decide_eq_true (by omega)
          clear c12
          obtain rfl := Option.some.inj H
          go_wp2
          go_ret
          exact ⟨by first | rfl | (simp; done) | (simp [*]; done), by repeat (first | exact Drawn0.refl _ | apply Drawn0.step)⟩
         ·
          rw [if_neg c12] at H
          have c12b0 : decide (65536 < (a1.size : Int)) = false := decide_eq_false c12
          have c12b1 : decide (65536 < a1.size) = false := decide_eq_false (by omega)
          clear c12
          obtain rfl := Option.some.inj H
          go_wp2
          go_ret
          exact ⟨by first | rfl | (simp; done) | (simp [*]; done), by repeat (first | exact Drawn0.refl _ | apply Drawn0.step)⟩
end Go.Proofs.Ytnpeeiikdcankaa.X

namespace Go.Proofs.Ytnpeeiikdcankaa.Tw
open Go Go.RowKit Go.Shelf Go.Proofs Go.Proofs.Ytnpeeiikdcankaa Go.Proofs.YtnpeeiikdcankaaW.PrintWords Go.Proofs.Ytnpeeiikdcankaa.Ext Go.Proofs.Ytnpeeiikdcankaa.X Go.Proofs.Ytnpeeiikdcankaa.Pu
def Tr.enter (T : Tr) (n : Int) (l : List En) : Tr := T.set n { T.node n with ents := l }
theorem enter_calls (p B : Nat) (T : Tr) (n : Int) (v : Value) (l : List En) (w : World) (h : TreeB w p B T) (hn : wf n) (hv : EntsAt w v l) (hc : T.cnt < 1000000) :
  Calls Try.prog 53 #[pT p, .int .i64 n, v] w fun e w' => e = .returned (.tuple #[]) ∧ TreeB w' p B (T.enter n l) ∧ Frm w w' p B := by
 obtain ⟨sv, D, h⟩ := h
 obtain ⟨s, hs, hrun⟩ := h.look n hn
 have hrun := hrun w (Below.refl _ _)
 have c0 := h.cell0
 have hlt := blk_lt h.ptr
 have hx : T.node n = T.node n := rfl
 generalize hN : T.node n = x at hrun
 obtain ⟨k, u, d, l0⟩ := x
 unfold ndV at hrun
 simp only [] at hrun
 have HS := qh (fun (W : World) (hb : Below w.heap.size w W) => (h.below hb).store n hn ⟨k, u, d, l⟩ v (hv.below hb) hc)
 have HN := qh hN
 have C0 := qh (fun (W : World) (hb : Below w.heap.size w W) => (h.below hb).cell0)
 obtain ⟨As, cs, rfl, -, -⟩ := hs
 obtain ⟨Av, cv, rfl, -, -⟩ := hv
 clear h hN hx hc
 go_enter Try.func53, Try.ntmps53
 go_wp2
 have hb0 := (Below.refl w.heap.size w).alloc (Nat.le_refl _) (.cells #[.int .i64 k, .int .i64 u, .string d, .slice Av l.length cv] 73)
 generalize hW : w.alloc (.cells #[.int .i64 k, .int .i64 u, .string d, .slice Av l.length cv] 73) = W0 at hb0 ⊢
 have hb1 : Below w.heap.size w W0.drew := hb0.drew
 obtain ⟨w', hup, hT', hF'⟩ := HS.out W0.drew hb1
 unfold ndV at hup
 simp only [] at hup
 have d0 : W0.drew.cell? ⟨p, 0, none⟩ = some (.map (some B)) := C0.out _ hb1
 have hbx : W0.drew.heap[w.heap.size]? = some (.cells #[.int .i64 k, .int .i64 u, .string d, .slice Av l.length cv] 73 (0, 0)) := by rw [← hW]; exact heap_alloc_new w _
 have x0 : W0.drew.cell? ⟨w.heap.size, 0, none⟩ = some (.int .i64 k) := by rw [blk_cell hbx]; rfl
 have x1 : W0.drew.cell? ⟨w.heap.size, 1, none⟩ = some (.int .i64 u) := by rw [blk_cell hbx]; rfl
 have x2 : W0.drew.cell? ⟨w.heap.size, 2, none⟩ = some (.string d) := by rw [blk_cell hbx]; rfl
 have x3 : W0.drew.cell? ⟨w.heap.size, 3, none⟩ = some (.slice Av l.length cv) := by rw [blk_cell hbx]; rfl
 have HTT := qh hT'
 have HFF := qh ((Frm.ofBelow hb1 (p := p) (B := B)).trans hF')
 clear hW hbx hT' hF'
 go_region
 refine bodyPost_end (v := .tuple #[]) (by simp [results, Try.results53, go_sem]) rfl ?_
 refine ⟨rfl, ?_, HFF.out⟩
 rw [Tr.enter, HN.out]
 exact HTT.out
def dirE (k : Int) : Int := if k = 0 then 5 else if k = 1 then 0 else 7
theorem dir_calls (p : Nat) (T : Tr) (n : Int) (w : World) (h : TreeAt w p T) (hn : wf n) :
  Calls Try.prog 50 #[pT p, .int .i64 n] w fun e w' => e = .returned (.int .i64 (dirE (T.node n).kind)) ∧ Below w.heap.size w w' := by
 have HK := qh (fun W h => kind_calls p T n W h hn)
 have HT := qh h
 clear h
 generalize (T.node n).kind = k at HK ⊢
 unfold dirE
 by_cases h0 : k = 0
 ·
  subst h0
  rw [if_pos rfl]
  go_enter Try.func50, Try.ntmps50
  go_wp2_with (first | (go_at_call 42; refine (HK.out _ HT.out).mono ?_; rintro e w2 ⟨rfl, hb2⟩))
  go_ret
  exact ⟨rfl, hb2⟩
 ·
  rw [if_neg h0]
  by_cases h1 : k = 1
  ·
   subst h1
   rw [if_pos rfl]
   go_enter Try.func50, Try.ntmps50
   go_upto_region 5 with (first | (go_at_call 42; refine (HK.out _ HT.out).mono ?_; rintro e w2 ⟨rfl, hb2⟩))
   have HT2 := qh (HT.out.below hb2)
   go_wp2_with (first | (go_at_call 42; refine (HK.out _ HT2.out).mono ?_; rintro e w3 ⟨rfl, hb3⟩))
   go_ret
   exact ⟨rfl, hb2.trans (hb3.mono hb2.size)⟩
  ·
   rw [if_neg h1]
   go_enter Try.func50, Try.ntmps50
   go_upto_region 5 with (first | (go_at_call 42; refine (HK.out _ HT.out).mono ?_; rintro e w2 ⟨rfl, hb2⟩))
   have HT2 := qh (HT.out.below hb2)
   go_wp2_with (first | (go_at_call 42; refine (HK.out _ HT2.out).mono ?_; rintro e w3 ⟨rfl, hb3⟩))
   go_ret
   exact ⟨rfl, hb2.trans (hb3.mono hb2.size)⟩
theorem has_calls (p : Nat) (T : Tr) (n : Int) (s : ByteArray) (w : World) (h : TreeAt w p T) (hn : wf n) (hl : (T.node n).ents.length < 4294967296) (hR : Rt (T.node n).ents) :
  Calls Try.prog 62 #[pT p, .int .i64 n, .string s] w fun e w' => e = .returned (.bool (findE (T.node n).ents s).2) ∧ Below w.heap.size w w' := by
 obtain ⟨B, sv, D, h⟩ := h
 obtain ⟨v, hv, hrun⟩ := h.look n hn
 have hrun := hrun w (Below.refl _ _)
 have c0 := h.cell0
 obtain ⟨A, c, rfl, hle, hC⟩ := hv
 have HF := qh (fun W hW => find_calls A c (T.node n).ents s W hW hle hl hR)
 have HC := qh hC
 clear h hC hle hl hR
 generalize T.node n = x at *
 obtain ⟨k, u, d, l⟩ := x
 unfold ndV at hrun
 simp only [] at hrun HF HC ⊢
 go_enter Try.func62, Try.ntmps62
 go_wp2_with (first | (go_at_call 39; refine (HF.out _ HC.out).mono ?_; rintro e w2 ⟨rfl, hb2⟩))
 go_ret
 exact ⟨rfl, hb2⟩
def T0 : Tr := ⟨fun n => if n = 1 then some ⟨1, 1, ⟨#[]⟩, []⟩ else none, 1, 1⟩
theorem new_calls (w : World) :
  Calls Try.prog 29 #[] w fun e w' => ∃ p B, e = .returned (pT p) ∧ TreeB w' p B T0 ∧ Below w.heap.size w w' ∧ w.heap.size ≤ p ∧ w.heap.size ≤ B := by
 have hown := World.ownsMap_made w Try.prog 3 vE
 have hb1 := (Below.refl w.heap.size w).alloc (Nat.le_refl _) (.map #[] 0)
 have hkey : keyOf Try.prog 3 (.int .i64 1) = some (.int .i64 1) := Maps.keyOf_int_mk Try.underlying3 (by decide)
 have hkl : WideAt.IsKeyLit (.int .i64 1) := by simp [WideAt.IsKeyLit]
 obtain ⟨w2, hup, hown2, hturn⟩ := hown.store keyed Try.underlying52 (by unfold maxLen; omega) hkey (val := ndV ⟨1, 1, ⟨#[]⟩, []⟩ (.slice none 0 0)) (d := .held (ndV ⟨1, 1, ⟨#[]⟩, []⟩ (.slice none 0 0))) (ps := []) rfl
 have hg := hturn.grown
 have hb2 : Below w.heap.size w w2 := hb1.trans ⟨hg.os, hg.tape, hg.output, hg.size, fun k hk => hg.block k (by simp; omega) (fun e => by injection e with e; omega)⟩
 have FIN : TreeB (w2.alloc (.cells #[.map (some w.heap.size), .int .i64 1] 54)) w2.heap.size w.heap.size T0 := by
  refine ⟨fun _ => .slice none 0 0, _, ⟨heap_alloc_new w2 _, (ownsMap_fit hown2).alloc _, ?_, fun n hn => ?_, fun n z hn => ?_, fun n x hn hx => ?_⟩⟩
  · rw [Maps.size_put Maps.tidy_empty]; rfl
  ·
   by_cases e : n = 1
   ·
    subst e
    rw [Maps.has_put_same Maps.isMap_empty hkl]; rfl
   ·
    rw [Maps.has_put_other (by intro e2; injection e2 with _ e2; exact e e2)]
    simp [T0, e, Maps.has]
  ·
   by_cases e : n = 1
   ·
    subst e
    rw [Maps.atKey_put_same Maps.isMap_empty hkl]; rfl
   ·
    rw [Maps.atKey_put_other (by intro e2; injection e2 with _ e2; exact e e2)]
    rw [Maps.atKey_of_not_has (by simp [Maps.has])]
    simp [T0, e]
  ·
   by_cases e : n = 1
   ·
    subst e
    simp [T0] at hx
    subst hx
    exact ⟨none, 0, rfl, Nat.le_refl _, Kd.C_nil _ _⟩
   · simp [T0, e] at hx
 have HF := qh (And.intro FIN (And.intro (hb2.alloc hb2.size (.cells #[.map (some w.heap.size), .int .i64 1] 54)) hb2.size))
 clear FIN hown hown2 hb1 hb2 hkey hkl hturn hg
 unfold ndV at hup
 simp only [] at hup
 have hmk : (Instr.makeMap 52 none).run Try.prog w = .ok (.map (some w.heap.size)) (w.alloc (.map #[] 0)) := rfl
 go_enter Try.func29, Try.ntmps29
 go_wp2
 go_ret
 exact ⟨_, _, rfl, HF.out.1, HF.out.2.1, HF.out.2.2, Nat.le_refl _⟩
def mayE (kind : Int) (data : ByteArray) : Int :=
 if kind < 1 ∨ kind > 3 then 2 else if (kind = 1 ∧ data.size ≠ 0) ∨ (kind = 3 ∧ data.size = 0) then 3 else if data.size > 65536 then 4 else 0
theorem may_f (kind : Int) (data : ByteArray) : tree_may.f 5 kind data = some (mayE kind data) := by
 have hz : (data.toList = ([] : List UInt8)) ↔ data.size = 0 := by
  rw [toL]
  constructor
  ·
   intro h
   have := congrArg List.length h
   exact this
  ·
   intro h
   exact List.eq_nil_of_length_eq_zero h
 have hb : ∀ q : Bool, (data.toList == ([] : List UInt8)) = q → decide (data.size = 0) = q := by
  intro q h
  rw [← h]
  by_cases e : data.size = 0
  · rw [hz.2 e, decide_eq_true e]; rfl
  ·
   rw [decide_eq_false e]
   symm
   rw [beq_eq_false_iff_ne]
   exact fun h => e (hz.1 h)
 have hb := hb _ rfl
 unfold mayE tree_may.f
 by_cases a1 : kind < 1
 · rw [if_pos a1, if_pos (.inl a1)]; rfl
 ·
  rw [if_neg a1]
  by_cases a2 : kind > 3
  · rw [decide_eq_true a2, if_pos (.inr a2)]; rfl
  ·
   rw [decide_eq_false a2, if_neg (show ¬ (kind < 1 ∨ kind > 3) by omega), show tree_may.j0 5 kind data false = (if kind = 1 then tree_may.j1 4 kind data (data.toList != ([] : List UInt8)) else tree_may.j1 4 kind data false) from rfl]
   by_cases a3 : kind = 1
   ·
    rw [if_pos a3]
    by_cases e : data.size = 0
    ·
     rw [decide_eq_true e] at hb
     rw [bne, ← hb, if_neg (show ¬ ((kind = 1 ∧ data.size ≠ 0) ∨ (kind = 3 ∧ data.size = 0)) by omega), show tree_may.j1 4 kind data (!true) = (if kind = 3 then tree_may.j2 3 data (data.toList == ([] : List UInt8)) else tree_may.j2 3 data false) from rfl, if_neg (by omega),
      show tree_may.j2 3 data false = (if (data.size : Int) > 65536 then some 4 else some 0) from rfl, if_neg (by omega), if_neg (by omega)]
    ·
     rw [decide_eq_false e] at hb
     rw [bne, ← hb, if_pos (.inl ⟨a3, e⟩)]; rfl
   ·
    rw [if_neg a3]
    rw [show tree_may.j1 4 kind data false = (if kind = 3 then tree_may.j2 3 data (data.toList == ([] : List UInt8)) else tree_may.j2 3 data false) from rfl]
    by_cases a4 : kind = 3
    ·
     rw [if_pos a4]
     by_cases e : data.size = 0
     ·
      rw [decide_eq_true e] at hb
      rw [← hb, if_pos (.inr ⟨a4, e⟩)]; rfl
     ·
      rw [decide_eq_false e] at hb
      rw [← hb, if_neg (show ¬ ((kind = 1 ∧ data.size ≠ 0) ∨ (kind = 3 ∧ data.size = 0)) by omega), show tree_may.j2 3 data false = (if (data.size : Int) > 65536 then some 4 else some 0) from rfl]
      by_cases f : data.size > 65536
      · rw [if_pos f, if_pos (by omega)]
      · rw [if_neg f, if_neg (by omega)]
    ·
     rw [if_neg a4, if_neg (show ¬ ((kind = 1 ∧ data.size ≠ 0) ∨ (kind = 3 ∧ data.size = 0)) by omega), show tree_may.j2 3 data false = (if (data.size : Int) > 65536 then some 4 else some 0) from rfl]
     by_cases f : data.size > 65536
     · rw [if_pos f, if_pos (by omega)]
     · rw [if_neg f, if_neg (by omega)]
def putE (T : Tr) (dir : Int) (s : ByteArray) (kind : Int) (data : ByteArray) : Int :=
 if dirE (T.node dir).kind ≠ 0 then dirE (T.node dir).kind else if Sp.check s.data.toList ≠ 0 then Sp.check s.data.toList else
  if (findE (T.node dir).ents s).2 = true then 6 else if mayE kind data ≠ 0 then mayE kind data else if 4096 ≤ T.cnt then 12 else 0
def putT (T : Tr) (dir : Int) (s : ByteArray) (kind : Int) (data : ByteArray) : Tr :=
 ((T.bump.set (T.last + 1) ⟨kind, dir, data, []⟩).enter dir (insE (T.node dir).ents ⟨s, T.last + 1⟩))
theorem TreeB.cell0 {w : World} {p B : Nat} {T : Tr} (h : TreeB w p B T) : w.cell? ⟨p, 0, none⟩ = some (.map (some B)) := by obtain ⟨_, _, h⟩ := h; exact h.cell0
theorem TreeB.cell1 {w : World} {p B : Nat} {T : Tr} (h : TreeB w p B T) : w.cell? ⟨p, 1, none⟩ = some (.int .i64 T.last) := by obtain ⟨_, _, h⟩ := h; exact h.cell1
theorem TreeB.frozen {w : World} {p B : Nat} {T : Tr} (h : TreeB w p B T) : w.frozen? ⟨p, 1, none⟩ = false := by obtain ⟨_, _, h⟩ := h; exact blk_frozen h.ptr 1
theorem TreeB.lt {w : World} {p B : Nat} {T : Tr} (h : TreeB w p B T) : p < w.heap.size := h.at_.lt
theorem TreeB.len_run {w : World} {p B : Nat} {T : Tr} (h : TreeB w p B T) (ty : TypeId) : (Builtin.len_ #[52] ty #[.map (some B)]).run Try.prog w = .ok (.int .i64 (T.cnt : Int)) w := by
 obtain ⟨sv, D, h⟩ := h
 rw [← h.cnt]
 exact h.map.len Try.underlying52 ty
theorem put_err (p B : Nat) (T : Tr) (dir : Int) (s : ByteArray) (kind : Int) (data : ByteArray) (w : World) (h : TreeB w p B T) (hn : wf dir) (hl : (T.node dir).ents.length < 4294967296) (hR : Rt (T.node dir).ents) (hs : s.size < 4294967281) (he : putE T dir s kind data ≠ 0) :
  Calls Try.prog 41 #[pT p, .int .i64 dir, .string s, .int .i64 kind, .string data] w fun e w' => e = .returned (.tuple #[.int .i64 0, .int .i64 (putE T dir s kind data)]) ∧ Below w.heap.size w w' := by
 have HD := qh (fun W h => dir_calls p T dir W h hn)
 have HC := qh (fun W => name_Check.calls s (Sp.check s.data.toList) W (by rw [name_Check.f, if_pos hs]))
 have HH := qh (fun W h => has_calls p T dir s W h hn hl hR)
 have HM := qh (fun W => tree_may.calls 5 kind data (mayE kind data) W (may_f kind data))
 have HT := qh h
 clear h hl hR hs
 unfold putE at he ⊢
 generalize dirE (T.node dir).kind = d at *
 generalize Sp.check s.data.toList = ck at *
 generalize (findE (T.node dir).ents s).2 = hb at *
 generalize mayE kind data = m at *
 by_cases h1 : d = 0
 ·
  subst h1
  rw [if_neg (by simp)] at he ⊢
  by_cases h2 : ck = 0
  ·
   subst h2
   rw [if_neg (by simp)] at he ⊢
   cases hb with
   | true =>
    rw [if_pos rfl]
    clear he
    go_enter Try.func41, Try.ntmps41
    go_wp2_with (first | (go_at_call 50; refine (HD.out _ HT.out.at_).mono ?_; rintro e w2 ⟨rfl, hb2⟩; have HT2 := qh (HT.out.below hb2)) | (go_at_call 49; refine (HC.out _).mono ?_; rintro e w3 ⟨rfl, hb3⟩; have HT3 := qh (HT2.out.below hb3)) | (go_at_call 62; refine (HH.out _ HT3.out.at_).mono ?_; rintro e w4 ⟨rfl, hb4⟩; have HT4 := qh (HT3.out.below hb4)) | (go_at_call 58; refine (HM.out _).mono ?_; rintro e w5 ⟨rfl, hd5⟩; have hb5 := hd5.below; have HT5 := qh (HT4.out.below hb5); have c5 := HT5.out.cell0; have l5 := HT5.out.len_run 3; have d5 := HT5.out.cell1; have z5 := HT5.out.frozen))
    go_ret2
    exact ⟨rfl, hb2.trans ((hb3.mono hb2.size).trans (hb4.mono (Nat.le_trans hb2.size hb3.size)))⟩
   | false =>
    rw [if_neg (by simp)] at he ⊢
    by_cases h3 : m = 0
    ·
     subst h3
     rw [if_neg (by simp)] at he ⊢
     by_cases h4 : 4096 ≤ T.cnt
     ·
      rw [if_pos h4]
      clear he
      have h4' : (4096 : Int) ≤ (T.cnt : Int) := by omega
      go_enter Try.func41, Try.ntmps41
      go_wp2_with (first | (go_at_call 50; refine (HD.out _ HT.out.at_).mono ?_; rintro e w2 ⟨rfl, hb2⟩; have HT2 := qh (HT.out.below hb2)) | (go_at_call 49; refine (HC.out _).mono ?_; rintro e w3 ⟨rfl, hb3⟩; have HT3 := qh (HT2.out.below hb3)) | (go_at_call 62; refine (HH.out _ HT3.out.at_).mono ?_; rintro e w4 ⟨rfl, hb4⟩; have HT4 := qh (HT3.out.below hb4)) | (go_at_call 58; refine (HM.out _).mono ?_; rintro e w5 ⟨rfl, hd5⟩; have hb5 := hd5.below; have HT5 := qh (HT4.out.below hb5); have c5 := HT5.out.cell0; have l5 := HT5.out.len_run 3; have d5 := HT5.out.cell1; have z5 := HT5.out.frozen))
      go_ret2
      exact ⟨rfl, (hb2.trans ((hb3.mono hb2.size).trans (hb4.mono (Nat.le_trans hb2.size hb3.size)))).trans (hb5.mono (Nat.le_trans hb2.size (Nat.le_trans hb3.size hb4.size)))⟩
     ·
      rw [if_neg h4] at he
      exact absurd rfl he
    ·
     rw [if_pos h3]
     clear he
     go_enter Try.func41, Try.ntmps41
     go_wp2_with (first | (go_at_call 50; refine (HD.out _ HT.out.at_).mono ?_; rintro e w2 ⟨rfl, hb2⟩; have HT2 := qh (HT.out.below hb2)) | (go_at_call 49; refine (HC.out _).mono ?_; rintro e w3 ⟨rfl, hb3⟩; have HT3 := qh (HT2.out.below hb3)) | (go_at_call 62; refine (HH.out _ HT3.out.at_).mono ?_; rintro e w4 ⟨rfl, hb4⟩; have HT4 := qh (HT3.out.below hb4)) | (go_at_call 58; refine (HM.out _).mono ?_; rintro e w5 ⟨rfl, hd5⟩; have hb5 := hd5.below; have HT5 := qh (HT4.out.below hb5); have c5 := HT5.out.cell0; have l5 := HT5.out.len_run 3; have d5 := HT5.out.cell1; have z5 := HT5.out.frozen))
     go_ret2
     exact ⟨rfl, (hb2.trans ((hb3.mono hb2.size).trans (hb4.mono (Nat.le_trans hb2.size hb3.size)))).trans (hb5.mono (Nat.le_trans hb2.size (Nat.le_trans hb3.size hb4.size)))⟩
  ·
   rw [if_pos h2]
   clear he
   go_enter Try.func41, Try.ntmps41
   go_wp2_with (first | (go_at_call 50; refine (HD.out _ HT.out.at_).mono ?_; rintro e w2 ⟨rfl, hb2⟩; have HT2 := qh (HT.out.below hb2)) | (go_at_call 49; refine (HC.out _).mono ?_; rintro e w3 ⟨rfl, hb3⟩; have HT3 := qh (HT2.out.below hb3)) | (go_at_call 62; refine (HH.out _ HT3.out.at_).mono ?_; rintro e w4 ⟨rfl, hb4⟩; have HT4 := qh (HT3.out.below hb4)) | (go_at_call 58; refine (HM.out _).mono ?_; rintro e w5 ⟨rfl, hd5⟩; have hb5 := hd5.below; have HT5 := qh (HT4.out.below hb5); have c5 := HT5.out.cell0; have l5 := HT5.out.len_run 3; have d5 := HT5.out.cell1; have z5 := HT5.out.frozen))
   go_ret2
   exact ⟨rfl, hb2.trans (hb3.mono hb2.size)⟩
 ·
  rw [if_pos h1]
  clear he
  go_enter Try.func41, Try.ntmps41
  go_wp2_with (first | (go_at_call 50; refine (HD.out _ HT.out.at_).mono ?_; rintro e w2 ⟨rfl, hb2⟩; have HT2 := qh (HT.out.below hb2)) | (go_at_call 49; refine (HC.out _).mono ?_; rintro e w3 ⟨rfl, hb3⟩; have HT3 := qh (HT2.out.below hb3)) | (go_at_call 62; refine (HH.out _ HT3.out.at_).mono ?_; rintro e w4 ⟨rfl, hb4⟩; have HT4 := qh (HT3.out.below hb4)) | (go_at_call 58; refine (HM.out _).mono ?_; rintro e w5 ⟨rfl, hd5⟩; have hb5 := hd5.below; have HT5 := qh (HT4.out.below hb5); have c5 := HT5.out.cell0; have l5 := HT5.out.len_run 3; have d5 := HT5.out.cell1; have z5 := HT5.out.frozen))
  go_ret2
  exact ⟨rfl, hb2⟩
theorem OwnE.entsAt {w : World} {base : Nat} {v : Value} {l : List En} (h : OwnE w base v l) : EntsAt w v l := by
 obtain ⟨A, c, e, hle, hC⟩ := Kd.R_reads h.toR
 exact ⟨A, c, e, hle, hC⟩
theorem putE_zero {T : Tr} {dir : Int} {s : ByteArray} {kind : Int} {data : ByteArray} (h : putE T dir s kind data = 0) :
  dirE (T.node dir).kind = 0 ∧ Sp.check s.data.toList = 0 ∧ (findE (T.node dir).ents s).2 = false ∧ mayE kind data = 0 ∧ T.cnt < 4096 := by
 unfold putE at h
 split at h
 · rename_i g; exact absurd h g
 ·
  rename_i g1
  split at h
  · rename_i g; exact absurd h g
  ·
   rename_i g2
   split at h
   · cases h
   ·
    rename_i g3
    split at h
    · rename_i g; exact absurd h g
    ·
     rename_i g4
     split at h
     · cases h
     ·
      rename_i g5
      exact ⟨Decidable.byContradiction fun e => g1 e, Decidable.byContradiction fun e => g2 e, by simpa using g3, Decidable.byContradiction fun e => g4 e, by omega⟩
theorem dirE_zero {k : Int} (h : dirE k = 0) : k = 1 := by
 unfold dirE at h
 split at h
 · cases h
 ·
  split at h
  · assumption
  · cases h
theorem wf_of {n : Int} (h : 0 ≤ n ∧ n ≤ 1000000) : wf n := by unfold wf; simp only [Lit.wf, Bool.and_eq_true, decide_eq_true_eq]; obtain ⟨a, b⟩ := h; exact ⟨Int.le_trans (by decide) a, Int.le_trans b (by decide)⟩
theorem TreeB.bump {w : World} {p B : Nat} {T : Tr} (h : TreeB w p B T) : TreeB (w.setCell ⟨p, 1, none⟩ (.int .i64 (T.last + 1))) p B T.bump ∧ Frm w (w.setCell ⟨p, 1, none⟩ (.int .i64 (T.last + 1))) p B := by
 obtain ⟨sv, D, h⟩ := h
 exact h.bump
theorem TreeB.drew {w : World} {p B : Nat} {T : Tr} (h : TreeB w p B T) : TreeB w.drew p B T := h.below (below_drew (Below.refl _ _))
theorem set_cnt_lt {T : Tr} {n : Int} {x : Nd} (h : T.cnt < 4096) : (T.bump.set n x).cnt < 1000000 := by
 have h1 : T.cnt < 1000000 := by omega
 have h2 : T.cnt + 1 < 1000000 := by omega
 show (if _ then T.cnt else T.cnt + 1) < 1000000
 split
 · exact h1
 · exact h2
theorem node_set_ne {T : Tr} {n m : Int} {x : Nd} (h : m ≠ n) : (T.set n x).node m = T.node m := by simp [Tr.node, Tr.set, h]
theorem put_ok (p B : Nat) (T : Tr) (dir : Int) (s : ByteArray) (kind : Int) (data : ByteArray) (w : World) (h : TreeB w p B T) (hn : wf dir) (hl : (T.node dir).ents.length < 4294967296) (hR : Rt (T.node dir).ents) (hs : s.size < 4294967281)
  (hla : 0 ≤ T.last ∧ T.last < 1000000) (hfr : T.get (T.last + 1) = none) (he : putE T dir s kind data = 0) :
  Calls Try.prog 41 #[pT p, .int .i64 dir, .string s, .int .i64 kind, .string data] w fun e w' => e = .returned (.tuple #[.int .i64 (T.last + 1), .int .i64 0]) ∧ TreeB w' p B (putT T dir s kind data) ∧ Frm w w' p B := by
 have HD := qh (fun W h => dir_calls p T dir W h hn)
 have HC := qh (fun W => name_Check.calls s (Sp.check s.data.toList) W (by rw [name_Check.f, if_pos hs]))
 have HH := qh (fun W h => has_calls p T dir s W h hn hl hR)
 have HM := qh (fun W => tree_may.calls 5 kind data (mayE kind data) W (may_f kind data))
 have HT := qh h
 obtain ⟨q1, q2, q3, q4, q5⟩ := putE_zero he
 have hdl : dir ≠ T.last + 1 := by
  intro e
  have k1 := dirE_zero q1
  rw [e, Tr.node, hfr] at k1
  cases k1
 have HSET := qh (fun (W : World) (h : TreeB W p B T.bump) => by
  obtain ⟨sv, D, h⟩ := h
  exact h.store (T.last + 1) (wf_of (by obtain ⟨a, b⟩ := hla; omega)) ⟨kind, dir, data, []⟩ (.slice none 0 0) (entsNil W) (by show T.cnt < _; omega))
 have hnode : (T.bump.set (T.last + 1) ⟨kind, dir, data, []⟩).node dir = T.node dir := node_set_ne hdl
 have HLOOK := qh (fun (W : World) (h : TreeB W p B (T.bump.set (T.last + 1) ⟨kind, dir, data, []⟩)) => by
  obtain ⟨sv, D, h⟩ := h
  have := h.look dir hn
  rw [hnode] at this
  exact this)
 have HPUT := qh (fun A c W hC hle => entsPut_calls A c (T.node dir).ents ⟨s, T.last + 1⟩ W hC hle hl hR q3)
 have HENT := qh (fun v W h hv => enter_calls p B (T.bump.set (T.last + 1) ⟨kind, dir, data, []⟩) dir v (insE (T.node dir).ents ⟨s, T.last + 1⟩) W h hn hv (set_cnt_lt q5))
 have hw1 : IntKind.i64.wrap (T.last + 1) = T.last + 1 := by obtain ⟨a, b⟩ := hla; rw [IntKind.wrap_i64]; omega
 have h4' : ¬ ((4096 : Int) ≤ (T.cnt : Int)) := by omega
 rw [q1] at HD
 rw [q2] at HC
 rw [q3] at HH
 rw [q4] at HM
 clear h hl hR hs q1 q2 q3 q4 q5 he hfr hdl hnode hla
 generalize hes : (T.node dir).ents = es at *
 have HES := qh hes
 clear hes
 go_enter Try.func41, Try.ntmps41
 go_wp2_with (first | (go_at_call 50; refine (HD.out _ HT.out.at_).mono ?_; rintro e w2 ⟨rfl, hb2⟩; have HT2 := qh (HT.out.below hb2)) | (go_at_call 49; refine (HC.out _).mono ?_; rintro e w3 ⟨rfl, hb3⟩; have HT3 := qh (HT2.out.below hb3)) | (go_at_call 62; refine (HH.out _ HT3.out.at_).mono ?_; rintro e w4 ⟨rfl, hb4⟩; have HT4 := qh (HT3.out.below hb4)) | (go_at_call 58; refine (HM.out _).mono ?_; rintro e w5 ⟨rfl, hd5⟩; have hb5 := hd5.below; have HT5 := qh (HT4.out.below hb5); have c5 := HT5.out.cell0; have l5 := HT5.out.len_run 3; have d5 := HT5.out.cell1; have z5 := HT5.out.frozen))
 have HB5 := qa (hb2.trans ((hb3.mono hb2.size).trans ((hb4.mono (Nat.le_trans hb2.size hb3.size)).trans (hb5.mono (Nat.le_trans hb2.size (Nat.le_trans hb3.size hb4.size))))))
 obtain ⟨hT6, hF6⟩ := HT5.out.bump
 clear hb2 hb3 hb4 hb5 HT HT2 HT3 HT4 HD HC HH HM c5 l5 d5 hd5 z5
 generalize w5.setCell ⟨p, 1, none⟩ (.int .i64 (T.last + 1)) = w6 at hT6 hF6 ⊢
 obtain ⟨w7, hup, hT7, hF7⟩ := HSET.out w6.drew hT6.drew
 unfold ndV at hup
 simp only [] at hup
 have c6 := hT6.drew.cell0
 have d6 : w6.drew.cell? ⟨p, 1, none⟩ = some (.int .i64 (T.last + 1)) := hT6.drew.cell1
 have HT7 := qa hT7
 have HF7 := qa ((hF6.trans (Frm.ofBelow (below_drew (Below.refl _ _)))).trans hF7)
 clear hT7 hF7 hF6 hT6 HT5
 go_region
 clear hup c6 d6
 obtain ⟨v7, hv7, hrun⟩ := HLOOK.out w7 HT7.out
 have hrun := hrun w7.drew (below_drew (Below.refl _ _))
 obtain ⟨A7, m7, rfl, hle7, hC7⟩ := hv7
 have HC7 := qa (Kd.C_drew hC7)
 have HLE := qa hle7
 have c7 : w7.drew.cell? ⟨p, 0, none⟩ = some (.map (some B)) := HT7.out.drew.cell0
 have d7 : w7.drew.cell? ⟨p, 1, none⟩ = some (.int .i64 (T.last + 1)) := HT7.out.drew.cell1
 clear hC7 hle7
 generalize T.node dir = ndd at hrun
 obtain ⟨nk, nu, nd, nl⟩ := ndd
 unfold ndV at hrun
 simp only [] at hrun
 go_wp2
 go_region_law (first | (go_simp; go_at_call 55; refine (HPUT.out _ _ _ HC7.out HLE.out).mono ?_; rintro e w8 ⟨v8, rfl, ho8, hb8⟩; obtain ⟨A8, m8, rfl, hle8, hC8⟩ := Kd.R_reads ho8.toR; have hT8 := HT7.out.drew.below hb8; have HE8 := qa (OwnE.entsAt ho8); clear hC8) | (go_simp; go_at_call 53; refine (HENT.out _ _ hT8 HE8.out).mono ?_; rintro e w9 ⟨rfl, hT9, hF9⟩; have d9 := hT9.cell1))
 all_goals go_wp2
 all_goals go_ret2
 all_goals exact ⟨rfl, by unfold putT; rw [HES.out]; exact hT9, ((Frm.ofBelow HB5.out).trans HF7.out).trans (((Frm.ofBelow (below_drew (Below.refl _ _))).trans (Frm.ofBelow hb8)).trans hF9)⟩
def Tr.del (T : Tr) (n : Int) : Tr := ⟨fun m => if m = n then none else T.get m, if (T.get n).isSome then T.cnt - 1 else T.cnt, T.last⟩
theorem TreeIs.drop {w : World} {p : Nat} {T : Tr} {B : Nat} {sv : Int → Value} {D : DataW Value} (h : TreeIs w p T B sv D) (n : Int) (hn : wf n) :
  ∃ w', (∀ ty, (Builtin.delete_ #[52, 3] ty #[.map (some B), .int .i64 n]).run Try.prog w = .ok (.tuple #[]) w') ∧ TreeB w' p B (T.del n) ∧ Frm w w' p B := by
 have hkey : keyOf Try.prog 3 (.int .i64 n) = some (.int .i64 n) := Maps.keyOf_int_mk Try.underlying3 hn
 obtain ⟨es, clock, hb⟩ := h.mapB
 obtain ⟨w', hrun, hown, hturn⟩ := h.map.drop keyed Try.underlying52 hkey 0
 have hg := hturn.grown
 have hf : Frm w w' p B := ⟨hg.os, hg.tape, hg.output, hg.size, fun k hk _ h2 => hg.block k hk (fun e => h2 (Option.some.inj e))⟩
 have hsz : Maps.size (D.del (.int .i64 n)) = (T.del n).cnt := by
  have h1 := Maps.size_del (k := .int .i64 n) (h.map.tidy keyed)
  rw [h.has n hn, h.cnt] at h1
  show _ = if (T.get n).isSome then T.cnt - 1 else T.cnt
  split at h1 <;> rename_i hs <;> simp only [hs] <;> simp <;> omega
 refine ⟨w', fun ty => hrun, ⟨sv, _, ⟨(hg.block p (blk_lt h.ptr) (fun e => h.ne (Option.some.inj e))).trans h.ptr, ownsMap_fit hown, hsz, fun m hm => ?_, fun m z hm => ?_, fun m y hm hy => ?_⟩⟩, hf⟩
 ·
  by_cases e : m = n
  ·
   subst e
   rw [Maps.has_del_same]
   simp [Tr.del]
  ·
   rw [Maps.has_del_other (by intro e2; injection e2 with _ e2; exact e e2), h.has m hm]
   simp [Tr.del, e]
 ·
  by_cases e : m = n
  ·
   subst e
   rw [Maps.atKey_del_same]
   simp [Tr.del]
  ·
   rw [Maps.atKey_del_other (by intro e2; injection e2 with _ e2; exact e e2), h.at_ m z hm]
   simp [Tr.del, e]
 ·
  by_cases e : m = n
  ·
   subst e
   simp [Tr.del] at hy
  ·
   simp [Tr.del, e] at hy
   exact EntsAt.frm (h.ents m y hm hy) h.ptr hb hf
theorem TreeB.look {w : World} {p B : Nat} {T : Tr} (h : TreeB w p B T) (n : Int) (hn : wf n) :
  ∃ A c, (T.node n).ents.length ≤ c ∧ Kd.C k91 w A (T.node n).ents.length (T.node n).ents ∧ ∀ w', Below w.heap.size w w' → (Instr.lookup 52 (.map (some B)) (.int .i64 n) false).run Try.prog w' = .ok (.agg #[.int .i64 (T.node n).kind, .int .i64 (T.node n).up, .string (T.node n).data, .slice A (T.node n).ents.length c]) w' := by
 obtain ⟨sv, D, h⟩ := h
 obtain ⟨s, ⟨A, c, rfl, hle, hC⟩, hrun⟩ := h.look n hn
 exact ⟨A, c, hle, hC, hrun⟩
theorem TreeB.drop {w : World} {p B : Nat} {T : Tr} (h : TreeB w p B T) (n : Int) (hn : wf n) :
  ∃ w', (∀ ty, (Builtin.delete_ #[52, 3] ty #[.map (some B), .int .i64 n]).run Try.prog w = .ok (.tuple #[]) w') ∧ TreeB w' p B (T.del n) ∧ Frm w w' p B := by
 obtain ⟨sv, D, h⟩ := h
 exact h.drop n hn
theorem TreeB.store {w : World} {p B : Nat} {T : Tr} (h : TreeB w p B T) (n : Int) (hn : wf n) (x : Nd) (s : Value) (hs : EntsAt w s x.ents) (hc : T.cnt < 1000000) :
  ∃ w', (Instr.mapUpdate 52 (.map (some B)) (.int .i64 n) (ndV x s)).run Try.prog w = .ok () w' ∧ TreeB w' p B (T.set n x) ∧ Frm w w' p B := by
 obtain ⟨sv, D, h⟩ := h
 exact h.store n hn x s hs hc
def cutE (T : Tr) (dir : Int) (s : ByteArray) : Int :=
 if dirE (T.node dir).kind ≠ 0 then dirE (T.node dir).kind else if (findE (T.node dir).ents s).2 = false then 5 else
  if 0 < (T.node (findE (T.node dir).ents s).1).ents.length then 9 else 0
def cutT (T : Tr) (dir : Int) (s : ByteArray) : Tr := (T.del (findE (T.node dir).ents s).1).enter dir (cutEn (T.node dir).ents s)
theorem cut_err (p B : Nat) (T : Tr) (dir : Int) (s : ByteArray) (w : World) (h : TreeB w p B T) (hn : wf dir) (hl : (T.node dir).ents.length < 4294967296) (hR : Rt (T.node dir).ents) (hwn : wf (findE (T.node dir).ents s).1) (he : cutE T dir s ≠ 0) :
  Calls Try.prog 43 #[pT p, .int .i64 dir, .string s] w fun e w' => e = .returned (.int .i64 (cutE T dir s)) ∧ Below w.heap.size w w' := by
 have HD := qh (fun W h => dir_calls p T dir W h hn)
 have HT := qh h
 have HLK := qh (fun W (h : TreeB W p B T) => h.look dir hn)
 have HLN := qh (fun W (h : TreeB W p B T) => h.look _ hwn)
 have HF := qh (fun W A c h hc => find_calls A c (T.node dir).ents s W h hc hl hR)
 clear h hl hR hn hwn
 unfold cutE at he ⊢
 generalize T.node (findE (T.node dir).ents s).1 = nn at *
 generalize hx : T.node dir = x at *
 obtain ⟨k, u, d, l⟩ := x
 simp only [] at *
 clear hx
 generalize findE l s = fe at *
 obtain ⟨n, fb⟩ := fe
 simp only [] at *
 by_cases h1 : dirE k = 0
 ·
  rw [h1] at HD
  rw [if_neg (by simpa using h1)] at he ⊢
  clear h1
  cases fb with
  | false =>
   rw [if_pos rfl]
   clear he HLN
   go_enter Try.func43, Try.ntmps43
   go_upto_region 4 with (go_at_call 50; refine (HD.out _ HT.out.at_).mono ?_; rintro e w2 ⟨rfl, hb2⟩)
   have HT2 := qh (HT.out.below hb2)
   have c2 := HT2.out.cell0
   obtain ⟨A2, m2, hle2, hC2, hrun⟩ := HLK.out _ HT2.out
   have hrun2 := hrun _ (Below.refl _ _)
   have HC2 := qh hC2
   clear hrun hC2
   go_wp2_with (go_at_call 39; refine (HF.out _ _ _ HC2.out hle2).mono ?_; rintro e w3 ⟨rfl, hb3⟩)
   go_ret
   exact ⟨rfl, hb2.trans (hb3.mono hb2.size)⟩
  | true =>
   rw [if_neg (by simp)] at he ⊢
   obtain ⟨kn, un, dn, ln⟩ := nn
   simp only [] at *
   by_cases h3 : 0 < ln.length
   ·
    rw [if_pos h3]
    clear he
    go_enter Try.func43, Try.ntmps43
    go_upto_region 4 with (go_at_call 50; refine (HD.out _ HT.out.at_).mono ?_; rintro e w2 ⟨rfl, hb2⟩)
    have HT2 := qh (HT.out.below hb2)
    have c2 := HT2.out.cell0
    obtain ⟨A2, m2, hle2, hC2, hrun⟩ := HLK.out _ HT2.out
    have hrun2 := hrun _ (Below.refl _ _)
    have HC2 := qh hC2
    clear hrun hC2
    go_upto_region 5 with (go_at_call 39; refine (HF.out _ _ _ HC2.out hle2).mono ?_; rintro e w3 ⟨rfl, hb3⟩)
    have HT3 := qh (HT2.out.below hb3)
    have c3 := HT3.out.cell0
    obtain ⟨A3, m3, hle3, hC3, hrun⟩ := HLN.out _ HT3.out
    have hrun3 := hrun _ (Below.refl _ _)
    have d3 : decide ((0 : Int) < (ln.length : Int)) = true := decide_eq_true (by omega)
    have d4 : decide (0 < ln.length) = true := decide_eq_true h3
    clear hrun hC3 hrun2 c2
    go_wp2
    go_ret
    exact ⟨rfl, hb2.trans (hb3.mono hb2.size)⟩
   ·
    rw [if_neg h3] at he
    exact absurd rfl he
 ·
  rw [if_pos (by simpa using h1)]
  clear he HLN HLK HF
  have b1 : (dirE k != 0) = true := bne_iff_ne.2 h1
  generalize dirE k = q at *
  go_enter Try.func43, Try.ntmps43
  go_wp2_with (go_at_call 50; refine (HD.out _ HT.out.at_).mono ?_; rintro e w2 ⟨rfl, hb2⟩)
  go_ret
  exact ⟨rfl, hb2⟩
theorem cutE_zero {T : Tr} {dir : Int} {s : ByteArray} (h : cutE T dir s = 0) : (T.node dir).kind = 1 ∧ (findE (T.node dir).ents s).2 = true ∧ (T.node (findE (T.node dir).ents s).1).ents = [] := by
 unfold cutE at h
 split at h
 · rename_i g; exact absurd h g
 ·
  rename_i g1
  split at h
  · cases h
  ·
   rename_i g2
   split at h
   · cases h
   ·
    rename_i g3
    exact ⟨dirE_zero (Decidable.byContradiction fun e => g1 e), by simpa using g2, List.eq_nil_of_length_eq_zero (by omega)⟩
theorem node_del_ne {T : Tr} {n m : Int} (h : m ≠ n) : (T.del n).node m = T.node m := by simp [Tr.node, Tr.del, h]
theorem del_cnt_lt {T : Tr} {n : Int} (h : T.cnt < 1000000) : (T.del n).cnt < 1000000 := by
 show (if (T.get n).isSome then T.cnt - 1 else T.cnt) < 1000000
 split
 · exact Nat.lt_of_le_of_lt (Nat.sub_le _ _) h
 · exact h
theorem cut_ok (p B : Nat) (T : Tr) (dir : Int) (s : ByteArray) (w : World) (h : TreeB w p B T) (hn : wf dir) (hl : (T.node dir).ents.length < 4294967296) (hR : Rt (T.node dir).ents) (hwn : wf (findE (T.node dir).ents s).1) (hcnt : T.cnt < 1000000) (he : cutE T dir s = 0) :
  Calls Try.prog 43 #[pT p, .int .i64 dir, .string s] w fun e w' => e = .returned (.int .i64 0) ∧ TreeB w' p B (cutT T dir s) ∧ Frm w w' p B := by
 obtain ⟨q1, q2, q3⟩ := cutE_zero he
 have hne : dir ≠ (findE (T.node dir).ents s).1 := by
  intro e
  rw [← e] at q3
  rw [q3] at q2
  cases q2
 have HD := qh (fun W h => dir_calls p T dir W h hn)
 rw [q1] at HD
 have HT := qh h
 have HLK := qh (fun W (h : TreeB W p B T) => h.look dir hn)
 have HLN := qh (fun W (h : TreeB W p B T) => h.look _ hwn)
 have HDEL := qh (fun W (h : TreeB W p B T) => h.drop _ hwn)
 have HLD := qh (fun W (h : TreeB W p B (T.del (findE (T.node dir).ents s).1)) => h.look dir hn)
 rw [node_del_ne hne] at HLD
 have HF := qh (fun W A c h hc => find_calls A c (T.node dir).ents s W h hc hl hR)
 rw [q2] at HF
 have HCU := qh (fun W A c h hc => entsCut_calls A c (T.node dir).ents s W h hc hl hR q2)
 have HENT := qh (fun v W h hv => enter_calls p B (T.del (findE (T.node dir).ents s).1) dir v (cutEn (T.node dir).ents s) W h hn hv (del_cnt_lt hcnt))
 have HCT := qh (show cutT T dir s = (T.del (findE (T.node dir).ents s).1).enter dir (cutEn (T.node dir).ents s) from rfl)
 clear h hl hR hn hwn he hcnt q1 q2 hne
 generalize (findE (T.node dir).ents s).1 = n at *
 generalize hx : T.node dir = x at *
 generalize hy : T.node n = y at *
 obtain ⟨k, u, d, l⟩ := x
 obtain ⟨kn, un, dn, ln⟩ := y
 simp only [] at *
 subst q3
 clear hx hy
 simp only [List.length_nil] at *
 go_enter Try.func43, Try.ntmps43
 go_upto_region 4 with (go_at_call 50; refine (HD.out _ HT.out.at_).mono ?_; rintro e w2 ⟨rfl, hb2⟩)
 have HT2 := qh (HT.out.below hb2)
 have c2 := HT2.out.cell0
 obtain ⟨A2, m2, hle2, hC2, hrun⟩ := HLK.out _ HT2.out
 have hrun2 := hrun _ (Below.refl _ _)
 have HC2 := qh hC2
 clear hrun hC2
 go_upto_region 5 with (go_at_call 39; refine (HF.out _ _ _ HC2.out hle2).mono ?_; rintro e w3 ⟨rfl, hb3⟩)
 have HT3 := qh (HT2.out.below hb3)
 have c3 := HT3.out.cell0
 obtain ⟨A3, m3, hle3, hC3, hrun⟩ := HLN.out _ HT3.out
 have hrun3 := hrun _ (Below.refl _ _)
 obtain ⟨w4, hdel, hT4, hF4⟩ := HDEL.out _ HT3.out
 have HT4 := qh hT4
 have HF4 := qh ((Frm.ofBelow (hb2.trans (hb3.mono hb2.size))).trans hF4)
 have c4 := HT4.out.cell0
 obtain ⟨A4, m4, hle4, hC4, hrun⟩ := HLD.out _ HT4.out
 have hrun4 := hrun _ (Below.refl _ _)
 have HC4 := qh hC4
 clear hrun hC3 hrun2 c2 hC4 hT4 hF4
 go_wp2_with (first | (go_at_call 54; refine (HCU.out _ _ _ HC4.out hle4).mono ?_; rintro e w5 ⟨v5, rfl, ho5, hb5⟩; have HT5 := qh (HT4.out.below hb5); have HE5 := qh (OwnE.entsAt ho5); clear ho5) | (go_at_call 53; refine (HENT.out _ _ HT5.out HE5.out).mono ?_; rintro e w6 ⟨rfl, hT6, hF6⟩))
 go_ret
 exact ⟨rfl, by rw [HCT.out]; exact hT6, (HF4.out.trans (Frm.ofBelow hb5)).trans hF6⟩
def setE (T : Tr) (n : Int) (data : ByteArray) : Int :=
 if (T.node n).kind = 0 then 5 else if (T.node n).kind = 1 then 8 else mayE (T.node n).kind data
def setT (T : Tr) (n : Int) (data : ByteArray) : Tr := T.set n { T.node n with data := data }
theorem set_err (p B : Nat) (T : Tr) (n : Int) (data : ByteArray) (w : World) (h : TreeB w p B T) (hn : wf n) (he : setE T n data ≠ 0) :
  Calls Try.prog 38 #[pT p, .int .i64 n, .string data] w fun e w' => e = .returned (.int .i64 (setE T n data)) ∧ Below w.heap.size w w' := by
 have HA := qh (fun W => at_calls p T n W)
 have HT := qh h
 have HN := qh hn
 clear h hn
 unfold setE at he ⊢
 generalize hx : T.node n = x at *
 obtain ⟨k, u, d, l⟩ := x
 clear hx
 unfold ndV at HA
 simp only [] at *
 have HM := qh (fun W => tree_may.calls 5 k data (mayE k data) W (may_f k data))
 by_cases h0 : k = 0
 ·
  subst h0
  rw [if_pos rfl]
  clear he
  go_enter Try.func38, Try.ntmps38
  go_wp2_with (go_at_call 57; refine (HA.out _ HT.out.at_ HN.out).mono ?_; rintro e w2 ⟨v2, rfl, ⟨A2, c2, rfl, hle2, hC2⟩, hb2⟩; clear hC2)
  go_ret
  exact ⟨rfl, hb2.alloc hb2.size _⟩
 ·
  rw [if_neg h0] at he ⊢
  have b0 : (k == 0) = false := beq_eq_false_iff_ne.2 h0
  by_cases h1 : k = 1
  ·
   subst h1
   rw [if_pos rfl]
   clear he
   go_enter Try.func38, Try.ntmps38
   go_wp2_with (go_at_call 57; refine (HA.out _ HT.out.at_ HN.out).mono ?_; rintro e w2 ⟨v2, rfl, ⟨A2, c2, rfl, hle2, hC2⟩, hb2⟩; clear hC2)
   go_ret
   exact ⟨rfl, hb2.alloc hb2.size _⟩
  ·
   rw [if_neg h1] at he ⊢
   have b1 : (k == 1) = false := beq_eq_false_iff_ne.2 h1
   have b2 : (mayE k data != 0) = true := bne_iff_ne.2 he
   generalize mayE k data = q at *
   clear he
   go_enter Try.func38, Try.ntmps38
   go_wp2_with (first | (go_at_call 57; refine (HA.out _ HT.out.at_ HN.out).mono ?_; rintro e w2 ⟨v2, rfl, ⟨A2, c2, rfl, hle2, hC2⟩, hb2⟩; clear hC2; have hb3 := hb2.alloc hb2.size (.cells #[.int .i64 k, .int .i64 u, .string d, .slice A2 l.length c2] 73)) | (go_at_call 58; refine (HM.out _).mono ?_; rintro e w5 ⟨rfl, hd5⟩; have hb5 := hd5.below))
   go_ret
   exact ⟨rfl, hb3.trans (hb5.mono hb3.size)⟩
theorem setE_zero {T : Tr} {n : Int} {data : ByteArray} (h : setE T n data = 0) : (T.node n).kind ≠ 0 ∧ (T.node n).kind ≠ 1 ∧ mayE (T.node n).kind data = 0 := by
 unfold setE at h
 split at h
 · cases h
 ·
  split at h
  · cases h
  · exact ⟨by assumption, by assumption, h⟩
theorem set_ok (p B : Nat) (T : Tr) (n : Int) (data : ByteArray) (w : World) (h : TreeB w p B T) (hn : wf n) (hcnt : T.cnt < 1000000) (he : setE T n data = 0) :
  Calls Try.prog 38 #[pT p, .int .i64 n, .string data] w fun e w' => e = .returned (.int .i64 0) ∧ TreeB w' p B (setT T n data) ∧ Frm w w' p B := by
 obtain ⟨q1, q2, q3⟩ := setE_zero he
 have HA := qh (fun W => at_calls p T n W)
 have HT := qh h
 have HN := qh hn
 have HST := qh (fun W s (h : TreeB W p B T) (hs : EntsAt W s (T.node n).ents) => h.store n hn { T.node n with data := data } s hs hcnt)
 have HM := qh (fun W => tree_may.calls 5 (T.node n).kind data _ W (may_f (T.node n).kind data))
 have HCT := qh (show setT T n data = T.set n { T.node n with data := data } from rfl)
 rw [q3] at HM
 clear h hn he q3 hcnt
 generalize hx : T.node n = x at *
 obtain ⟨k, u, d, l⟩ := x
 clear hx
 unfold ndV at HA HST
 simp only [] at *
 have b0 : (k == 0) = false := beq_eq_false_iff_ne.2 q1
 have b1 : (k == 1) = false := beq_eq_false_iff_ne.2 q2
 clear q1 q2
 go_enter Try.func38, Try.ntmps38
 go_upto_region 2 with (go_at_call 57; refine (HA.out _ HT.out.at_ HN.out).mono ?_; rintro e w2 ⟨v2, rfl, ⟨A2, c2, rfl, hle2, hC2⟩, hb2⟩; have HE2 := qh (show EntsAt w2 (.slice A2 l.length c2) l from ⟨A2, c2, rfl, hle2, hC2⟩); clear hC2)
 have h3 := heap_alloc_new w2 (.cells #[.int .i64 k, .int .i64 u, .string d, .slice A2 l.length c2] 73)
 have hb3 := (Below.refl _ w2).alloc (Nat.le_refl _) (.cells #[.int .i64 k, .int .i64 u, .string d, .slice A2 l.length c2] 73)
 have HG := qh (show w2.heap.size = w2.heap.size from rfl)
 generalize w2.alloc (.cells #[.int .i64 k, .int .i64 u, .string d, .slice A2 l.length c2] 73) = w3 at h3 hb3 ⊢
 generalize hge : w2.heap.size = g at h3 ⊢
 have hgs : w2.heap.size ≤ g := by omega
 have HT2 := qh (HT.out.below hb2)
 have HB2 := qh hb2
 have HB3 := qh hb3
 have HGS := qh hgs
 clear hgs hb2
 have x0 : w3.cell? ⟨g, 0, none⟩ = some (.int .i64 k) := by rw [blk_cell h3]; rfl
 have H3 := qh h3
 have hgl := blk_lt h3
 clear h3 hge hb3
 go_upto_region 9 with (go_at_call 58; refine (HM.out _).mono ?_; rintro e w5 ⟨rfl, hd5⟩; have hb5 := hd5.below)
 have h5 := (hb5.block g hgl).trans H3.out
 have HB5 := qh (HB3.out.trans (hb5.mono HB3.out.size))
 have H5 := qh h5
 have f2 := blk_frozen h5 2
 have y2 : w5.cell? ⟨g, 2, none⟩ = some (.string d) := by rw [blk_cell h5]; rfl
 clear h5 x0 hb5 hd5
 go_upto_region 12 with (fail)
 have h6 := blk_set H5.out 2 (.string data)
 have hb6 : Below w2.heap.size w2 (w5.setCell ⟨g, 2, none⟩ (.string data)) := HB5.out.setCell HGS.out _
 generalize w5.setCell ⟨g, 2, none⟩ (.string data) = w6 at h6 hb6 ⊢
 have hT6 := HT2.out.below (below_drew hb6)
 have hE6 := HE2.out.below (below_drew hb6)
 obtain ⟨w7, hup, hT7, hF7⟩ := HST.out w6.drew _ hT6 hE6
 have h6' : w6.drew.heap[g]? = some (.cells #[.int .i64 k, .int .i64 u, .string data, .slice A2 l.length c2] 73 (0, 0)) := h6
 have x0 : w6.drew.cell? ⟨g, 0, none⟩ = some (.int .i64 k) := by rw [blk_cell h6']; rfl
 have x1 : w6.drew.cell? ⟨g, 1, none⟩ = some (.int .i64 u) := by rw [blk_cell h6']; rfl
 have x2 : w6.drew.cell? ⟨g, 2, none⟩ = some (.string data) := by rw [blk_cell h6']; rfl
 have x3 : w6.drew.cell? ⟨g, 3, none⟩ = some (.slice A2 l.length c2) := by rw [blk_cell h6']; rfl
 have d0 : w6.drew.cell? ⟨p, 0, none⟩ = some (.map (some B)) := hT6.cell0
 have HTT := qh hT7
 have HFF := qh (((Frm.ofBelow HB2.out).trans (Frm.ofBelow (below_drew hb6))).trans hF7)
 clear hT7 hF7 hT6 hE6 h6 h6' hb6 y2 f2
 go_region
 go_wp2
 go_ret
 exact ⟨rfl, by rw [HCT.out]; exact HTT.out, HFF.out⟩
def beginE (s : ByteArray) : Int := if s.toList = [] then 5 else if s.size > 1024 then 11 else 0
theorem begin_calls (p : Nat) (s : ByteArray) (w : World) : Calls Try.prog 45 #[pT p, .string s] w fun e w' => e = .returned (.int .i64 (beginE s)) ∧ w = w' := by
 obtain ⟨r, hr⟩ : ∃ r, r = beginE s := ⟨_, rfl⟩
 rw [← hr]
 unfold beginE at hr
 by_cases h : s.toList = []
 ·
  rw [if_pos h] at hr
  have HR := qh hr
  have b1 : (s.toList == []) = true := by rw [h]; rfl
  clear hr h
  go_enter Try.func45, Try.ntmps45
  go_wp2
  go_ret
  exact ⟨by rw [HR.out]; rfl, rfl⟩
 ·
  rw [if_neg h] at hr
  have b1 : (s.toList == []) = false := by simpa using h
  have b2 : s.toList.isEmpty = false := by simpa using h
  by_cases h2 : s.size > 1024
  ·
   rw [if_pos h2] at hr
   have HR := qh hr
   have d1 : decide (1024 < (s.size : Int)) = true := decide_eq_true (by omega)
   have d2 : decide (1024 < s.size) = true := decide_eq_true (by omega)
   clear hr h h2
   go_enter Try.func45, Try.ntmps45
   go_wp2
   go_ret
   exact ⟨by rw [HR.out]; rfl, rfl⟩
  ·
   rw [if_neg h2] at hr
   have HR := qh hr
   have d1 : decide (1024 < (s.size : Int)) = false := decide_eq_false (by omega)
   have d2 : decide (1024 < s.size) = false := decide_eq_false (by omega)
   clear hr h h2
   go_enter Try.func45, Try.ntmps45
   go_wp2
   go_ret
   exact ⟨by rw [HR.out]; rfl, rfl⟩
structure Wk (w : World) (g p : Nat) (at_ hops : Int) (l : List ByteArray) (A : Option Addr) (c : Nat) : Prop where
 blk : w.heap[g]? = some (.cells #[pT p, .int .i64 at_, .int .i64 hops, .slice A l.length c] 80 (0, 0))
 row : Kd.C Kd.string w A l.length l
 cap : l.length ≤ c
theorem Wk.below {w w' : World} {g p : Nat} {a h : Int} {l : List ByteArray} {A : Option Addr} {c : Nat} (k : Wk w g p a h l A c) (hb : Below w.heap.size w w') : Wk w' g p a h l A c :=
 ⟨(hb.block _ (blk_lt k.blk)).trans k.blk, Kd.C_below k.row hb, k.cap⟩
theorem Wk.cells {w : World} {g p : Nat} {a h : Int} {l : List ByteArray} {A : Option Addr} {c : Nat} (k : Wk w g p a h l A c) :
  w.cell? ⟨g, 0, none⟩ = some (pT p) ∧ w.cell? ⟨g, 1, none⟩ = some (.int .i64 a) ∧ w.cell? ⟨g, 2, none⟩ = some (.int .i64 h) ∧ w.cell? ⟨g, 3, none⟩ = some (.slice A l.length c) := by
 refine ⟨?_, ?_, ?_, ?_⟩ <;> (rw [blk_cell k.blk]; rfl)
def small (T : Tr) : Prop := ∀ n x, T.get n = some x → x.ents.length < 4294967296
def sorted (T : Tr) : Prop := ∀ n x, T.get n = some x → Rt x.ents
theorem small.node {T : Tr} (h : small T) (n : Int) : (T.node n).ents.length < 4294967296 := by
 unfold Tr.node; cases hx : T.get n with
 | none => exact (by decide : (0 : Nat) < 4294967296)
 | some x => exact h n x hx
theorem sorted.node {T : Tr} (h : sorted T) (n : Int) : Rt (T.node n).ents := by
 unfold Tr.node; cases hx : T.get n with
 | none => exact List.Pairwise.nil
 | some x => exact h n x hx
def downT (T : Tr) (at_ : Int) (s : ByteArray) : Int × Int :=
 if Sp.check s.data.toList = 0 then (if (findE (T.node at_).ents s).2 = true then ((findE (T.node at_).ents s).1, 0) else (0, 5)) else (0, Sp.check s.data.toList)
theorem TreeAt.drewN {w : World} {p : Nat} {T : Tr} (h : TreeAt w p T) (n : Nat) : TreeAt (w.drewN n) p T := h.below (pw_below_drewN (Below.refl _ _) n)
theorem TreeAt.drew {w : World} {p : Nat} {T : Tr} (h : TreeAt w p T) : TreeAt w.drew p T := h.below (below_drew (Below.refl _ _))
theorem down_calls (g p : Nat) (T : Tr) (a h : Int) (l : List ByteArray) (A : Option Addr) (c : Nat) (s : ByteArray) (w : World) (hT : TreeAt w p T) (hk : Wk w g p a h l A c) (hs : small T) (hR : sorted T) (hn : wf a) (hz : s.size < 4294967281) :
  Calls Try.prog 65 #[.pointer (some ⟨g, 0, none⟩), .string s] w fun e w' => e = .returned (.tuple #[.int .i64 (downT T a s).1, .int .i64 (downT T a s).2]) ∧ Below w.heap.size w w' := by
 obtain ⟨c0, c1, -, -⟩ := hk.cells
 have hlt := blk_lt hk.blk
 have HT := qh hT
 have HC := qh (fun W => name_Check.calls s (Sp.check s.data.toList) W (by rw [name_Check.f, if_pos hz]))
 have HL := qh (fun W (h : TreeAt W p T) => list_calls p T a W h hn (hs.node a))
 have HF := qh (fun W A c h hc => find_calls A c (T.node a).ents s W h hc (hs.node a) (hR.node a))
 unfold downT
 generalize (T.node a).ents = es at HL HF ⊢
 generalize hck : Sp.check s.data.toList = ck at HC ⊢
 by_cases h0 : ck = 0
 ·
  subst h0
  rw [if_pos rfl]
  clear hck hT hk
  generalize hfe : findE es s = fe at HF ⊢
  obtain ⟨fn, fb⟩ := fe
  clear hfe
  go_enter Try.func65, Try.ntmps65
  go_upto_region 4 with (go_at_call 49; refine (HC.out _).mono ?_; rintro e w2 ⟨rfl, hb⟩)
  have TT := qh (HT.out.below hb)
  have d0 := pw_cell_below hb c0
  have d1 := pw_cell_below hb c1
  have g2 : g < w2.heap.size := Nat.lt_of_lt_of_le hlt hb.size
  have HB := qh hb
  clear hb c0 c1
  go_region_held3 (fun w' => w'.cell? ⟨g, 0, none⟩ = some (pT p) ∧ w'.cell? ⟨g, 1, none⟩ = some (.int .i64 a)) (first | (go_keep; done) | (exact ⟨(hb3.cell (p := ⟨g, 0, none⟩) g2).trans d0, (hb3.cell (p := ⟨g, 1, none⟩) g2).trans d1⟩) | (exact ⟨(hb4.cell (p := ⟨g, 0, none⟩) g3).trans e0, (hb4.cell (p := ⟨g, 1, none⟩) g3).trans e1⟩))
   (first | (go_at_call 40; refine (HL.out _ (by first | exact TT.out | exact TT.out.drew | exact TT.out.drewN _)).mono ?_; rintro e w3 ⟨v, rfl, ho, hb3⟩; obtain ⟨A3, c3, rfl, hl3, hC3⟩ := Kd.R_reads ho; have HC3 := qh hC3; have g3 : g < w3.heap.size := Nat.lt_of_lt_of_le g2 hb3.size; have e0 := (hb3.cell (p := ⟨g, 0, none⟩) g2).trans d0; have e1 := (hb3.cell (p := ⟨g, 1, none⟩) g2).trans d1; clear ho hC3) | (go_at_call 39; refine (HF.out _ _ _ (by first | exact HC3.out) hl3).mono ?_; rintro e w4 ⟨rfl, hb4⟩))
  have HZ := qh (((below_drew HB.out).trans (hb3.mono HB.out.size)).trans (hb4.mono (Nat.le_trans HB.out.size hb3.size)))
  clear hb3 hb4 e0 e1 d0 d1
  cases fb with
  | false =>
   go_wp2
   go_ret2
   exact ⟨rfl, HZ.out⟩
  | true =>
   go_wp2
   go_ret2
   exact ⟨rfl, HZ.out⟩
 ·
  rw [if_neg h0]
  have b1 : (ck != 0) = true := bne_iff_ne.2 h0
  clear hck hT hk HL HF HT c0 c1
  go_enter Try.func65, Try.ntmps65
  go_wp2_with (go_at_call 49; refine (HC.out _).mono ?_; rintro e w2 ⟨rfl, hb⟩)
  go_ret2
  exact ⟨rfl, hb⟩
def slashB (s : ByteArray) : Bool := Lib.hasPrefix s.data.toList [47]
def partsB (s : ByteArray) : List ByteArray := bs (Sp.parts s.data.toList)
theorem room_len (l : List (List UInt8)) : l.length ≤ Sp.room l := by
 induction l with
 | nil => simp
 | cons x l ih => rw [Sp.room_cons, List.length_cons]; omega
theorem partsB_len (s : ByteArray) (hz : s.size < 4294967281) : (partsB s).length ≤ 4294967282 := by
 have h1 := Sp.parts_room s.data.toList
 have h2 := room_len (Sp.parts s.data.toList)
 unfold partsB
 rw [bs_len]
 rw [← Sp.size_eq] at h1
 omega
theorem infoS : (Try.prog.info? 9).map (fun i => (i.zero, i.size, i.bytes)) = some (some (.string ⟨#[]⟩), 1, 16) := by kernel_rfl
theorem row_keep {w : World} {g p n c' : Nat} {a h : Int} {l : List ByteArray} {A A' : Option Addr} (kb : w.heap[g]? = some (.cells #[pT p, .int .i64 a, .int .i64 h, .slice A' n c'] 80 (0, 0))) (row : Kd.C Kd.string w A l.length l) (W : World) (hr : ∀ i, i ≠ g → W.heap[i]? = w.heap[i]?) : Kd.C Kd.string W A l.length l := by
 refine ⟨row.1, row.2.1, fun hn => ?_⟩
 obtain ⟨ad, e, hc⟩ := row.2.2 hn
 refine ⟨ad, e, fun j x hj => ?_⟩
 obtain ⟨cs, h1, h2, h3⟩ := hc j x hj
 refine ⟨cs, h1, h2, fun i u hu => ?_⟩
 have h4 := h3 i u hu
 have hs : u = .string x := by
  have h2' : cs = [Value.string x] := h2
  rw [h2'] at hu
  cases i with
  | zero => simpa using hu.symm
  | succ i => simp at hu
 have hne : (ad.add (j * Kd.string.sz + i)).block ≠ g := by
  intro eg
  unfold World.cell? at h4
  rw [eg, kb] at h4
  simp only [] at h4
  split at h4
  · cases h4
  ·
   subst hs
   have := List.mem_of_getElem? (l := [pT p, .int .i64 a, .int .i64 h, .slice A' n c']) (by simpa using h4)
   simp at this
 unfold World.cell? at h4 ⊢
 rw [hr _ hne]
 exact h4
theorem Wk.set1 {w : World} {g p : Nat} {a h : Int} {l : List ByteArray} {A : Option Addr} {c : Nat} (k : Wk w g p a h l A c) (a' : Int) : Wk (w.setCell ⟨g, 1, none⟩ (.int .i64 a')) g p a' h l A c :=
 ⟨blk_set k.blk 1 _, row_keep k.blk k.row _ (fun i hi => Below.heap_setCell w ⟨g, 1, none⟩ _ i (fun e => hi e)), k.cap⟩
theorem Wk.set2 {w : World} {g p : Nat} {a h : Int} {l : List ByteArray} {A : Option Addr} {c : Nat} (k : Wk w g p a h l A c) (h' : Int) : Wk (w.setCell ⟨g, 2, none⟩ (.int .i64 h')) g p a h' l A c :=
 ⟨blk_set k.blk 2 _, row_keep k.blk k.row _ (fun i hi => Below.heap_setCell w ⟨g, 2, none⟩ _ i (fun e => hi e)), k.cap⟩
theorem Wk.drew {w : World} {g p : Nat} {a h : Int} {l : List ByteArray} {A : Option Addr} {c : Nat} (k : Wk w g p a h l A c) : Wk w.drew g p a h l A c := k.below (below_drew (Below.refl _ _))
theorem follow_yes (B : Nat) (w0 : World) (g p : Nat) (a h : Int) (l : List ByteArray) (A : Option Addr) (c : Nat) (s : ByteArray) (w : World) (hk : Wk w g p a h l A c) (hB : Below B w0 w) (hg : B ≤ g) (hz : s.size < 4294967281) (hl : l.length < 4294967281) (h0 : 0 ≤ h) (h40 : h < 40) (hsl : slashB s = false) :
  Calls Try.prog 66 #[.pointer (some ⟨g, 0, none⟩), .string s] w fun e w' => e = .returned (.int .i64 0) ∧ (∃ A' c', Wk w' g p a (h + 1) (partsB s ++ l) A' c') ∧ Below B w0 w' := by
 obtain ⟨c0, c1, c2, c3⟩ := hk.cells
 have f2 := blk_frozen hk.blk 2
 have f3 := blk_frozen hk.blk 3
 have hlt := blk_lt hk.blk
 have HP := qh (fun W => path_Parts.calls s (partsB s) W (by rw [path_Parts.f, if_pos hz]; rfl))
 have HH := qh (fun W => Try.strings_HasPrefix s ⟨#[47]⟩ W)
 have hsl' : Lib.hasPrefix s.data.toList (⟨#[47]⟩ : ByteArray).data.toList = false := hsl
 rw [hsl'] at HH
 clear hsl hsl'
 have HPL := qh (partsB_len s hz)
 have d1 : decide (40 < h + 1) = false := decide_eq_false (by omega)
 have e1 : IntKind.i64.wrap (h + 1) = h + 1 := IntWalk.i64_in _ (by omega)
 go_enter Try.func66, Try.ntmps66
 go_upto_region 6 with (go_at_call 78; refine (HH.out _).mono ?_; rintro e w2 ⟨rfl, hw⟩; rw [hw]; clear hw)
 have hk2 := hk.set2 (h + 1)
 have hB2 : Below B w0 (w.setCell ⟨g, 2, none⟩ (.int .i64 (h + 1))) := hB.setCell hg _
 generalize w.setCell ⟨g, 2, none⟩ (.int .i64 (h + 1)) = w2 at hk2 hB2 ⊢
 obtain ⟨-, -, -, d3⟩ := hk2.cells
 have g3 := blk_frozen hk2.blk 3
 have g2 := blk_lt hk2.blk
 have HK := qh hk2
 have HB := qh hB2
 clear hk hB hk2 hB2 c0 c1 c2 c3 f2 f3 HH d1 e1
 go_region_law (first | (refine Kd.R_append_rows_step Kd.string (w0 := w3) w2.heap.size (by simp [Region.wanted]) (.tmp 24) (.tmp 28) 75 9 (.string ⟨#[]⟩) 16 rfl Try.underlying75 infoS rfl (by decide) (by omega) v (partsB s) l A l.length c (fun _ => True) (fun _ => False) (by rfl) (by rfl) HO.out HK3.out.row (fun _ _ h => h) (fun _ h => h.elim) (fun _ _ => trivial) (Below.refl _ _) hw3 (by have := HPL.out; omega) ?_; intro v1 w4 ho4 hb4 hg4 hat4; obtain ⟨A1, c1, rfl, hl1, hC1⟩ := Kd.R_reads ho4; have k4 := blk_grown HK3.out.blk hg4 HNE.out; have x4 : w4.cell? ⟨g, 3, none⟩ = some (.slice A l.length c) := (by rw [blk_cell k4]; rfl); have f4 := blk_frozen k4 3; have HK4 := qh k4; have HC1 := qh hC1; have HG4 := qh hg4; clear k4 ho4 hC1 hg4 hat4) | (go_simp; go_at_call 46; refine (HP.out _).mono ?_; rintro e w3 ⟨v, rfl, ho, hb3⟩; have hw3 : w2.heap.size ≤ w3.heap.size := hb3.size; have HK3 := qh (HK.out.drew.below hb3); have HB3 := qh ((below_drew HB.out).trans (hb3.mono (Nat.le_of_lt (Nat.lt_of_le_of_lt hg g2)))); have HO := qh ho; have HNE := qh (show some g ≠ v.ownBlock from fun e => by have := (Kd.R_bound ho).1 g e.symm; have := this.2.1; simp at this; omega); have x3 : w3.cell? ⟨g, 3, none⟩ = some (.slice A l.length c) := (hb3.cell (p := ⟨g, 3, none⟩) g2).trans d3; have y3 : w3.frozen? ⟨g, 3, none⟩ = false := blk_frozen HK3.out.blk 3; clear ho))
 all_goals
  have hW : Wk (w4.setCell ⟨g, 3, none⟩ (.slice A1 ((partsB s).length + l.length) c1)) g p a (h + 1) (partsB s ++ l) A1 c1 :=
   ⟨by rw [List.length_append]; exact blk_set HK4.out 3 _, row_keep HK4.out HC1.out _ (fun i hi => Below.heap_setCell w4 ⟨g, 3, none⟩ _ i (fun e => hi e)), hl1⟩
  have hZ : Below B w0 (w4.setCell ⟨g, 3, none⟩ (.slice A1 ((partsB s).length + l.length) c1)) := (HB3.out.trans (hb4.mono (Nat.le_of_lt (Nat.lt_of_le_of_lt hg g2)))).setCell hg _
  generalize w4.setCell ⟨g, 3, none⟩ (.slice A1 ((partsB s).length + l.length) c1) = w5 at hW hZ ⊢
  have HW := qh hW
  clear hW x4 f4 x3 y3 hl1 d3 g3
  go_simp
  go_wp2
  go_ret
  exact ⟨rfl, ⟨A1, c1, HW.out⟩, hZ⟩
theorem follow_root (B : Nat) (w0 : World) (g p : Nat) (a h : Int) (l : List ByteArray) (A : Option Addr) (c : Nat) (s : ByteArray) (w : World) (hk : Wk w g p a h l A c) (hB : Below B w0 w) (hg : B ≤ g) (hz : s.size < 4294967281) (hl : l.length < 4294967281) (h0 : 0 ≤ h) (h40 : h < 40) (hsl : slashB s = true) :
  Calls Try.prog 66 #[.pointer (some ⟨g, 0, none⟩), .string s] w fun e w' => e = .returned (.int .i64 0) ∧ (∃ A' c', Wk w' g p 1 (h + 1) (partsB s ++ l) A' c') ∧ Below B w0 w' := by
 obtain ⟨c0, c1, c2, c3⟩ := hk.cells
 have f2 := blk_frozen hk.blk 2
 have f3 := blk_frozen hk.blk 3
 have f1 := blk_frozen hk.blk 1
 have hlt := blk_lt hk.blk
 have HP := qh (fun W => path_Parts.calls s (partsB s) W (by rw [path_Parts.f, if_pos hz]; rfl))
 have HH := qh (fun W => Try.strings_HasPrefix s ⟨#[47]⟩ W)
 have hsl' : Lib.hasPrefix s.data.toList (⟨#[47]⟩ : ByteArray).data.toList = true := hsl
 rw [hsl'] at HH
 clear hsl hsl'
 have HPL := qh (partsB_len s hz)
 have d1 : decide (40 < h + 1) = false := decide_eq_false (by omega)
 have e1 : IntKind.i64.wrap (h + 1) = h + 1 := IntWalk.i64_in _ (by omega)
 go_enter Try.func66, Try.ntmps66
 go_upto_region 6 with (go_at_call 78; refine (HH.out _).mono ?_; rintro e w2 ⟨rfl, hw⟩; rw [hw]; clear hw)
 have hk2 := (hk.set2 (h + 1)).set1 1
 have hB2 : Below B w0 ((w.setCell ⟨g, 2, none⟩ (.int .i64 (h + 1))).setCell ⟨g, 1, none⟩ (.int .i64 1)) := (hB.setCell (p := ⟨g, 2, none⟩) hg _).setCell (p := ⟨g, 1, none⟩) hg _
 generalize (w.setCell ⟨g, 2, none⟩ (.int .i64 (h + 1))).setCell ⟨g, 1, none⟩ (.int .i64 1) = w2 at hk2 hB2 ⊢
 obtain ⟨-, -, -, d3⟩ := hk2.cells
 have g3 := blk_frozen hk2.blk 3
 have g2 := blk_lt hk2.blk
 have HK := qh hk2
 have HB := qh hB2
 clear hk hB hk2 hB2 c0 c1 c2 c3 f1 f2 f3 HH d1 e1
 go_region_law (first | (refine Kd.R_append_rows_step Kd.string (w0 := w3) w2.heap.size (by simp [Region.wanted]) (.tmp 24) (.tmp 28) 75 9 (.string ⟨#[]⟩) 16 rfl Try.underlying75 infoS rfl (by decide) (by omega) v (partsB s) l A l.length c (fun _ => True) (fun _ => False) (by rfl) (by rfl) HO.out HK3.out.row (fun _ _ h => h) (fun _ h => h.elim) (fun _ _ => trivial) (Below.refl _ _) hw3 (by have := HPL.out; omega) ?_; intro v1 w4 ho4 hb4 hg4 hat4; obtain ⟨A1, c1, rfl, hl1, hC1⟩ := Kd.R_reads ho4; have k4 := blk_grown HK3.out.blk hg4 HNE.out; have x4 : w4.cell? ⟨g, 3, none⟩ = some (.slice A l.length c) := (by rw [blk_cell k4]; rfl); have f4 := blk_frozen k4 3; have HK4 := qh k4; have HC1 := qh hC1; have HG4 := qh hg4; clear k4 ho4 hC1 hg4 hat4) | (go_simp; go_at_call 46; refine (HP.out _).mono ?_; rintro e w3 ⟨v, rfl, ho, hb3⟩; have hw3 : w2.heap.size ≤ w3.heap.size := hb3.size; have HK3 := qh (HK.out.drew.below hb3); have HB3 := qh ((below_drew HB.out).trans (hb3.mono (Nat.le_of_lt (Nat.lt_of_le_of_lt hg g2)))); have HO := qh ho; have HNE := qh (show some g ≠ v.ownBlock from fun e => by have := (Kd.R_bound ho).1 g e.symm; have := this.2.1; simp at this; omega); have x3 : w3.cell? ⟨g, 3, none⟩ = some (.slice A l.length c) := (hb3.cell (p := ⟨g, 3, none⟩) g2).trans d3; have y3 : w3.frozen? ⟨g, 3, none⟩ = false := blk_frozen HK3.out.blk 3; clear ho))
 all_goals
  have hW : Wk (w4.setCell ⟨g, 3, none⟩ (.slice A1 ((partsB s).length + l.length) c1)) g p 1 (h + 1) (partsB s ++ l) A1 c1 :=
   ⟨by rw [List.length_append]; exact blk_set HK4.out 3 _, row_keep HK4.out HC1.out _ (fun i hi => Below.heap_setCell w4 ⟨g, 3, none⟩ _ i (fun e => hi e)), hl1⟩
  have hZ : Below B w0 (w4.setCell ⟨g, 3, none⟩ (.slice A1 ((partsB s).length + l.length) c1)) := (HB3.out.trans (hb4.mono (Nat.le_of_lt (Nat.lt_of_le_of_lt hg g2)))).setCell hg _
  generalize w4.setCell ⟨g, 3, none⟩ (.slice A1 ((partsB s).length + l.length) c1) = w5 at hW hZ ⊢
  have HW := qh hW
  clear hW x4 f4 x3 y3 hl1 d3 g3
  go_simp
  go_wp2
  go_ret
  exact ⟨rfl, ⟨A1, c1, HW.out⟩, hZ⟩
theorem follow_no (B : Nat) (w0 : World) (g p : Nat) (a h : Int) (l : List ByteArray) (A : Option Addr) (c : Nat) (s : ByteArray) (w : World) (hk : Wk w g p a h l A c) (hB : Below B w0 w) (hg : B ≤ g) (h0 : 40 ≤ h) (h40 : h < 100) :
  Calls Try.prog 66 #[.pointer (some ⟨g, 0, none⟩), .string s] w fun e w' => e = .returned (.int .i64 10) ∧ Below B w0 w' := by
 obtain ⟨c0, c1, c2, c3⟩ := hk.cells
 have f2 := blk_frozen hk.blk 2
 have d1 : decide (40 < h + 1) = true := decide_eq_true (by omega)
 have e1 : IntKind.i64.wrap (h + 1) = h + 1 := IntWalk.i64_in _ (by omega)
 go_enter Try.func66, Try.ntmps66
 go_wp2
 go_ret
 exact ⟨rfl, hB.setCell hg _⟩
def FPost (B : Nat) (w0 : World) (g p : Nat) (a h : Int) (l : List ByteArray) (s : ByteArray) (w' : World) : Prop := (h < 40 → ∃ A' c', Wk w' g p (if slashB s = true then 1 else a) (h + 1) (partsB s ++ l) A' c') ∧ Below B w0 w'
theorem follow_calls (B : Nat) (w0 : World) (g p : Nat) (a h : Int) (l : List ByteArray) (A : Option Addr) (c : Nat) (s : ByteArray) (w : World) (hk : Wk w g p a h l A c) (hB : Below B w0 w) (hg : B ≤ g) (hz : s.size < 4294967281) (hl : l.length < 4294967281) (h0 : 0 ≤ h) (h40 : h ≤ 40) :
  Calls Try.prog 66 #[.pointer (some ⟨g, 0, none⟩), .string s] w fun e w' => e = .returned (.int .i64 (if 40 ≤ h then 10 else 0)) ∧ FPost B w0 g p a h l s w' := by
 by_cases h4 : 40 ≤ h
 ·
  rw [if_pos h4]
  refine (follow_no B w0 g p a h l A c s w hk hB hg h4 (by omega)).mono ?_
  rintro e w' ⟨rfl, hb⟩
  exact ⟨rfl, fun h => absurd h (by omega), hb⟩
 ·
  rw [if_neg h4]
  cases hs : slashB s with
  | false =>
   refine (follow_yes B w0 g p a h l A c s w hk hB hg hz hl h0 (by omega) hs).mono ?_
   rintro e w' ⟨rfl, hw, hb⟩
   exact ⟨rfl, fun _ => by rw [hs, if_neg (by simp)]; exact hw, hb⟩
  | true =>
   refine (follow_root B w0 g p a h l A c s w hk hB hg hz hl h0 (by omega) hs).mono ?_
   rintro e w' ⟨rfl, hw, hb⟩
   exact ⟨rfl, fun _ => by rw [hs, if_pos rfl]; exact hw, hb⟩
structure TrOK (T : Tr) : Prop where
 sorted : sorted T
 small : small T
 up : ∀ n x, T.get n = some x → wf x.up
 num : ∀ n x, T.get n = some x → ∀ e ∈ x.ents, wf e.f1
 data : ∀ n x, T.get n = some x → x.data.size ≤ 65536
theorem wf0 : wf 0 := rfl
theorem wf1 : wf 1 := rfl
theorem TrOK.wf_up {T : Tr} (h : TrOK T) (n : Int) : wf (T.node n).up := by
 unfold Tr.node; cases hx : T.get n with
 | none => exact wf0
 | some x => exact h.up n x hx
theorem TrOK.sz {T : Tr} (h : TrOK T) (n : Int) : (T.node n).data.size ≤ 65536 := by
 unfold Tr.node; cases hx : T.get n with
 | none => exact (by decide : (0 : Nat) ≤ 65536)
 | some x => exact h.data n x hx
theorem TrOK.wf_find {T : Tr} (h : TrOK T) (n : Int) (s : ByteArray) : wf (findE (T.node n).ents s).1 := by
 unfold findE
 split
 ·
  rename_i e he
  have hm := List.mem_of_find?_eq_some he
  unfold Tr.node at hm
  cases hx : T.get n with
  | none => rw [hx] at hm; cases hm
  | some x => rw [hx] at hm; exact h.num n x hx e hm
 · exact wf0
theorem TrOK.wf_down {T : Tr} (h : TrOK T) (n : Int) (s : ByteArray) : wf (downT T n s).1 := by
 unfold downT
 split
 ·
  split
  · exact h.wf_find n s
  · exact wf0
 · exact wf0
theorem partsB_len' (s : ByteArray) : (partsB s).length ≤ s.size + 1 := by
 have h1 := Sp.parts_room s.data.toList
 have h2 := room_len (Sp.parts s.data.toList)
 unfold partsB
 rw [bs_len]
 rw [← Sp.size_eq] at h1
 omega
theorem room_mem {x : List UInt8} : ∀ {l : List (List UInt8)}, x ∈ l → x.length + 1 ≤ Sp.room l
 | y :: l, h => by
  rw [Sp.room_cons]
  rcases List.mem_cons.1 h with rfl | h
  · omega
  · have := room_mem h; omega
theorem partsB_sz (s : ByteArray) : ∀ x ∈ partsB s, x.size ≤ s.size := by
 intro x hx
 obtain ⟨y, hy, rfl⟩ := List.mem_map.1 hx
 have h1 := Sp.parts_room s.data.toList
 have h2 := room_mem hy
 rw [← Sp.size_eq] at h1
 rw [Sp.mk_size]
 omega
def walkF (T : Tr) (last : Bool) : Nat → Int → Int → List ByteArray → Option (Int × Int)
 | 0, _, _, _ => none
 | _ + 1, a, _, [] => some (a, 0)
 | k + 1, a, h, s :: l =>
  if (T.node a).kind ≠ 1 then some (a, 7)
  else if s.toList = [46, 46] then walkF T last k (T.node a).up h l
  else if (downT T a s).2 ≠ 0 then some (a, (downT T a s).2)
  else if (T.node (downT T a s).1).kind ≠ 3 ∨ (l = [] ∧ last = false) then walkF T last k (downT T a s).1 h l
  else if 40 ≤ h then some (a, 10)
  else walkF T last k (if slashB (T.node (downT T a s).1).data = true then 1 else a) (h + 1) (partsB (T.node (downT T a s).1).data ++ l)
theorem cut1 (A : Option Addr) (c : Nat) (l : List ByteArray) (h1 : 1 ≤ l.length) (hc : l.length ≤ c) :
  ∃ A' : Option Addr, (∀ W : World, (Instr.slice 75 (.slice A l.length c) (some (.int .i64 1)) none none).run Try.prog W = .ok (.slice A' (l.length - 1) (c - 1)) W) ∧ ∀ w : World, Kd.C Kd.string w A l.length l → Kd.C Kd.string w A' (l.drop 1).length (l.drop 1) := by
 refine ⟨if c = 1 then A else A.map (·.add (1 * Kd.string.sz)), fun W => ?_, fun w h => Kd.C_drop h h1 hc⟩
 obtain ⟨i0, hi, hz0, hz1, hz2⟩ := info_parts infoS
 have ht := Try.underlying75
 have hel : Try.prog.elem 75 = 9 := by simp [Program.elem, ht]
 have hu : Try.prog.underlying 75 = some (.slice (Try.prog.elem 75)) := by rw [hel]; exact ht
 rw [run_slice_l W 75 A l.length c hu .i64 1 (by omega) (by omega), hel]
 simp [sizeOf, typeInfo, hi, hz1, sliced, Result.andThen, Kd.string, Kd.scalar]
def WPost (w0 : World) (g p : Nat) (R : Int × Int) (w' : World) : Prop := (R.2 = 0 → ∃ h l A c, Wk w' g p R.1 h l A c) ∧ Below w0.heap.size w0 w'
theorem Wk.cutL {w : World} {g p : Nat} {a h : Int} {s : ByteArray} {l : List ByteArray} {A A' : Option Addr} {c : Nat} (k : Wk w g p a h (s :: l) A c) (hA : ∀ w : World, Kd.C Kd.string w A (s :: l).length (s :: l) → Kd.C Kd.string w A' ((s :: l).drop 1).length ((s :: l).drop 1)) :
  Wk (w.setCell ⟨g, 3, none⟩ (.slice A' l.length (c - 1))) g p a h l A' (c - 1) :=
 ⟨blk_set k.blk 3 _, hA _ (row_keep k.blk k.row _ (fun i hi => Below.heap_setCell w ⟨g, 3, none⟩ _ i (fun e => hi e))), by have := k.cap; simp at this; omega⟩
theorem walk_calls (B : Nat) (w0 : World) (g p : Nat) (T : Tr) (hT : TreeAt w0 p T) (hO : TrOK T) (last : Bool) (k : Nat) (a : Int) (l : List ByteArray) (A : Option Addr) (c : Nat) (R : Int × Int) (w : World) (hk : Wk w g p a 0 l A c) (hB : Below w0.heap.size w0 w) (hg : w0.heap.size ≤ g) (hn : wf a)
  (hl : l.length ≤ 100000) (hz : ∀ s ∈ l, s.size ≤ 65536) (hR : walkF T last k a 0 l = some R) :
  Calls Try.prog 48 #[.pointer (some ⟨g, 0, none⟩), .bool last] w fun e w' => e = .returned (.int .i64 R.2) ∧ WPost w0 g p R w' := by
 have HR := qa hR
 have HK := qa hk
 have HB := qa hB
 have HT := qa hT
 have HL := qa hl
 have HZ := qa hz
 have HN := qa hn
 clear hR hk hB hT hl hz hn
 go_enter Try.func48, Try.ntmps48
 go_wp2
 go_step3
 go_wp2
 go_step3
 go_wp2
 go_loopg [5] k (fun kq v5 wr => ∃ (a h : Int) (l : List ByteArray) (A : Option Addr) (c : Nat), Aside0 (walkF T last kq a h l = some R) ∧ Aside0 (Wk wr g p a h l A c) ∧ Aside0 (Below w0.heap.size w0 wr) ∧ Aside0 (wf a) ∧ Aside0 (0 ≤ h ∧ h ≤ 40 ∧ (l.length : Int) ≤ 100000 + 70000 * h) ∧ Aside0 (∀ s ∈ l, s.size ≤ 65536))
 case atStart => exact ⟨a, 0, l, A, c, HR, HK, HB, HN, ⟨by omega, by omega, by have := HL.out; omega⟩, HZ⟩
 case round =>
  clear HR HK HB HN HL HZ
  obtain ⟨a, h, l, A, c, HR, HK, HB, HN, HH, HZ⟩ := hrel
  cases gk with
  | zero => exact absurd HR.out (by simp [walkF])
  | succ k1 =>
  obtain ⟨c0, c1, c2, c3⟩ := HK.out.cells
  have f3 := blk_frozen HK.out.blk 3
  cases l with
  | nil =>
   have hR := HR.out
   simp only [walkF, Option.some.injEq] at hR
   subst hR
   go_wp2
   rw [Exit.noGoto_ret]
   go_ret
   exact ⟨rfl, fun _ => ⟨_, _, _, _, HK.out⟩, HB.out⟩
  | cons s l =>
   obtain ⟨ad, eA, x0⟩ := Kd.at_string HK.out.row 0 (by omega) (by simp)
   have e0 : rdOf ByteArray.empty (s :: l) 0 = s := rfl
   rw [e0, show ad.add (0 : Int).toNat = ad from rfl] at x0
   subst eA
   obtain ⟨A', hcut, hA'⟩ := cut1 (some ad) c (s :: l) (by simp) HK.out.cap
   have HA := qa hA'
   clear hA' e0
   simp only [List.length_cons, Nat.add_sub_cancel] at hcut
   go_upto_region 4 with (fail)
   have hk1 := HK.out.cutL HA.out
   have hB1 : Below w0.heap.size w0 (wr.setCell ⟨g, 3, none⟩ (.slice A' l.length (c - 1))) := HB.out.setCell hg _
   generalize wr.setCell ⟨g, 3, none⟩ (.slice A' l.length (c - 1)) = w1 at hk1 hB1 ⊢
   clear HK HB HA hcut x0 c0 c1 c2 c3 f3
   generalize c - 1 = c' at hk1 ⊢
   obtain ⟨c0, c1, c2, c3⟩ := hk1.cells
   have f1 := blk_frozen hk1.blk 1
   have g1 := blk_lt hk1.blk
   have TT := qa (HT.out.below hB1)
   have HK := qa hk1
   have HB := qa hB1
   clear hk1 hB1
   have hR := HR.out
   clear HR
   simp only [walkF] at hR
   by_cases hkd : (T.node a).kind = 1
   ·
    rw [if_neg (by simpa using hkd)] at hR
    have HR := qa hR
    have HKD := qh (fun W (h : TreeAt W p T) => kind_calls p T a W h HN.out)
    rw [hkd] at HKD
    clear hR hkd
    go_region_held3 (fun w' => w'.cell? ⟨g, 0, none⟩ = some (pT p) ∧ w'.cell? ⟨g, 1, none⟩ = some (.int .i64 a)) (first | (go_keep; done) | (exact ⟨(hb3.cell (p := ⟨g, 0, none⟩) g1).trans c0, (hb3.cell (p := ⟨g, 1, none⟩) g1).trans c1⟩))
     (first | (go_at_call 42; refine (HKD.out _ (by first | exact TT.out | exact TT.out.drew | exact TT.out.drewN _)).mono ?_; rintro e w3 ⟨rfl, hb3⟩))
    have hk3 := HK.out.drew.below hb3
    have hB3 := (below_drew HB.out).trans (hb3.mono HB.out.size)
    have TT3 := qa (HT.out.below hB3)
    clear HK HB TT HKD hb3 c0 c1 c2 c3 f1 g1
    obtain ⟨c0, c1, c2, c3⟩ := hk3.cells
    have f1 := blk_frozen hk3.blk 1
    have g1 := blk_lt hk3.blk
    have HK := qa hk3
    have HB := qa hB3
    clear hk3 hB3
    have hR := HR.out
    clear HR
    by_cases hdd : s.toList = [46, 46]
    ·
     rw [if_pos hdd] at hR
     have HR := qa hR
     have b2 : (s.toList == [46, 46]) = true := by rw [hdd]; rfl
     have HUP := qh (fun W (h : TreeAt W p T) => up_calls p T a W h HN.out)
     have HNU := qa (hO.wf_up a)
     generalize (T.node a).up = u at HR HUP HNU
     clear hR hdd
     go_upto_region 7 with (fail)
     go_region_law (first | (go_simp; go_at_call 64; refine (HUP.out _ (by first | exact TT3.out | exact TT3.out.drew | exact TT3.out.drewN _)).mono ?_; rintro e w4 ⟨rfl, hb4⟩; have HK4 := qa (HK.out.drew.below hb4); have x0 := HK4.out.cells.1; have x1 := HK4.out.cells.2.1; have y1 := blk_frozen HK4.out.blk 1))
     all_goals
      have hk5 := HK4.out.set1 u
      have hB5 : Below w0.heap.size w0 (w4.setCell ⟨g, 1, none⟩ (.int .i64 u)) := ((below_drew HB.out).trans (hb4.mono HB.out.size)).setCell hg _
      generalize w4.setCell ⟨g, 1, none⟩ (.int .i64 u) = w5 at hk5 hB5 ⊢
      have HK5 := qa hk5
      have HB5 := qa hB5
      clear hk5 hB5 x0 x1 y1 c0 c1 c2 c3 f1 hb4 HK4 TT3
      go_simp
      go_wp2
      go_roundg k1
      case measure => omega
      case rel => exact ⟨u, h, l, A', c', HR, HK5, HB5, HNU, ⟨HH.out.1, HH.out.2.1, by have := HH.out.2.2; simp at this; omega⟩, ⟨fun x hx => HZ.out x (List.mem_cons_of_mem _ hx)⟩⟩
    ·
     rw [if_neg hdd] at hR
     have HR := qa hR
     have b2 : (s.toList == [46, 46]) = false := by simpa using hdd
     have hsz : s.size ≤ 65536 := HZ.out s (by simp)
     have HD := qh (fun W h1 h2 => down_calls g p T a h l A' c' s W h1 h2 hO.small hO.sorted HN.out (by omega))
     have HND := qa (hO.wf_down a s)
     generalize hdw : downT T a s = dw at HR HD HND
     obtain ⟨n, e⟩ := dw
     clear hR hdd hdw
     simp only [] at HR HD HND
     by_cases he : e = 0
     ·
      subst he
      rw [if_neg (by simp)] at HR
      go_upto_region 11 with (go_at_call 65; refine (HD.out _ TT3.out HK.out).mono ?_; rintro ee w4 ⟨rfl, hb4⟩)
      have hk4 := HK.out.below hb4
      have hB4 := HB.out.trans (hb4.mono HB.out.size)
      have TT4 := qa (HT.out.below hB4)
      clear HK HB TT3 HD hb4 c0 c1 c2 c3 f1 g1
      obtain ⟨c0, c1, c2, c3⟩ := hk4.cells
      have f1 := blk_frozen hk4.blk 1
      have HK := qa hk4
      have HB := qa hB4
      clear hk4 hB4
      have HKD := qh (fun W (h : TreeAt W p T) => kind_calls p T n W h HND.out)
      have HDA := qh (fun W (h : TreeAt W p T) => data_calls p T n W h HND.out)
      have HSZ := qa (hO.sz n)
      generalize (T.node n).kind = kd at HR HKD
      generalize (T.node n).data = dt at HR HDA HSZ
      by_cases hk : kd = 3
      ·
       have b4 : (kd != 3) = false := bne_eq_false_iff_eq.2 hk
       by_cases hlast : l = [] ∧ last = false
       ·
        rw [if_pos (.inr hlast)] at HR
        obtain ⟨rfl, rfl⟩ := hlast
        clear hk
        go_wp2_with (go_at_call 42; refine (HKD.out _ TT4.out).mono ?_; rintro ee w5 ⟨rfl, hb5⟩; have HK5 := qa (HK.out.below hb5); have HB5 := qa (HB.out.trans (hb5.mono HB.out.size)); have x3 := HK5.out.cells.2.2.2; have x1 := HK5.out.cells.2.1; have x0 := HK5.out.cells.1; have y1 := blk_frozen HK5.out.blk 1)
        have hk6 := HK5.out.set1 n
        have hB6 : Below w0.heap.size w0 (w5.setCell ⟨g, 1, none⟩ (.int .i64 n)) := HB5.out.setCell hg _
        generalize w5.setCell ⟨g, 1, none⟩ (.int .i64 n) = w6 at hk6 hB6 ⊢
        have HK6 := qa hk6
        have HB6 := qa hB6
        clear hk6 hB6 x0 x1 x3 y1 hb5
        go_roundg k1
        case measure => omega
        case rel => exact ⟨n, h, _, A', c', HR, HK6, HB6, HND, ⟨HH.out.1, HH.out.2.1, by have := HH.out.2.2; simp at this ⊢; omega⟩, ⟨fun x hx => HZ.out x (List.mem_cons_of_mem _ hx)⟩⟩
       ·
        rw [if_neg (by rintro (hh | hh); exact hh hk; exact hlast hh)] at HR
        clear hk
        cases l with
        | nil =>
         cases last with
         | false => exact absurd ⟨rfl, rfl⟩ hlast
         | true =>
          clear hlast
          have HF := qh (fun W h1 h2 => follow_calls w0.heap.size w0 g p a h ([] : List ByteArray) A' c' dt W h1 h2 hg (by have := HSZ.out; omega) (by have q := HH.out.2; simp only [List.length_cons, List.length_nil] at q ⊢; omega) HH.out.1 HH.out.2.1)
          by_cases h4 : 40 ≤ h
          ·
           rw [if_pos h4] at HR HF
           have hR := Option.some.inj HR.out
           subst hR
           clear h4
           go_wp2_with (first | (go_at_call 42; refine (HKD.out _ TT4.out).mono ?_; rintro ee w5 ⟨rfl, hb5⟩; have HK5 := qa (HK.out.below hb5); have HB5 := qa (HB.out.trans (hb5.mono HB.out.size)); have TT5 := qa (HT.out.below HB5.out); have x3 := HK5.out.cells.2.2.2; have x1 := HK5.out.cells.2.1; have x0 := HK5.out.cells.1; have y1 := blk_frozen HK5.out.blk 1) | (go_at_call 67; refine (HDA.out _ TT5.out).mono ?_; rintro ee w6 ⟨rfl, hb6⟩; have HK6 := qa (HK5.out.below hb6); have HB6 := qa (HB5.out.trans (hb6.mono HB5.out.size))) | (go_at_call 66; refine (HF.out _ HK6.out HB6.out).mono ?_; rintro ee w7 ⟨rfl, hf7⟩))
           rw [Exit.noGoto_ret]
           go_ret
           exact ⟨rfl, fun h => absurd h (by simp), hf7.2⟩
          ·
           rw [if_neg h4] at HR HF
           have HH4 := qh h4
           clear h4
           go_wp2_with (first | (go_at_call 42; refine (HKD.out _ TT4.out).mono ?_; rintro ee w5 ⟨rfl, hb5⟩; have HK5 := qa (HK.out.below hb5); have HB5 := qa (HB.out.trans (hb5.mono HB.out.size)); have TT5 := qa (HT.out.below HB5.out); have x3 := HK5.out.cells.2.2.2; have x1 := HK5.out.cells.2.1; have x0 := HK5.out.cells.1; have y1 := blk_frozen HK5.out.blk 1) | (go_at_call 67; refine (HDA.out _ TT5.out).mono ?_; rintro ee w6 ⟨rfl, hb6⟩; have HK6 := qa (HK5.out.below hb6); have HB6 := qa (HB5.out.trans (hb6.mono HB5.out.size))) | (go_at_call 66; refine (HF.out _ HK6.out HB6.out).mono ?_; rintro ee w7 ⟨rfl, hf7⟩))
           clear x0 x1 x3 y1 hb5 hb6
           have HF7 := qh hf7
           clear hf7
           go_roundg k1
           case measure => omega
           case rel =>
            obtain ⟨A7, c7, hk7⟩ := HF7.out.1 (by have := HH4.out; omega)
            have hpl := partsB_len' dt
            have hn1 : wf (if slashB dt = true then 1 else a) := by
             by_cases hsl : slashB dt = true
             · rw [if_pos hsl]; exact wf1
             · rw [if_neg hsl]; exact HN.out
            exact ⟨_, h + 1, _, A7, c7, HR, ⟨hk7⟩, ⟨HF7.out.2⟩, ⟨hn1⟩, ⟨by have := HH.out; omega, by have := HH.out; have := HH4.out; omega, by have q := HH.out.2.2; have z := HSZ.out; rw [List.length_append]; simp only [List.length_cons, List.length_nil] at q ⊢; omega⟩, ⟨fun x hx => by
             rcases List.mem_append.1 hx with hx | hx
             · exact Nat.le_trans (partsB_sz dt x hx) HSZ.out
             · exact HZ.out x (List.mem_cons_of_mem _ hx)⟩⟩
        | cons x r =>
         clear hlast
         have b5 : ((r.length : Int) + 1 == 0) = false := beq_eq_false_iff_ne.2 (by omega)
         have HF := qh (fun W h1 h2 => follow_calls w0.heap.size w0 g p a h (x :: r) A' c' dt W h1 h2 hg (by have := HSZ.out; omega) (by have q := HH.out.2; simp only [List.length_cons, List.length_nil] at q ⊢; omega) HH.out.1 HH.out.2.1)
         by_cases h4 : 40 ≤ h
         ·
          rw [if_pos h4] at HR HF
          have hR := Option.some.inj HR.out
          subst hR
          clear h4
          go_wp2_with (first | (go_at_call 42; refine (HKD.out _ TT4.out).mono ?_; rintro ee w5 ⟨rfl, hb5⟩; have HK5 := qa (HK.out.below hb5); have HB5 := qa (HB.out.trans (hb5.mono HB.out.size)); have TT5 := qa (HT.out.below HB5.out); have x3 := HK5.out.cells.2.2.2; have x1 := HK5.out.cells.2.1; have x0 := HK5.out.cells.1; have y1 := blk_frozen HK5.out.blk 1) | (go_at_call 67; refine (HDA.out _ TT5.out).mono ?_; rintro ee w6 ⟨rfl, hb6⟩; have HK6 := qa (HK5.out.below hb6); have HB6 := qa (HB5.out.trans (hb6.mono HB5.out.size))) | (go_at_call 66; refine (HF.out _ HK6.out HB6.out).mono ?_; rintro ee w7 ⟨rfl, hf7⟩))
          rw [Exit.noGoto_ret]
          go_ret
          exact ⟨rfl, fun h => absurd h (by simp), hf7.2⟩
         ·
          rw [if_neg h4] at HR HF
          have HH4 := qh h4
          clear h4
          go_wp2_with (first | (go_at_call 42; refine (HKD.out _ TT4.out).mono ?_; rintro ee w5 ⟨rfl, hb5⟩; have HK5 := qa (HK.out.below hb5); have HB5 := qa (HB.out.trans (hb5.mono HB.out.size)); have TT5 := qa (HT.out.below HB5.out); have x3 := HK5.out.cells.2.2.2; have x1 := HK5.out.cells.2.1; have x0 := HK5.out.cells.1; have y1 := blk_frozen HK5.out.blk 1) | (go_at_call 67; refine (HDA.out _ TT5.out).mono ?_; rintro ee w6 ⟨rfl, hb6⟩; have HK6 := qa (HK5.out.below hb6); have HB6 := qa (HB5.out.trans (hb6.mono HB5.out.size))) | (go_at_call 66; refine (HF.out _ HK6.out HB6.out).mono ?_; rintro ee w7 ⟨rfl, hf7⟩))
          clear x0 x1 x3 y1 hb5 hb6
          have HF7 := qh hf7
          clear hf7
          go_roundg k1
          case measure => omega
          case rel =>
           obtain ⟨A7, c7, hk7⟩ := HF7.out.1 (by have := HH4.out; omega)
           have hpl := partsB_len' dt
           have hn1 : wf (if slashB dt = true then 1 else a) := by
            by_cases hsl : slashB dt = true
            · rw [if_pos hsl]; exact wf1
            · rw [if_neg hsl]; exact HN.out
           exact ⟨_, h + 1, _, A7, c7, HR, ⟨hk7⟩, ⟨HF7.out.2⟩, ⟨hn1⟩, ⟨by have := HH.out; omega, by have := HH.out; have := HH4.out; omega, by have q := HH.out.2.2; have z := HSZ.out; rw [List.length_append]; simp only [List.length_cons, List.length_nil] at q ⊢; omega⟩, ⟨fun x hx => by
            rcases List.mem_append.1 hx with hx | hx
            · exact Nat.le_trans (partsB_sz dt x hx) HSZ.out
            · exact HZ.out x (List.mem_cons_of_mem _ hx)⟩⟩
      ·
       have b4 : (kd != 3) = true := bne_iff_ne.2 hk
       rw [if_pos (.inl hk)] at HR
       clear hk
       go_wp2_with (go_at_call 42; refine (HKD.out _ TT4.out).mono ?_; rintro ee w5 ⟨rfl, hb5⟩; have HK5 := qa (HK.out.below hb5); have HB5 := qa (HB.out.trans (hb5.mono HB.out.size)); have x3 := HK5.out.cells.2.2.2; have x1 := HK5.out.cells.2.1; have x0 := HK5.out.cells.1; have y1 := blk_frozen HK5.out.blk 1)
       have hk6 := HK5.out.set1 n
       have hB6 : Below w0.heap.size w0 (w5.setCell ⟨g, 1, none⟩ (.int .i64 n)) := HB5.out.setCell hg _
       generalize w5.setCell ⟨g, 1, none⟩ (.int .i64 n) = w6 at hk6 hB6 ⊢
       have HK6 := qa hk6
       have HB6 := qa hB6
       clear hk6 hB6 x0 x1 x3 y1 hb5
       go_roundg k1
       case measure => omega
       case rel => exact ⟨n, h, _, A', c', HR, HK6, HB6, HND, ⟨HH.out.1, HH.out.2.1, by have := HH.out.2.2; simp at this ⊢; omega⟩, ⟨fun x hx => HZ.out x (List.mem_cons_of_mem _ hx)⟩⟩
     ·
      rw [if_pos (by simpa using he)] at HR
      have hR := Option.some.inj HR.out
      subst hR
      have b3 : (e != 0) = true := bne_iff_ne.2 he
      go_wp2_with (go_at_call 65; refine (HD.out _ TT3.out HK.out).mono ?_; rintro ee w4 ⟨rfl, hb4⟩)
      rw [Exit.noGoto_ret]
      go_ret
      exact ⟨rfl, fun h => absurd h he, HB.out.trans (hb4.mono HB.out.size)⟩
   ·
    rw [if_pos (by simpa using hkd)] at hR
    have hR := Option.some.inj hR
    subst hR
    have HKD := qh (fun W (h : TreeAt W p T) => kind_calls p T a W h HN.out)
    have b1 : ((T.node a).kind != 1) = true := bne_iff_ne.2 hkd
    clear hkd
    go_region_held3 (fun w' => w'.cell? ⟨g, 0, none⟩ = some (pT p) ∧ w'.cell? ⟨g, 1, none⟩ = some (.int .i64 a)) (first | (go_keep; done) | (exact ⟨(hb3.cell (p := ⟨g, 0, none⟩) g1).trans c0, (hb3.cell (p := ⟨g, 1, none⟩) g1).trans c1⟩))
     (first | (go_at_call 42; refine (HKD.out _ (by first | exact TT.out | exact TT.out.drew | exact TT.out.drewN _)).mono ?_; rintro e w3 ⟨rfl, hb3⟩))
    go_wp2
    rw [Exit.noGoto_ret]
    go_ret
    exact ⟨rfl, fun h => absurd h (by simp), (below_drew HB.out).trans (hb3.mono (HB.out.size))⟩
def insF (T : Tr) : Nat → Int → Int → Option Bool
 | 0, _, _ => none
 | k + 1, n, d => if n = d then some true else if n = 1 then some false else insF T k (T.node n).up d
theorem inside_calls (p B : Nat) (T : Tr) (n d : Int) (k : Nat) (r : Bool) (w : World) (h : TreeB w p B T) (hO : TrOK T) (hn : wf n) (hr : insF T k n d = some r) :
  Calls Try.prog 51 #[pT p, .int .i64 n, .int .i64 d] w fun e w' => e = .returned (.bool r) ∧ w = w' := by
 have c0 := h.cell0
 have HL := qh (fun m hm => h.look m hm)
 have HU := qh (fun m => hO.wf_up m)
 have HN := qa hn
 have HR := qa hr
 clear h hO hn hr
 go_enter Try.func51, Try.ntmps51
 go_wp2
 go_loopg [1] k (fun kq v1 wr => ∃ m : Int, v1 = .int .i64 m ∧ Aside0 (wf m) ∧ Aside0 (insF T kq m d = some r) ∧ wr = w)
 case atStart => exact ⟨n, rfl, HN, HR, rfl⟩
 case round =>
  obtain ⟨m, rfl, HM, HQ, rfl⟩ := hrel
  clear HN HR
  cases gk with
  | zero => exact absurd HQ.out (by simp [insF])
  | succ k1 =>
  have hq := HQ.out
  unfold insF at hq
  by_cases h1 : m = d
  ·
   subst h1
   rw [if_pos rfl] at hq
   have hq := Option.some.inj hq
   subst hq
   clear HQ
   go_wp2
   go_ret
   exact ⟨rfl, rfl⟩
  ·
   rw [if_neg h1] at hq
   have b1 : (m != d) = true := bne_iff_ne.2 h1
   have b2 : (m == d) = false := beq_eq_false_iff_ne.2 h1
   by_cases h2 : m = 1
   ·
    subst h2
    rw [if_pos rfl] at hq
    have hq := Option.some.inj hq
    subst hq
    clear HQ
    go_wp2
    go_ret
    exact ⟨rfl, rfl⟩
   ·
    rw [if_neg h2] at hq
    have b3 : (m != 1) = true := bne_iff_ne.2 h2
    obtain ⟨A, c, -, -, hrun⟩ := HL.out m HM.out
    have hrun := hrun _ (Below.refl _ _)
    have HQ2 := qa hq
    have HU2 := qa (HU.out m)
    clear HQ hq h1 h2
    generalize (T.node m).up = u at *
    go_wp2
    go_roundg k1
    case rel => exact ⟨u, rfl, HU2, HQ2, rfl⟩
    case measure => exact Nat.lt_succ_self _
def roomE (T : Tr) (n td : Int) (s : ByteArray) : Bool × Int :=
 if (findE (T.node td).ents s).2 = false then (false, 0) else if (findE (T.node td).ents s).1 = n then (true, 0) else
  if (T.node (findE (T.node td).ents s).1).kind = 1 ∧ (T.node n).kind ≠ 1 then (false, 8) else
   if (T.node n).kind = 1 ∧ (T.node (findE (T.node td).ents s).1).kind ≠ 1 then (false, 7) else (false, cutE T td s)
def roomT (T : Tr) (td : Int) (s : ByteArray) : Tr := if (findE (T.node td).ents s).2 = false then T else cutT T td s
theorem room_stay (p B : Nat) (T : Tr) (n td : Int) (s : ByteArray) (w : World) (h : TreeB w p B T) (hn : wf n) (ht : wf td) (hl : (T.node td).ents.length < 4294967296) (hR : Rt (T.node td).ents) (hwn : wf (findE (T.node td).ents s).1) (he : roomE T n td s ≠ (false, 0) ∨ (findE (T.node td).ents s).2 = false) :
  Calls Try.prog 52 #[pT p, .int .i64 n, .int .i64 td, .string s] w fun e w' => e = .returned (.tuple #[.bool (roomE T n td s).1, .int .i64 (roomE T n td s).2]) ∧ Below w.heap.size w w' := by
 have HT := qh h
 have HLT := qh (fun W (h : TreeB W p B T) => h.look td ht)
 have HLN := qh (fun W (h : TreeB W p B T) => h.look n hn)
 have HLO := qh (fun W (h : TreeB W p B T) => h.look _ hwn)
 have HF := qh (fun W A c h hc => find_calls A c (T.node td).ents s W h hc hl hR)
 have HCE := qh (fun W h => cut_err p B T td s W h ht hl hR hwn)
 clear h hl hR hn hwn ht
 unfold roomE at he ⊢
 generalize cutE T td s = ce at *
 generalize T.node (findE (T.node td).ents s).1 = yo at *
 generalize T.node n = yn at *
 generalize hx : T.node td = x at *
 obtain ⟨k, u, d, l⟩ := x
 simp only [] at *
 clear hx
 generalize findE l s = fe at *
 obtain ⟨o, fb⟩ := fe
 obtain ⟨ko, uo, dd, lo⟩ := yo
 obtain ⟨kn, un, dn, ln⟩ := yn
 simp only [] at *
 have c0 := HT.out.cell0
 obtain ⟨A0, m0, hle0, hC0, hrun⟩ := HLT.out _ HT.out
 have hrun0 := hrun _ (Below.refl _ _)
 have HC0 := qh hC0
 clear hrun hC0
 cases fb with
 | false =>
  rw [if_pos rfl]
  clear he HCE
  go_enter Try.func52, Try.ntmps52
  go_upto_region 2 with (go_at_call 39; refine (HF.out _ _ _ HC0.out hle0).mono ?_; rintro e w3 ⟨rfl, hb3⟩)
  have HT3 := qh (HT.out.below (below_drew hb3))
  have c3 := HT3.out.cell0
  obtain ⟨A3, m3, -, -, hrun⟩ := HLN.out _ HT3.out
  have hrun3 := hrun _ (Below.refl _ _)
  obtain ⟨A4, m4, -, -, hrun⟩ := HLO.out _ HT3.out
  have hrun4 := hrun _ (Below.refl _ _)
  clear hrun hrun0 c0
  go_region
  all_goals go_wp2
  all_goals go_ret2
  all_goals exact ⟨rfl, below_drew hb3⟩
 | true =>
  rw [if_neg (by simp)] at he ⊢
  by_cases h1 : o = n
  ·
   subst h1
   rw [if_pos rfl]
   clear he HCE
   go_enter Try.func52, Try.ntmps52
   go_upto_region 2 with (go_at_call 39; refine (HF.out _ _ _ HC0.out hle0).mono ?_; rintro e w3 ⟨rfl, hb3⟩)
   have HT3 := qh (HT.out.below (below_drew hb3))
   have c3 := HT3.out.cell0
   obtain ⟨A3, m3, -, -, hrun⟩ := HLN.out _ HT3.out
   have hrun3 := hrun _ (Below.refl _ _)
   obtain ⟨A4, m4, -, -, hrun⟩ := HLO.out _ HT3.out
   have hrun4 := hrun _ (Below.refl _ _)
   clear hrun hrun0 c0
   go_region
   all_goals go_wp2
   all_goals go_ret2
   all_goals exact ⟨rfl, below_drew hb3⟩
  ·
   rw [if_neg h1] at he ⊢
   have b1 : (o == n) = false := beq_eq_false_iff_ne.2 h1
   by_cases ko1 : ko = 1
   ·
    subst ko1
    by_cases kn1 : kn = 1
    ·
     subst kn1
     rw [if_neg (by simp), if_neg (by simp)] at he ⊢
     have he : ce ≠ 0 := by
      rcases he with he | he
      · intro e; exact he (by rw [e])
      · cases he
     clear h1
     go_enter Try.func52, Try.ntmps52
     go_upto_region 2 with (go_at_call 39; refine (HF.out _ _ _ HC0.out hle0).mono ?_; rintro e w3 ⟨rfl, hb3⟩)
     have HT3 := qh (HT.out.below (below_drew hb3))
     have c3 := HT3.out.cell0
     obtain ⟨A3, m3, -, -, hrun⟩ := HLN.out _ HT3.out
     have hrun3 := hrun _ (Below.refl _ _)
     obtain ⟨A4, m4, -, -, hrun⟩ := HLO.out _ HT3.out
     have hrun4 := hrun _ (Below.refl _ _)
     clear hrun hrun0 c0
     go_region
     all_goals go_wp2_with (go_at_call 43; refine (HCE.out _ HT3.out he).mono ?_; rintro e w4 ⟨rfl, hb4⟩)
     all_goals go_ret2
     all_goals exact ⟨rfl, (below_drew hb3).trans (hb4.mono (below_drew hb3).size)⟩
    ·
     rw [if_pos ⟨rfl, kn1⟩]
     have b2 : (kn == 1) = false := beq_eq_false_iff_ne.2 kn1
     clear he HCE h1 kn1
     go_enter Try.func52, Try.ntmps52
     go_upto_region 2 with (go_at_call 39; refine (HF.out _ _ _ HC0.out hle0).mono ?_; rintro e w3 ⟨rfl, hb3⟩)
     have HT3 := qh (HT.out.below (below_drew hb3))
     have c3 := HT3.out.cell0
     obtain ⟨A3, m3, -, -, hrun⟩ := HLN.out _ HT3.out
     have hrun3 := hrun _ (Below.refl _ _)
     obtain ⟨A4, m4, -, -, hrun⟩ := HLO.out _ HT3.out
     have hrun4 := hrun _ (Below.refl _ _)
     clear hrun hrun0 c0
     go_region
     all_goals go_wp2
     all_goals go_ret2
     all_goals exact ⟨rfl, below_drew hb3⟩
   ·
    have b3 : (ko == 1) = false := beq_eq_false_iff_ne.2 ko1
    rw [if_neg (fun h => ko1 h.1)] at he ⊢
    by_cases kn1 : kn = 1
    ·
     subst kn1
     rw [if_pos ⟨rfl, ko1⟩]
     clear he HCE h1 ko1
     go_enter Try.func52, Try.ntmps52
     go_upto_region 2 with (go_at_call 39; refine (HF.out _ _ _ HC0.out hle0).mono ?_; rintro e w3 ⟨rfl, hb3⟩)
     have HT3 := qh (HT.out.below (below_drew hb3))
     have c3 := HT3.out.cell0
     obtain ⟨A3, m3, -, -, hrun⟩ := HLN.out _ HT3.out
     have hrun3 := hrun _ (Below.refl _ _)
     obtain ⟨A4, m4, -, -, hrun⟩ := HLO.out _ HT3.out
     have hrun4 := hrun _ (Below.refl _ _)
     clear hrun hrun0 c0
     go_region
     all_goals go_wp2
     all_goals go_ret2
     all_goals exact ⟨rfl, below_drew hb3⟩
    ·
     have b2 : (kn == 1) = false := beq_eq_false_iff_ne.2 kn1
     rw [if_neg (fun h => kn1 h.1)] at he ⊢
     have he : ce ≠ 0 := by
      rcases he with he | he
      · intro e; exact he (by rw [e])
      · cases he
     clear h1 ko1 kn1
     go_enter Try.func52, Try.ntmps52
     go_upto_region 2 with (go_at_call 39; refine (HF.out _ _ _ HC0.out hle0).mono ?_; rintro e w3 ⟨rfl, hb3⟩)
     have HT3 := qh (HT.out.below (below_drew hb3))
     have c3 := HT3.out.cell0
     obtain ⟨A3, m3, -, -, hrun⟩ := HLN.out _ HT3.out
     have hrun3 := hrun _ (Below.refl _ _)
     obtain ⟨A4, m4, -, -, hrun⟩ := HLO.out _ HT3.out
     have hrun4 := hrun _ (Below.refl _ _)
     clear hrun hrun0 c0
     go_region
     all_goals go_wp2_with (go_at_call 43; refine (HCE.out _ HT3.out he).mono ?_; rintro e w4 ⟨rfl, hb4⟩)
     all_goals go_ret2
     all_goals exact ⟨rfl, (below_drew hb3).trans (hb4.mono (below_drew hb3).size)⟩
theorem room_cut (p B : Nat) (T : Tr) (n td : Int) (s : ByteArray) (w : World) (h : TreeB w p B T) (hn : wf n) (ht : wf td) (hl : (T.node td).ents.length < 4294967296) (hR : Rt (T.node td).ents) (hwn : wf (findE (T.node td).ents s).1) (hcnt : T.cnt < 1000000) (he : roomE T n td s = (false, 0)) (hin : (findE (T.node td).ents s).2 = true) :
  Calls Try.prog 52 #[pT p, .int .i64 n, .int .i64 td, .string s] w fun e w' => e = .returned (.tuple #[.bool false, .int .i64 0]) ∧ TreeB w' p B (cutT T td s) ∧ Frm w w' p B := by
 have HT := qh h
 have HLT := qh (fun W (h : TreeB W p B T) => h.look td ht)
 have HLN := qh (fun W (h : TreeB W p B T) => h.look n hn)
 have HLO := qh (fun W (h : TreeB W p B T) => h.look _ hwn)
 have HF := qh (fun W A c h hc => find_calls A c (T.node td).ents s W h hc hl hR)
 have HCO := qh (fun W h (hz : cutE T td s = 0) => cut_ok p B T td s W h ht hl hR hwn hcnt hz)
 clear h hl hR hn hwn ht hcnt
 unfold roomE at he
 generalize cutE T td s = ce at *
 generalize cutT T td s = cT at *
 generalize T.node (findE (T.node td).ents s).1 = yo at *
 generalize T.node n = yn at *
 generalize hx : T.node td = x at *
 obtain ⟨k, u, d, l⟩ := x
 simp only [] at *
 clear hx
 generalize findE l s = fe at *
 obtain ⟨o, fb⟩ := fe
 obtain ⟨ko, uo, dd, lo⟩ := yo
 obtain ⟨kn, un, dn, ln⟩ := yn
 simp only [] at *
 subst hin
 rw [if_neg (by simp)] at he
 have c0 := HT.out.cell0
 obtain ⟨A0, m0, hle0, hC0, hrun⟩ := HLT.out _ HT.out
 have hrun0 := hrun _ (Below.refl _ _)
 have HC0 := qh hC0
 clear hrun hC0
 by_cases h1 : o = n
 ·
  rw [if_pos h1] at he
  cases he
 rw [if_neg h1] at he
 have b1 : (o == n) = false := beq_eq_false_iff_ne.2 h1
 by_cases ko1 : ko = 1
 ·
  subst ko1
  by_cases kn1 : kn = 1
  ·
   subst kn1
   rw [if_neg (by simp), if_neg (by simp)] at he
   have he : ce = 0 := (Prod.mk.inj he).2
   have HHE := qh he
   clear h1 he
   go_enter Try.func52, Try.ntmps52
   go_upto_region 2 with (go_at_call 39; refine (HF.out _ _ _ HC0.out hle0).mono ?_; rintro e w3 ⟨rfl, hb3⟩)
   have HT3 := qh (HT.out.below (below_drew hb3))
   have c3 := HT3.out.cell0
   obtain ⟨A3, m3, -, -, hrun⟩ := HLN.out _ HT3.out
   have hrun3 := hrun _ (Below.refl _ _)
   obtain ⟨A4, m4, -, -, hrun⟩ := HLO.out _ HT3.out
   have hrun4 := hrun _ (Below.refl _ _)
   clear hrun hrun0 c0
   go_region
   all_goals go_wp2_with (go_at_call 43; refine (HCO.out _ HT3.out HHE.out).mono ?_; rintro e w4 ⟨rfl, hT4, hF4⟩)
   all_goals go_ret2
   all_goals exact ⟨rfl, hT4, (Frm.ofBelow (below_drew hb3)).trans hF4⟩
  ·
   rw [if_pos ⟨rfl, kn1⟩] at he
   cases he
 ·
  have b3 : (ko == 1) = false := beq_eq_false_iff_ne.2 ko1
  rw [if_neg (fun h => ko1 h.1)] at he
  by_cases kn1 : kn = 1
  ·
   rw [if_pos ⟨kn1, ko1⟩] at he
   cases he
  ·
   have b2 : (kn == 1) = false := beq_eq_false_iff_ne.2 kn1
   rw [if_neg (fun h => kn1 h.1)] at he
   have he : ce = 0 := (Prod.mk.inj he).2
   have HHE := qh he
   clear h1 ko1 kn1 he
   go_enter Try.func52, Try.ntmps52
   go_upto_region 2 with (go_at_call 39; refine (HF.out _ _ _ HC0.out hle0).mono ?_; rintro e w3 ⟨rfl, hb3⟩)
   have HT3 := qh (HT.out.below (below_drew hb3))
   have c3 := HT3.out.cell0
   obtain ⟨A3, m3, -, -, hrun⟩ := HLN.out _ HT3.out
   have hrun3 := hrun _ (Below.refl _ _)
   obtain ⟨A4, m4, -, -, hrun⟩ := HLO.out _ HT3.out
   have hrun4 := hrun _ (Below.refl _ _)
   clear hrun hrun0 c0
   go_region
   all_goals go_wp2_with (go_at_call 43; refine (HCO.out _ HT3.out HHE.out).mono ?_; rintro e w4 ⟨rfl, hT4, hF4⟩)
   all_goals go_ret2
   all_goals exact ⟨rfl, hT4, (Frm.ofBelow (below_drew hb3)).trans hF4⟩
def movE (T : Tr) (fr : Int) (s : ByteArray) (td : Int) (z : ByteArray) (ins : Bool) : Int :=
 if dirE (T.node fr).kind ≠ 0 then dirE (T.node fr).kind else if dirE (T.node td).kind ≠ 0 then dirE (T.node td).kind else
  if (findE (T.node fr).ents s).2 = false then 5 else if Sp.check z.data.toList ≠ 0 then Sp.check z.data.toList else
   if (T.node (findE (T.node fr).ents s).1).kind = 1 ∧ ins = true then 14 else
    if (roomE T (findE (T.node fr).ents s).1 td z).1 = true then 0 else (roomE T (findE (T.node fr).ents s).1 td z).2
def movS (T : Tr) (fr : Int) (s : ByteArray) (td : Int) (z : ByteArray) (ins : Bool) : Prop :=
 movE T fr s td z ins ≠ 0 ∨ (roomE T (findE (T.node fr).ents s).1 td z).1 = true
theorem roomE_true {T : Tr} {n td : Int} {z : ByteArray} (h : (roomE T n td z).1 = true) : (roomE T n td z).2 = 0 := by
 unfold roomE at h ⊢
 by_cases h1 : (findE (T.node td).ents z).2 = false
 · rw [if_pos h1] at h; cases h
 ·
  rw [if_neg h1] at h ⊢
  by_cases h2 : (findE (T.node td).ents z).1 = n
  · rw [if_pos h2]
  ·
   rw [if_neg h2] at h
   split at h
   · cases h
   ·
    split at h
    · cases h
    · cases h
theorem move_stay (p B : Nat) (T : Tr) (fr : Int) (s : ByteArray) (td : Int) (z : ByteArray) (ins : Bool) (k : Nat) (w : World) (h : TreeB w p B T) (hO : TrOK T) (hfr : wf fr) (htd : wf td) (hz : z.size < 4294967281)
  (hins : dirE (T.node td).kind = 0 → (T.node (findE (T.node fr).ents s).1).kind = 1 → insF T k td (findE (T.node fr).ents s).1 = some ins) (he : movS T fr s td z ins) :
  Calls Try.prog 36 #[pT p, .int .i64 fr, .string s, .int .i64 td, .string z] w fun e w' => e = .returned (.int .i64 (movE T fr s td z ins)) ∧ Below w.heap.size w w' := by
 have HD1 := qh (fun W h => dir_calls p T fr W h hfr)
 have HD2 := qh (fun W h => dir_calls p T td W h htd)
 have HT := qh h
 have HLF := qh (fun W (h : TreeB W p B T) => h.look fr hfr)
 have HF := qh (fun W A c h hc => find_calls A c (T.node fr).ents s W h hc (hO.small.node fr) (hO.sorted.node fr))
 have hwn := hO.wf_find fr s
 have HRM := qh (fun W h hne => room_stay p B T (findE (T.node fr).ents s).1 td z W h hwn htd (hO.small.node td) (hO.sorted.node td) (hO.wf_find td z) (.inl hne))
 have HLN := qh (fun W (h : TreeB W p B T) => h.look _ hwn)
 have HIN := qh (fun W h r hr => inside_calls p B T td (findE (T.node fr).ents s).1 k r W h hO htd hr)
 have HCK := qh (fun W => name_Check.calls z (Sp.check z.data.toList) W (by rw [name_Check.f, if_pos hz]))
 have HRE := qh (fun h => roomE_true (T := T) (n := (findE (T.node fr).ents s).1) (td := td) (z := z) h)
 clear h hO hwn hfr htd hz
 unfold movS at he
 unfold movE at he ⊢
 generalize roomE T (findE (T.node fr).ents s).1 td z = re at *
 generalize dirE (T.node fr).kind = e1 at *
 generalize dirE (T.node td).kind = e2 at *
 generalize Sp.check z.data.toList = ck at *
 generalize insF T k td (findE (T.node fr).ents s).1 = iq at *
 generalize T.node (findE (T.node fr).ents s).1 = yn at *
 generalize T.node fr = xf at *
 obtain ⟨kf, uf, df, lf⟩ := xf
 obtain ⟨kn, un, dn, ln⟩ := yn
 simp only [] at *
 generalize findE lf s = fe at *
 obtain ⟨n, fb⟩ := fe
 simp only [] at *
 by_cases h1 : e1 = 0
 ·
  subst h1
  rw [if_neg (by simp)] at he ⊢
  by_cases h2 : e2 = 0
  ·
   subst h2
   have hins := hins rfl
   rw [if_neg (by simp)] at he ⊢
   cases fb with
   | false =>
    rw [if_pos rfl]
    clear he hins HRM HLN HIN HCK
    go_enter Try.func36, Try.ntmps36
    go_wp2
    have hh1 := heap_alloc_new w (.cells #[.int .i64 fr, .int .i64 td] 3)
    have hb1 := (Below.refl _ w).alloc (Nat.le_refl _) (.cells #[.int .i64 fr, .int .i64 td] 3)
    generalize w.alloc (.cells #[.int .i64 fr, .int .i64 td] 3) = w1 at hh1 hb1 ⊢
    have HB1 := qh hb1
    have HT1 := qh (HT.out.below hb1)
    generalize hge : w.heap.size = g at hh1 HB1 ⊢
    have HGE := qh hge
    have HH1 := qh hh1
    have x0 : w1.cell? ⟨g, 0, none⟩ = some (.int .i64 fr) := by rw [blk_cell hh1]; rfl
    clear hge hh1 hb1 HT
    refine wp_loop_rounds 3 ?_
    rw [rounds_succ]
    go_wp2_with (go_at_call 50; refine (HD1.out _ HT1.out.at_).mono ?_; rintro e w2 ⟨rfl, hb2⟩; have HT2 := qh (HT1.out.below hb2); have HB2 := qh (HB1.out.trans (hb2.mono (by rw [← HGE.out]; exact HB1.out.size))); have hh2 := (hb2.block g (blk_lt HH1.out)).trans HH1.out; have x1 : w2.cell? ⟨g, 1, none⟩ = some (.int .i64 td) := (by rw [blk_cell hh2]; rfl); clear hh2 hb2)
    clear x0
    rw [rounds_succ]
    go_wp2_with (go_at_call 50; refine (HD2.out _ HT2.out.at_).mono ?_; rintro e w3 ⟨rfl, hb3⟩; have HT3 := qh (HT2.out.below hb3); have HB3 := qh (HB2.out.trans (hb3.mono (by rw [← HGE.out]; exact HB2.out.size))); clear hb3)
    have c3 := HT3.out.cell0
    obtain ⟨A3, m3, hle3, hC3, hrun⟩ := HLF.out _ HT3.out
    have hrun3 := hrun _ (Below.refl _ _)
    have HC3 := qh hC3
    clear hrun hC3 x1
    rw [rounds_succ]
    go_wp2_with (go_at_call 39; refine (HF.out _ _ _ HC3.out hle3).mono ?_; rintro e w4 ⟨rfl, hb4⟩; have HT4 := qh (HT3.out.below hb4); have HB4 := qh (HB3.out.trans (hb4.mono (by rw [← HGE.out]; exact HB3.out.size))); clear hb4)
    go_ret
    exact ⟨rfl, by rw [HGE.out]; exact HB4.out⟩
   | true =>
    rw [if_neg (by simp)] at he ⊢
    by_cases h3 : ck = 0
    ·
     subst h3
     rw [if_neg (by simp)] at he ⊢
     by_cases hkn : kn = 1
     ·
      subst hkn
      have hins := hins rfl
      cases ins with
      | true =>
       rw [if_pos ⟨rfl, rfl⟩]
       have HIN := qh (fun W h => HIN.out W h true hins)
       clear he HRM hins
       go_enter Try.func36, Try.ntmps36
       go_wp2
       have hh1 := heap_alloc_new w (.cells #[.int .i64 fr, .int .i64 td] 3)
       have hb1 := (Below.refl _ w).alloc (Nat.le_refl _) (.cells #[.int .i64 fr, .int .i64 td] 3)
       generalize w.alloc (.cells #[.int .i64 fr, .int .i64 td] 3) = w1 at hh1 hb1 ⊢
       have HB1 := qh hb1
       have HT1 := qh (HT.out.below hb1)
       generalize hge : w.heap.size = g at hh1 HB1 ⊢
       have HGE := qh hge
       have HH1 := qh hh1
       have x0 : w1.cell? ⟨g, 0, none⟩ = some (.int .i64 fr) := by rw [blk_cell hh1]; rfl
       clear hge hh1 hb1 HT
       refine wp_loop_rounds 3 ?_
       rw [rounds_succ]
       go_wp2_with (go_at_call 50; refine (HD1.out _ HT1.out.at_).mono ?_; rintro e w2 ⟨rfl, hb2⟩; have HT2 := qh (HT1.out.below hb2); have HB2 := qh (HB1.out.trans (hb2.mono (by rw [← HGE.out]; exact HB1.out.size))); have hh2 := (hb2.block g (blk_lt HH1.out)).trans HH1.out; have x1 : w2.cell? ⟨g, 1, none⟩ = some (.int .i64 td) := (by rw [blk_cell hh2]; rfl); clear hh2 hb2)
       clear x0
       rw [rounds_succ]
       go_wp2_with (go_at_call 50; refine (HD2.out _ HT2.out.at_).mono ?_; rintro e w3 ⟨rfl, hb3⟩; have HT3 := qh (HT2.out.below hb3); have HB3 := qh (HB2.out.trans (hb3.mono (by rw [← HGE.out]; exact HB2.out.size))); clear hb3)
       have c3 := HT3.out.cell0
       obtain ⟨A3, m3, hle3, hC3, hrun⟩ := HLF.out _ HT3.out
       have hrun3 := hrun _ (Below.refl _ _)
       have HC3 := qh hC3
       clear hrun hC3 x1
       rw [rounds_succ]
       go_wp2_with (first | (go_at_call 39; refine (HF.out _ _ _ HC3.out hle3).mono ?_; rintro e w4 ⟨rfl, hb4⟩; have HT4 := qh (HT3.out.below hb4); have HB4 := qh (HB3.out.trans (hb4.mono (by rw [← HGE.out]; exact HB3.out.size))); clear hb4) | (go_at_call 49; refine (HCK.out _).mono ?_; rintro e w5 ⟨rfl, hb5⟩; have HT5 := qh (HT4.out.below hb5); have HB5 := qh (HB4.out.trans (hb5.mono (by rw [← HGE.out]; exact HB4.out.size))); have c5 := HT5.out.cell0; obtain ⟨A5, m5, hle5, hC5, hrun⟩ := HLN.out _ HT5.out; have hrun5 := hrun _ (Below.refl _ _); clear hrun hC5 hb5) | (go_at_call 51; refine (HIN.out _ HT5.out).mono ?_; rintro e w6 ⟨rfl, rfl⟩))
       go_ret
       exact ⟨rfl, by rw [HGE.out]; exact HB5.out⟩
      | false =>
       rw [if_neg (by simp)] at he ⊢
       have HIN := qh (fun W h => HIN.out W h false hins)
       have hne : re ≠ (false, 0) := by
        rintro rfl
        rcases he with he | he
        · exact he rfl
        · cases he
       have HRM := qh (fun W h => HRM.out W h hne)
       clear he hins
       obtain ⟨rb, rq⟩ := re
       cases rb with
       | true =>
        rw [if_pos rfl]
        clear hne
        have hq0 := HRE.out rfl
        simp only [] at hq0
        subst hq0
        simp only [] at HRM
        go_enter Try.func36, Try.ntmps36
        go_wp2
        have hh1 := heap_alloc_new w (.cells #[.int .i64 fr, .int .i64 td] 3)
        have hb1 := (Below.refl _ w).alloc (Nat.le_refl _) (.cells #[.int .i64 fr, .int .i64 td] 3)
        generalize w.alloc (.cells #[.int .i64 fr, .int .i64 td] 3) = w1 at hh1 hb1 ⊢
        have HB1 := qh hb1
        have HT1 := qh (HT.out.below hb1)
        generalize hge : w.heap.size = g at hh1 HB1 ⊢
        have HGE := qh hge
        have HH1 := qh hh1
        have x0 : w1.cell? ⟨g, 0, none⟩ = some (.int .i64 fr) := by rw [blk_cell hh1]; rfl
        clear hge hh1 hb1 HT
        refine wp_loop_rounds 3 ?_
        rw [rounds_succ]
        go_wp2_with (go_at_call 50; refine (HD1.out _ HT1.out.at_).mono ?_; rintro e w2 ⟨rfl, hb2⟩; have HT2 := qh (HT1.out.below hb2); have HB2 := qh (HB1.out.trans (hb2.mono (by rw [← HGE.out]; exact HB1.out.size))); have hh2 := (hb2.block g (blk_lt HH1.out)).trans HH1.out; have x1 : w2.cell? ⟨g, 1, none⟩ = some (.int .i64 td) := (by rw [blk_cell hh2]; rfl); clear hh2 hb2)
        clear x0
        rw [rounds_succ]
        go_wp2_with (go_at_call 50; refine (HD2.out _ HT2.out.at_).mono ?_; rintro e w3 ⟨rfl, hb3⟩; have HT3 := qh (HT2.out.below hb3); have HB3 := qh (HB2.out.trans (hb3.mono (by rw [← HGE.out]; exact HB2.out.size))); clear hb3)
        have c3 := HT3.out.cell0
        obtain ⟨A3, m3, hle3, hC3, hrun⟩ := HLF.out _ HT3.out
        have hrun3 := hrun _ (Below.refl _ _)
        have HC3 := qh hC3
        clear hrun hC3 x1
        rw [rounds_succ]
        go_wp2_with (first | (go_at_call 39; refine (HF.out _ _ _ HC3.out hle3).mono ?_; rintro e w4 ⟨rfl, hb4⟩; have HT4 := qh (HT3.out.below hb4); have HB4 := qh (HB3.out.trans (hb4.mono (by rw [← HGE.out]; exact HB3.out.size))); clear hb4) | (go_at_call 49; refine (HCK.out _).mono ?_; rintro e w5 ⟨rfl, hb5⟩; have HT5 := qh (HT4.out.below hb5); have HB5 := qh (HB4.out.trans (hb5.mono (by rw [← HGE.out]; exact HB4.out.size))); have c5 := HT5.out.cell0; obtain ⟨A5, m5, hle5, hC5, hrun⟩ := HLN.out _ HT5.out; have hrun5 := hrun _ (Below.refl _ _); clear hrun hC5 hb5) | (go_at_call 51; refine (HIN.out _ HT5.out).mono ?_; rintro e w6 ⟨rfl, rfl⟩) | (go_at_call 52; refine (HRM.out _ HT5.out).mono ?_; rintro e w7 ⟨rfl, hb7⟩; have HB7 := qh (HB5.out.trans (hb7.mono (by rw [← HGE.out]; exact HB5.out.size))); clear hb7))
        go_ret
        exact ⟨rfl, by rw [HGE.out]; exact HB7.out⟩
       | false =>
        rw [if_neg (by simp)]
        have b4 : (rq != 0) = true := bne_iff_ne.2 (fun e => hne (by rw [e]))
        clear hne
        simp only [] at HRM
        go_enter Try.func36, Try.ntmps36
        go_wp2
        have hh1 := heap_alloc_new w (.cells #[.int .i64 fr, .int .i64 td] 3)
        have hb1 := (Below.refl _ w).alloc (Nat.le_refl _) (.cells #[.int .i64 fr, .int .i64 td] 3)
        generalize w.alloc (.cells #[.int .i64 fr, .int .i64 td] 3) = w1 at hh1 hb1 ⊢
        have HB1 := qh hb1
        have HT1 := qh (HT.out.below hb1)
        generalize hge : w.heap.size = g at hh1 HB1 ⊢
        have HGE := qh hge
        have HH1 := qh hh1
        have x0 : w1.cell? ⟨g, 0, none⟩ = some (.int .i64 fr) := by rw [blk_cell hh1]; rfl
        clear hge hh1 hb1 HT
        refine wp_loop_rounds 3 ?_
        rw [rounds_succ]
        go_wp2_with (go_at_call 50; refine (HD1.out _ HT1.out.at_).mono ?_; rintro e w2 ⟨rfl, hb2⟩; have HT2 := qh (HT1.out.below hb2); have HB2 := qh (HB1.out.trans (hb2.mono (by rw [← HGE.out]; exact HB1.out.size))); have hh2 := (hb2.block g (blk_lt HH1.out)).trans HH1.out; have x1 : w2.cell? ⟨g, 1, none⟩ = some (.int .i64 td) := (by rw [blk_cell hh2]; rfl); clear hh2 hb2)
        clear x0
        rw [rounds_succ]
        go_wp2_with (go_at_call 50; refine (HD2.out _ HT2.out.at_).mono ?_; rintro e w3 ⟨rfl, hb3⟩; have HT3 := qh (HT2.out.below hb3); have HB3 := qh (HB2.out.trans (hb3.mono (by rw [← HGE.out]; exact HB2.out.size))); clear hb3)
        have c3 := HT3.out.cell0
        obtain ⟨A3, m3, hle3, hC3, hrun⟩ := HLF.out _ HT3.out
        have hrun3 := hrun _ (Below.refl _ _)
        have HC3 := qh hC3
        clear hrun hC3 x1
        rw [rounds_succ]
        go_wp2_with (first | (go_at_call 39; refine (HF.out _ _ _ HC3.out hle3).mono ?_; rintro e w4 ⟨rfl, hb4⟩; have HT4 := qh (HT3.out.below hb4); have HB4 := qh (HB3.out.trans (hb4.mono (by rw [← HGE.out]; exact HB3.out.size))); clear hb4) | (go_at_call 49; refine (HCK.out _).mono ?_; rintro e w5 ⟨rfl, hb5⟩; have HT5 := qh (HT4.out.below hb5); have HB5 := qh (HB4.out.trans (hb5.mono (by rw [← HGE.out]; exact HB4.out.size))); have c5 := HT5.out.cell0; obtain ⟨A5, m5, hle5, hC5, hrun⟩ := HLN.out _ HT5.out; have hrun5 := hrun _ (Below.refl _ _); clear hrun hC5 hb5) | (go_at_call 51; refine (HIN.out _ HT5.out).mono ?_; rintro e w6 ⟨rfl, rfl⟩) | (go_at_call 52; refine (HRM.out _ HT5.out).mono ?_; rintro e w7 ⟨rfl, hb7⟩; have HB7 := qh (HB5.out.trans (hb7.mono (by rw [← HGE.out]; exact HB5.out.size))); clear hb7))
        go_ret
        exact ⟨rfl, by rw [HGE.out]; exact HB7.out⟩
     ·
      rw [if_neg (fun h => hkn h.1)] at he ⊢
      have b5 : (kn == 1) = false := beq_eq_false_iff_ne.2 hkn
      have hne : re ≠ (false, 0) := by
       rintro rfl
       rcases he with he | he
       · exact he rfl
       · cases he
      have HRM := qh (fun W h => HRM.out W h hne)
      clear he hins HIN hkn
      obtain ⟨rb, rq⟩ := re
      cases rb with
      | true =>
       rw [if_pos rfl]
       clear hne
       have hq0 := HRE.out rfl
       simp only [] at hq0
       subst hq0
       simp only [] at HRM
       go_enter Try.func36, Try.ntmps36
       go_wp2
       have hh1 := heap_alloc_new w (.cells #[.int .i64 fr, .int .i64 td] 3)
       have hb1 := (Below.refl _ w).alloc (Nat.le_refl _) (.cells #[.int .i64 fr, .int .i64 td] 3)
       generalize w.alloc (.cells #[.int .i64 fr, .int .i64 td] 3) = w1 at hh1 hb1 ⊢
       have HB1 := qh hb1
       have HT1 := qh (HT.out.below hb1)
       generalize hge : w.heap.size = g at hh1 HB1 ⊢
       have HGE := qh hge
       have HH1 := qh hh1
       have x0 : w1.cell? ⟨g, 0, none⟩ = some (.int .i64 fr) := by rw [blk_cell hh1]; rfl
       clear hge hh1 hb1 HT
       refine wp_loop_rounds 3 ?_
       rw [rounds_succ]
       go_wp2_with (go_at_call 50; refine (HD1.out _ HT1.out.at_).mono ?_; rintro e w2 ⟨rfl, hb2⟩; have HT2 := qh (HT1.out.below hb2); have HB2 := qh (HB1.out.trans (hb2.mono (by rw [← HGE.out]; exact HB1.out.size))); have hh2 := (hb2.block g (blk_lt HH1.out)).trans HH1.out; have x1 : w2.cell? ⟨g, 1, none⟩ = some (.int .i64 td) := (by rw [blk_cell hh2]; rfl); clear hh2 hb2)
       clear x0
       rw [rounds_succ]
       go_wp2_with (go_at_call 50; refine (HD2.out _ HT2.out.at_).mono ?_; rintro e w3 ⟨rfl, hb3⟩; have HT3 := qh (HT2.out.below hb3); have HB3 := qh (HB2.out.trans (hb3.mono (by rw [← HGE.out]; exact HB2.out.size))); clear hb3)
       have c3 := HT3.out.cell0
       obtain ⟨A3, m3, hle3, hC3, hrun⟩ := HLF.out _ HT3.out
       have hrun3 := hrun _ (Below.refl _ _)
       have HC3 := qh hC3
       clear hrun hC3 x1
       rw [rounds_succ]
       go_wp2_with (first | (go_at_call 39; refine (HF.out _ _ _ HC3.out hle3).mono ?_; rintro e w4 ⟨rfl, hb4⟩; have HT4 := qh (HT3.out.below hb4); have HB4 := qh (HB3.out.trans (hb4.mono (by rw [← HGE.out]; exact HB3.out.size))); clear hb4) | (go_at_call 49; refine (HCK.out _).mono ?_; rintro e w5 ⟨rfl, hb5⟩; have HT5 := qh (HT4.out.below hb5); have HB5 := qh (HB4.out.trans (hb5.mono (by rw [← HGE.out]; exact HB4.out.size))); have c5 := HT5.out.cell0; obtain ⟨A5, m5, hle5, hC5, hrun⟩ := HLN.out _ HT5.out; have hrun5 := hrun _ (Below.refl _ _); clear hrun hC5 hb5) | (go_at_call 52; refine (HRM.out _ HT5.out).mono ?_; rintro e w7 ⟨rfl, hb7⟩; have HB7 := qh (HB5.out.trans (hb7.mono (by rw [← HGE.out]; exact HB5.out.size))); clear hb7))
       go_ret
       exact ⟨rfl, by rw [HGE.out]; exact HB7.out⟩
      | false =>
       rw [if_neg (by simp)]
       have b4 : (rq != 0) = true := bne_iff_ne.2 (fun e => hne (by rw [e]))
       clear hne
       simp only [] at HRM
       go_enter Try.func36, Try.ntmps36
       go_wp2
       have hh1 := heap_alloc_new w (.cells #[.int .i64 fr, .int .i64 td] 3)
       have hb1 := (Below.refl _ w).alloc (Nat.le_refl _) (.cells #[.int .i64 fr, .int .i64 td] 3)
       generalize w.alloc (.cells #[.int .i64 fr, .int .i64 td] 3) = w1 at hh1 hb1 ⊢
       have HB1 := qh hb1
       have HT1 := qh (HT.out.below hb1)
       generalize hge : w.heap.size = g at hh1 HB1 ⊢
       have HGE := qh hge
       have HH1 := qh hh1
       have x0 : w1.cell? ⟨g, 0, none⟩ = some (.int .i64 fr) := by rw [blk_cell hh1]; rfl
       clear hge hh1 hb1 HT
       refine wp_loop_rounds 3 ?_
       rw [rounds_succ]
       go_wp2_with (go_at_call 50; refine (HD1.out _ HT1.out.at_).mono ?_; rintro e w2 ⟨rfl, hb2⟩; have HT2 := qh (HT1.out.below hb2); have HB2 := qh (HB1.out.trans (hb2.mono (by rw [← HGE.out]; exact HB1.out.size))); have hh2 := (hb2.block g (blk_lt HH1.out)).trans HH1.out; have x1 : w2.cell? ⟨g, 1, none⟩ = some (.int .i64 td) := (by rw [blk_cell hh2]; rfl); clear hh2 hb2)
       clear x0
       rw [rounds_succ]
       go_wp2_with (go_at_call 50; refine (HD2.out _ HT2.out.at_).mono ?_; rintro e w3 ⟨rfl, hb3⟩; have HT3 := qh (HT2.out.below hb3); have HB3 := qh (HB2.out.trans (hb3.mono (by rw [← HGE.out]; exact HB2.out.size))); clear hb3)
       have c3 := HT3.out.cell0
       obtain ⟨A3, m3, hle3, hC3, hrun⟩ := HLF.out _ HT3.out
       have hrun3 := hrun _ (Below.refl _ _)
       have HC3 := qh hC3
       clear hrun hC3 x1
       rw [rounds_succ]
       go_wp2_with (first | (go_at_call 39; refine (HF.out _ _ _ HC3.out hle3).mono ?_; rintro e w4 ⟨rfl, hb4⟩; have HT4 := qh (HT3.out.below hb4); have HB4 := qh (HB3.out.trans (hb4.mono (by rw [← HGE.out]; exact HB3.out.size))); clear hb4) | (go_at_call 49; refine (HCK.out _).mono ?_; rintro e w5 ⟨rfl, hb5⟩; have HT5 := qh (HT4.out.below hb5); have HB5 := qh (HB4.out.trans (hb5.mono (by rw [← HGE.out]; exact HB4.out.size))); have c5 := HT5.out.cell0; obtain ⟨A5, m5, hle5, hC5, hrun⟩ := HLN.out _ HT5.out; have hrun5 := hrun _ (Below.refl _ _); clear hrun hC5 hb5) | (go_at_call 52; refine (HRM.out _ HT5.out).mono ?_; rintro e w7 ⟨rfl, hb7⟩; have HB7 := qh (HB5.out.trans (hb7.mono (by rw [← HGE.out]; exact HB5.out.size))); clear hb7))
       go_ret
       exact ⟨rfl, by rw [HGE.out]; exact HB7.out⟩
    ·
     rw [if_pos h3]
     have b3 : (ck != 0) = true := bne_iff_ne.2 h3
     clear he hins HRM HLN HIN h3
     go_enter Try.func36, Try.ntmps36
     go_wp2
     have hh1 := heap_alloc_new w (.cells #[.int .i64 fr, .int .i64 td] 3)
     have hb1 := (Below.refl _ w).alloc (Nat.le_refl _) (.cells #[.int .i64 fr, .int .i64 td] 3)
     generalize w.alloc (.cells #[.int .i64 fr, .int .i64 td] 3) = w1 at hh1 hb1 ⊢
     have HB1 := qh hb1
     have HT1 := qh (HT.out.below hb1)
     generalize hge : w.heap.size = g at hh1 HB1 ⊢
     have HGE := qh hge
     have HH1 := qh hh1
     have x0 : w1.cell? ⟨g, 0, none⟩ = some (.int .i64 fr) := by rw [blk_cell hh1]; rfl
     clear hge hh1 hb1 HT
     refine wp_loop_rounds 3 ?_
     rw [rounds_succ]
     go_wp2_with (go_at_call 50; refine (HD1.out _ HT1.out.at_).mono ?_; rintro e w2 ⟨rfl, hb2⟩; have HT2 := qh (HT1.out.below hb2); have HB2 := qh (HB1.out.trans (hb2.mono (by rw [← HGE.out]; exact HB1.out.size))); have hh2 := (hb2.block g (blk_lt HH1.out)).trans HH1.out; have x1 : w2.cell? ⟨g, 1, none⟩ = some (.int .i64 td) := (by rw [blk_cell hh2]; rfl); clear hh2 hb2)
     clear x0
     rw [rounds_succ]
     go_wp2_with (go_at_call 50; refine (HD2.out _ HT2.out.at_).mono ?_; rintro e w3 ⟨rfl, hb3⟩; have HT3 := qh (HT2.out.below hb3); have HB3 := qh (HB2.out.trans (hb3.mono (by rw [← HGE.out]; exact HB2.out.size))); clear hb3)
     have c3 := HT3.out.cell0
     obtain ⟨A3, m3, hle3, hC3, hrun⟩ := HLF.out _ HT3.out
     have hrun3 := hrun _ (Below.refl _ _)
     have HC3 := qh hC3
     clear hrun hC3 x1
     rw [rounds_succ]
     go_wp2_with (first | (go_at_call 39; refine (HF.out _ _ _ HC3.out hle3).mono ?_; rintro e w4 ⟨rfl, hb4⟩; have HT4 := qh (HT3.out.below hb4); have HB4 := qh (HB3.out.trans (hb4.mono (by rw [← HGE.out]; exact HB3.out.size))); clear hb4) | (go_at_call 49; refine (HCK.out _).mono ?_; rintro e w5 ⟨rfl, hb5⟩; have HB5 := qh (HB4.out.trans (hb5.mono (by rw [← HGE.out]; exact HB4.out.size)))))
     go_ret
     exact ⟨rfl, by rw [HGE.out]; exact HB5.out⟩
  ·
   rw [if_pos h2]
   have b2 : (e2 != 0) = true := bne_iff_ne.2 h2
   clear hins he h2 HF HRM HLN HIN HCK HLF
   go_enter Try.func36, Try.ntmps36
   go_wp2
   have hh1 := heap_alloc_new w (.cells #[.int .i64 fr, .int .i64 td] 3)
   have hb1 := (Below.refl _ w).alloc (Nat.le_refl _) (.cells #[.int .i64 fr, .int .i64 td] 3)
   generalize w.alloc (.cells #[.int .i64 fr, .int .i64 td] 3) = w1 at hh1 hb1 ⊢
   have HB1 := qh hb1
   have HT1 := qh (HT.out.below hb1)
   generalize hge : w.heap.size = g at hh1 HB1 ⊢
   have HGE := qh hge
   have HH1 := qh hh1
   have x0 : w1.cell? ⟨g, 0, none⟩ = some (.int .i64 fr) := by rw [blk_cell hh1]; rfl
   clear hge hh1 hb1 HT
   refine wp_loop_rounds 3 ?_
   rw [rounds_succ]
   go_wp2_with (go_at_call 50; refine (HD1.out _ HT1.out.at_).mono ?_; rintro e w2 ⟨rfl, hb2⟩; have HT2 := qh (HT1.out.below hb2); have HB2 := qh (HB1.out.trans (hb2.mono (by rw [← HGE.out]; exact HB1.out.size))); have hh2 := (hb2.block g (blk_lt HH1.out)).trans HH1.out; have x1 : w2.cell? ⟨g, 1, none⟩ = some (.int .i64 td) := (by rw [blk_cell hh2]; rfl); clear hh2 hb2)
   clear x0
   rw [rounds_succ]
   go_wp2_with (go_at_call 50; refine (HD2.out _ HT2.out.at_).mono ?_; rintro e w3 ⟨rfl, hb3⟩; have HT3 := qh (HT2.out.below hb3); have HB3 := qh (HB2.out.trans (hb3.mono (by rw [← HGE.out]; exact HB2.out.size))); clear hb3)
   go_ret
   exact ⟨rfl, by rw [HGE.out]; exact HB3.out⟩
 ·
  rw [if_pos h1]
  have b1 : (e1 != 0) = true := bne_iff_ne.2 h1
  clear hins he h1 HF HRM HLN HIN HCK HLF HD2
  go_enter Try.func36, Try.ntmps36
  go_wp2
  have hh1 := heap_alloc_new w (.cells #[.int .i64 fr, .int .i64 td] 3)
  have hb1 := (Below.refl _ w).alloc (Nat.le_refl _) (.cells #[.int .i64 fr, .int .i64 td] 3)
  generalize w.alloc (.cells #[.int .i64 fr, .int .i64 td] 3) = w1 at hh1 hb1 ⊢
  have HB1 := qh hb1
  have HT1 := qh (HT.out.below hb1)
  generalize hge : w.heap.size = g at hh1 HB1 ⊢
  have HGE := qh hge
  have HH1 := qh hh1
  have x0 : w1.cell? ⟨g, 0, none⟩ = some (.int .i64 fr) := by rw [blk_cell hh1]; rfl
  clear hge hh1 hb1 HT
  refine wp_loop_rounds 3 ?_
  rw [rounds_succ]
  go_wp2_with (go_at_call 50; refine (HD1.out _ HT1.out.at_).mono ?_; rintro e w2 ⟨rfl, hb2⟩; have HT2 := qh (HT1.out.below hb2); have HB2 := qh (HB1.out.trans (hb2.mono (by rw [← HGE.out]; exact HB1.out.size))); have hh2 := (hb2.block g (blk_lt HH1.out)).trans HH1.out; have x1 : w2.cell? ⟨g, 1, none⟩ = some (.int .i64 td) := (by rw [blk_cell hh2]; rfl); clear hh2 hb2)
  go_ret
  exact ⟨rfl, by rw [HGE.out]; exact HB2.out⟩
def mvA (T : Tr) (td : Int) (z : ByteArray) : Tr := roomT T td z
def mvB (T1 : Tr) (n td : Int) : Tr := T1.set n { T1.node n with up := td }
def mvC (T2 : Tr) (fr : Int) (s : ByteArray) : Tr := T2.enter fr (cutEn (T2.node fr).ents s)
def mvD (T3 : Tr) (td n : Int) (z : ByteArray) : Tr := T3.enter td (insE (T3.node td).ents ⟨z, n⟩)
theorem move_ok (p B : Nat) (T T1 T2 T3 : Tr) (fr : Int) (s : ByteArray) (td : Int) (z : ByteArray) (n : Int) (ins : Bool) (k : Nat) (w : World) (h : TreeB w p B T) (hO : TrOK T) (hfr : wf fr) (htd : wf td) (hz : z.size < 4294967281)
  (hfind : findE (T.node fr).ents s = (n, true)) (h1 : (T.node fr).kind = 1) (h2 : (T.node td).kind = 1) (hck : Sp.check z.data.toList = 0)
  (hins : (T.node n).kind = 1 → insF T k td n = some false) (hrm : roomE T n td z = (false, 0)) (hcnt : T.cnt < 1000000)
  (e1 : T1 = mvA T td z) (e2 : T2 = mvB T1 n td) (e3 : T3 = mvC T2 fr s)
  (c1 : T1.cnt < 1000000) (c2 : T2.cnt < 1000000) (c3 : T3.cnt < 1000000)
  (f1 : (T2.node fr).ents.length < 4294967296) (f2 : Rt (T2.node fr).ents) (f3 : (findE (T2.node fr).ents s).2 = true)
  (t1 : (T3.node td).ents.length < 4294967296) (t2 : Rt (T3.node td).ents) (t3 : (findE (T3.node td).ents z).2 = false) :
  Calls Try.prog 36 #[pT p, .int .i64 fr, .string s, .int .i64 td, .string z] w fun e w' => e = .returned (.int .i64 0) ∧ TreeB w' p B (mvD T3 td n z) ∧ Frm w w' p B := by
 have HD1 := qh (fun W h => dir_calls p T fr W h hfr)
 have HD2 := qh (fun W h => dir_calls p T td W h htd)
 rw [h1] at HD1
 rw [h2] at HD2
 rw [show dirE 1 = 0 from rfl] at HD1 HD2
 have HT := qh h
 have HLF := qh (fun W (h : TreeB W p B T) => h.look fr hfr)
 have HF := qh (fun W A c h hc => find_calls A c (T.node fr).ents s W h hc (hO.small.node fr) (hO.sorted.node fr))
 have hwn := hO.wf_find fr s
 rw [hfind] at HF hwn
 have hwn : wf n := hwn
 have HRM := qh (show ∀ W, TreeB W p B T → Calls Try.prog 52 #[pT p, .int .i64 n, .int .i64 td, .string z] W fun e w' => e = .returned (.tuple #[.bool false, .int .i64 0]) ∧ TreeB w' p B T1 ∧ Frm W w' p B from by
  intro W hW
  cases hq : (findE (T.node td).ents z).2 with
  | false =>
   have hT1 : T1 = T := by rw [e1, mvA, roomT, if_pos hq]
   refine (room_stay p B T n td z W hW hwn htd (hO.small.node td) (hO.sorted.node td) (hO.wf_find td z) (.inr hq)).mono ?_
   rintro e w' ⟨rfl, hb⟩
   rw [hrm, hT1]
   exact ⟨rfl, hW.below hb, Frm.ofBelow hb⟩
  | true =>
   have hT1 : T1 = cutT T td z := by rw [e1, mvA, roomT, if_neg (by rw [hq]; simp)]
   rw [hT1]
   exact room_cut p B T n td z W hW hwn htd (hO.small.node td) (hO.sorted.node td) (hO.wf_find td z) hcnt hrm hq)
 have HLN := qh (fun W (h : TreeB W p B T) => h.look _ hwn)
 have HIN := qh (fun W h hr => inside_calls p B T td n k false W h hO htd (hins hr))
 have HCK := qh (fun W => name_Check.calls z (Sp.check z.data.toList) W (by rw [name_Check.f, if_pos hz]))
 rw [hck] at HCK
 have HL1 := qh (fun W (h : TreeB W p B T1) => h.look _ hwn)
 have HST := qh (fun W v (h : TreeB W p B T1) (hs : EntsAt W v (T1.node n).ents) => h.store n hwn { T1.node n with up := td } v hs c1)
 have HL2 := qh (fun W (h : TreeB W p B T2) => h.look fr hfr)
 have HCU := qh (fun W A c h hc => entsCut_calls A c (T2.node fr).ents s W h hc f1 f2 f3)
 have HEN2 := qh (fun v W h hv => enter_calls p B T2 fr v (cutEn (T2.node fr).ents s) W h hfr hv c2)
 rw [show T2.enter fr (cutEn (T2.node fr).ents s) = T3 from e3.symm] at HEN2
 have HL3 := qh (fun W (h : TreeB W p B T3) => h.look td htd)
 have HPU := qh (fun W A c h hc => entsPut_calls A c (T3.node td).ents ⟨z, n⟩ W h hc t1 t2 t3)
 have HEN3 := qh (fun v W h hv => enter_calls p B T3 td v (insE (T3.node td).ents ⟨z, n⟩) W h htd hv c3)
 rw [show T3.enter td (insE (T3.node td).ents ⟨z, n⟩) = mvD T3 td n z from rfl] at HEN3
 rw [show T1.set n { T1.node n with up := td } = T2 from e2.symm] at HST
 clear h hO hfr htd hz hfind h1 h2 hck hins hrm hcnt e1 e2 e3 c1 c2 c3 f1 f2 f3 t1 t2 t3 hwn
 generalize mvD T3 td n z = T4 at *
 generalize T1.node n = y1 at *
 obtain ⟨k1, u1, d1, l1⟩ := y1
 generalize T2.node fr = x2 at *
 obtain ⟨k2, u2, d2, l2⟩ := x2
 generalize T3.node td = x3 at *
 obtain ⟨k3, u3, d3, l3⟩ := x3
 generalize T.node n = yn at *
 obtain ⟨kn, un, dn, ln⟩ := yn
 generalize T.node fr = xf at *
 obtain ⟨kf, uf, df, lf⟩ := xf
 simp only [] at *
 by_cases hkn : kn = 1
 ·
  subst hkn
  have HIN2 := qh (fun W h => HIN.out W h rfl)
  clear HIN
  go_enter Try.func36, Try.ntmps36
  go_wp2
  have hh1 := heap_alloc_new w (.cells #[.int .i64 fr, .int .i64 td] 3)
  have hb1 := (Below.refl _ w).alloc (Nat.le_refl _) (.cells #[.int .i64 fr, .int .i64 td] 3)
  generalize w.alloc (.cells #[.int .i64 fr, .int .i64 td] 3) = w1 at hh1 hb1 ⊢
  have HB1 := qh hb1
  have HT1 := qh (HT.out.below hb1)
  generalize hge : w.heap.size = g at hh1 HB1 ⊢
  have HGE := qh hge
  have HH1 := qh hh1
  have x0 : w1.cell? ⟨g, 0, none⟩ = some (.int .i64 fr) := by rw [blk_cell hh1]; rfl
  clear hge hh1 hb1 HT
  refine wp_loop_rounds 3 ?_
  rw [rounds_succ]
  go_wp2_with (go_at_call 50; refine (HD1.out _ HT1.out.at_).mono ?_; rintro e w2 ⟨rfl, hb2⟩; have HT2 := qh (HT1.out.below hb2); have HB2 := qh (HB1.out.trans (hb2.mono (by rw [← HGE.out]; exact HB1.out.size))); have hh2 := (hb2.block g (blk_lt HH1.out)).trans HH1.out; have x1 : w2.cell? ⟨g, 1, none⟩ = some (.int .i64 td) := (by rw [blk_cell hh2]; rfl); clear hh2 hb2)
  clear x0
  rw [rounds_succ]
  go_wp2_with (go_at_call 50; refine (HD2.out _ HT2.out.at_).mono ?_; rintro e w3 ⟨rfl, hb3⟩; have HT3 := qh (HT2.out.below hb3); have HB3 := qh (HB2.out.trans (hb3.mono (by rw [← HGE.out]; exact HB2.out.size))); clear hb3)
  have c3 := HT3.out.cell0
  obtain ⟨A3, m3, hle3, hC3, hrun⟩ := HLF.out _ HT3.out
  have hrun3 := hrun _ (Below.refl _ _)
  have HC3 := qh hC3
  clear hrun hC3 x1
  rw [rounds_succ]
  go_upto_region 21 with (first | (go_at_call 39; refine (HF.out _ _ _ HC3.out hle3).mono ?_; rintro e w4 ⟨rfl, hb4⟩; have HT4 := qh (HT3.out.below hb4); have HB4 := qh (HB3.out.trans (hb4.mono (by rw [← HGE.out]; exact HB3.out.size))); clear hb4) | (go_at_call 49; refine (HCK.out _).mono ?_; rintro e w5 ⟨rfl, hb5⟩; have HT5 := qh (HT4.out.below hb5); have HB5 := qh (HB4.out.trans (hb5.mono (by rw [← HGE.out]; exact HB4.out.size))); have c5 := HT5.out.cell0; obtain ⟨A5, m5, hle5, hC5, hrun⟩ := HLN.out _ HT5.out; have hrun5 := hrun _ (Below.refl _ _); clear hrun hC5 hb5) | (go_at_call 51; refine (HIN2.out _ HT5.out).mono ?_; rintro e w6 ⟨rfl, rfl⟩) | (go_at_call 52; refine (HRM.out _ HT5.out).mono ?_; rintro e w7 ⟨rfl, hT7, hF7⟩; have HT7 := qh hT7; have HF7 := qh hF7; have c7 := HT7.out.cell0; obtain ⟨A7, m7, hle7, hC7, hrun⟩ := HL1.out _ HT7.out; have HE7 := qh (show EntsAt w7 (.slice A7 l1.length m7) l1 from ⟨A7, m7, rfl, hle7, hC7⟩); have hrun7 := hrun _ (Below.refl _ _); clear hrun hC7 hle7 hT7 hF7))
  have h8 := heap_alloc_new w7 (.cells #[.int .i64 k1, .int .i64 td, .string d1, .slice A7 l1.length m7] 73)
  have hb8 := (Below.refl _ w7).alloc (Nat.le_refl _) (.cells #[.int .i64 k1, .int .i64 td, .string d1, .slice A7 l1.length m7] 73)
  generalize w7.alloc (.cells #[.int .i64 k1, .int .i64 td, .string d1, .slice A7 l1.length m7] 73) = w8 at h8 hb8 ⊢
  have hT8 := HT7.out.below (below_drew hb8)
  have hE8 := HE7.out.below (below_drew hb8)
  obtain ⟨w9, hup, hT9, hF9⟩ := HST.out w8.drew _ hT8 hE8
  unfold ndV at hup
  simp only [] at hup
  have h8' : w8.drew.heap[w7.heap.size]? = some (.cells #[.int .i64 k1, .int .i64 td, .string d1, .slice A7 l1.length m7] 73 (0, 0)) := h8
  have x0 : w8.drew.cell? ⟨w7.heap.size, 0, none⟩ = some (.int .i64 k1) := by rw [blk_cell h8']; rfl
  have x1 : w8.drew.cell? ⟨w7.heap.size, 1, none⟩ = some (.int .i64 td) := by rw [blk_cell h8']; rfl
  have x2 : w8.drew.cell? ⟨w7.heap.size, 2, none⟩ = some (.string d1) := by rw [blk_cell h8']; rfl
  have x3 : w8.drew.cell? ⟨w7.heap.size, 3, none⟩ = some (.slice A7 l1.length m7) := by rw [blk_cell h8']; rfl
  have d0 : w8.drew.cell? ⟨p, 0, none⟩ = some (.map (some B)) := hT8.cell0
  have HT9 := qh hT9
  have HF9 := qh ((((Frm.ofBelow (p := p) (B := B) (by rw [HGE.out]; exact HB5.out)).trans HF7.out).trans (Frm.ofBelow (below_drew hb8))).trans hF9)
  clear hT9 hF9 hT8 hE8 h8 h8' hb8 hrun7 c7 hrun3 c3 hrun5 c5
  go_region
  clear hup x0 x1 x2 x3 d0
  have c9 := HT9.out.cell0
  obtain ⟨A9, m9, hle9, hC9, hrun⟩ := HL2.out _ HT9.out
  have hrun9 := hrun _ (Below.refl _ _)
  have HC9 := qh hC9
  clear hrun hC9
  go_upto_region 23 with (first | (go_at_call 54; refine (HCU.out _ _ _ HC9.out hle9).mono ?_; rintro e w10 ⟨v10, rfl, ho10, hb10⟩; have HT10 := qh (HT9.out.below hb10); have HE10 := qh (OwnE.entsAt ho10); have HF10 := qh (HF9.out.trans (Frm.ofBelow hb10)); clear ho10 hb10) | (go_at_call 53; refine (HEN2.out _ _ HT10.out HE10.out).mono ?_; rintro e w11 ⟨rfl, hT11, hF11⟩; have HT11 := qh hT11; have HF11 := qh (HF10.out.trans hF11); clear hT11 hF11))
  have c11 := HT11.out.cell0
  obtain ⟨A11, m11, hle11, hC11, hrun⟩ := HL3.out _ HT11.out
  have hrun11 := hrun _ (Below.refl _ _)
  have HC11 := qh hC11
  clear hrun hC11 hrun9 c9
  go_wp2_with (first | (go_at_call 55; refine (HPU.out _ _ _ HC11.out hle11).mono ?_; rintro e w12 ⟨v12, rfl, ho12, hb12⟩; have HT12 := qh (HT11.out.below hb12); have HE12 := qh (OwnE.entsAt ho12); have HF12 := qh (HF11.out.trans (Frm.ofBelow hb12)); clear ho12 hb12) | (go_at_call 53; refine (HEN3.out _ _ HT12.out HE12.out).mono ?_; rintro e w13 ⟨rfl, hT13, hF13⟩))
  go_ret
  exact ⟨rfl, hT13, HF12.out.trans hF13⟩
 ·
  have b5 : (kn == 1) = false := beq_eq_false_iff_ne.2 hkn
  clear HIN hkn
  go_enter Try.func36, Try.ntmps36
  go_wp2
  have hh1 := heap_alloc_new w (.cells #[.int .i64 fr, .int .i64 td] 3)
  have hb1 := (Below.refl _ w).alloc (Nat.le_refl _) (.cells #[.int .i64 fr, .int .i64 td] 3)
  generalize w.alloc (.cells #[.int .i64 fr, .int .i64 td] 3) = w1 at hh1 hb1 ⊢
  have HB1 := qh hb1
  have HT1 := qh (HT.out.below hb1)
  generalize hge : w.heap.size = g at hh1 HB1 ⊢
  have HGE := qh hge
  have HH1 := qh hh1
  have x0 : w1.cell? ⟨g, 0, none⟩ = some (.int .i64 fr) := by rw [blk_cell hh1]; rfl
  clear hge hh1 hb1 HT
  refine wp_loop_rounds 3 ?_
  rw [rounds_succ]
  go_wp2_with (go_at_call 50; refine (HD1.out _ HT1.out.at_).mono ?_; rintro e w2 ⟨rfl, hb2⟩; have HT2 := qh (HT1.out.below hb2); have HB2 := qh (HB1.out.trans (hb2.mono (by rw [← HGE.out]; exact HB1.out.size))); have hh2 := (hb2.block g (blk_lt HH1.out)).trans HH1.out; have x1 : w2.cell? ⟨g, 1, none⟩ = some (.int .i64 td) := (by rw [blk_cell hh2]; rfl); clear hh2 hb2)
  clear x0
  rw [rounds_succ]
  go_wp2_with (go_at_call 50; refine (HD2.out _ HT2.out.at_).mono ?_; rintro e w3 ⟨rfl, hb3⟩; have HT3 := qh (HT2.out.below hb3); have HB3 := qh (HB2.out.trans (hb3.mono (by rw [← HGE.out]; exact HB2.out.size))); clear hb3)
  have c3 := HT3.out.cell0
  obtain ⟨A3, m3, hle3, hC3, hrun⟩ := HLF.out _ HT3.out
  have hrun3 := hrun _ (Below.refl _ _)
  have HC3 := qh hC3
  clear hrun hC3 x1
  rw [rounds_succ]
  go_upto_region 21 with (first | (go_at_call 39; refine (HF.out _ _ _ HC3.out hle3).mono ?_; rintro e w4 ⟨rfl, hb4⟩; have HT4 := qh (HT3.out.below hb4); have HB4 := qh (HB3.out.trans (hb4.mono (by rw [← HGE.out]; exact HB3.out.size))); clear hb4) | (go_at_call 49; refine (HCK.out _).mono ?_; rintro e w5 ⟨rfl, hb5⟩; have HT5 := qh (HT4.out.below hb5); have HB5 := qh (HB4.out.trans (hb5.mono (by rw [← HGE.out]; exact HB4.out.size))); have c5 := HT5.out.cell0; obtain ⟨A5, m5, hle5, hC5, hrun⟩ := HLN.out _ HT5.out; have hrun5 := hrun _ (Below.refl _ _); clear hrun hC5 hb5) | (go_at_call 52; refine (HRM.out _ HT5.out).mono ?_; rintro e w7 ⟨rfl, hT7, hF7⟩; have HT7 := qh hT7; have HF7 := qh hF7; have c7 := HT7.out.cell0; obtain ⟨A7, m7, hle7, hC7, hrun⟩ := HL1.out _ HT7.out; have HE7 := qh (show EntsAt w7 (.slice A7 l1.length m7) l1 from ⟨A7, m7, rfl, hle7, hC7⟩); have hrun7 := hrun _ (Below.refl _ _); clear hrun hC7 hle7 hT7 hF7))
  have h8 := heap_alloc_new w7 (.cells #[.int .i64 k1, .int .i64 td, .string d1, .slice A7 l1.length m7] 73)
  have hb8 := (Below.refl _ w7).alloc (Nat.le_refl _) (.cells #[.int .i64 k1, .int .i64 td, .string d1, .slice A7 l1.length m7] 73)
  generalize w7.alloc (.cells #[.int .i64 k1, .int .i64 td, .string d1, .slice A7 l1.length m7] 73) = w8 at h8 hb8 ⊢
  have hT8 := HT7.out.below (below_drew hb8)
  have hE8 := HE7.out.below (below_drew hb8)
  obtain ⟨w9, hup, hT9, hF9⟩ := HST.out w8.drew _ hT8 hE8
  unfold ndV at hup
  simp only [] at hup
  have h8' : w8.drew.heap[w7.heap.size]? = some (.cells #[.int .i64 k1, .int .i64 td, .string d1, .slice A7 l1.length m7] 73 (0, 0)) := h8
  have x0 : w8.drew.cell? ⟨w7.heap.size, 0, none⟩ = some (.int .i64 k1) := by rw [blk_cell h8']; rfl
  have x1 : w8.drew.cell? ⟨w7.heap.size, 1, none⟩ = some (.int .i64 td) := by rw [blk_cell h8']; rfl
  have x2 : w8.drew.cell? ⟨w7.heap.size, 2, none⟩ = some (.string d1) := by rw [blk_cell h8']; rfl
  have x3 : w8.drew.cell? ⟨w7.heap.size, 3, none⟩ = some (.slice A7 l1.length m7) := by rw [blk_cell h8']; rfl
  have d0 : w8.drew.cell? ⟨p, 0, none⟩ = some (.map (some B)) := hT8.cell0
  have HT9 := qh hT9
  have HF9 := qh ((((Frm.ofBelow (p := p) (B := B) (by rw [HGE.out]; exact HB5.out)).trans HF7.out).trans (Frm.ofBelow (below_drew hb8))).trans hF9)
  clear hT9 hF9 hT8 hE8 h8 h8' hb8 hrun7 c7 hrun3 c3 hrun5 c5
  go_region
  clear hup x0 x1 x2 x3 d0
  have c9 := HT9.out.cell0
  obtain ⟨A9, m9, hle9, hC9, hrun⟩ := HL2.out _ HT9.out
  have hrun9 := hrun _ (Below.refl _ _)
  have HC9 := qh hC9
  clear hrun hC9
  go_upto_region 23 with (first | (go_at_call 54; refine (HCU.out _ _ _ HC9.out hle9).mono ?_; rintro e w10 ⟨v10, rfl, ho10, hb10⟩; have HT10 := qh (HT9.out.below hb10); have HE10 := qh (OwnE.entsAt ho10); have HF10 := qh (HF9.out.trans (Frm.ofBelow hb10)); clear ho10 hb10) | (go_at_call 53; refine (HEN2.out _ _ HT10.out HE10.out).mono ?_; rintro e w11 ⟨rfl, hT11, hF11⟩; have HT11 := qh hT11; have HF11 := qh (HF10.out.trans hF11); clear hT11 hF11))
  have c11 := HT11.out.cell0
  obtain ⟨A11, m11, hle11, hC11, hrun⟩ := HL3.out _ HT11.out
  have hrun11 := hrun _ (Below.refl _ _)
  have HC11 := qh hC11
  clear hrun hC11 hrun9 c9
  go_wp2_with (first | (go_at_call 55; refine (HPU.out _ _ _ HC11.out hle11).mono ?_; rintro e w12 ⟨v12, rfl, ho12, hb12⟩; have HT12 := qh (HT11.out.below hb12); have HE12 := qh (OwnE.entsAt ho12); have HF12 := qh (HF11.out.trans (Frm.ofBelow hb12)); clear ho12 hb12) | (go_at_call 53; refine (HEN3.out _ _ HT12.out HE12.out).mono ?_; rintro e w13 ⟨rfl, hT13, hF13⟩))
  go_ret
  exact ⟨rfl, hT13, HF12.out.trans hF13⟩
end Go.Proofs.Ytnpeeiikdcankaa.Tw

namespace Go.Proofs.Ytnpeeiikdcankaa.X
end Go.Proofs.Ytnpeeiikdcankaa.X
namespace Go.Proofs.Ytnpeeiikdcankaa.Pu
open Go Go.RowKit Go.Proofs Go.Proofs.Ytnpeeiikdcankaa Go.Proofs.YtnpeeiikdcankaaW.PrintWords Go.Proofs.Ytnpeeiikdcankaa.Ext Go.Proofs.Ytnpeeiikdcankaa.X
end Go.Proofs.Ytnpeeiikdcankaa.Pu

namespace Go.Proofs.Ytnpeeiikdcankaa.Pu
open Go Go.RowKit Go.Proofs Go.Proofs.Ytnpeeiikdcankaa Go.Proofs.YtnpeeiikdcankaaW.PrintWords Go.Proofs.Ytnpeeiikdcankaa.Ext Go.Proofs.Ytnpeeiikdcankaa.X
end Go.Proofs.Ytnpeeiikdcankaa.Pu

namespace Go.Proofs.Ytnpeeiikdcankaa.Tw
open Go Go.RowKit Go.Shelf Go.Proofs Go.Proofs.Ytnpeeiikdcankaa Go.Proofs.YtnpeeiikdcankaaW.PrintWords Go.Proofs.Ytnpeeiikdcankaa.Ext Go.Proofs.Ytnpeeiikdcankaa.X Go.Proofs.Ytnpeeiikdcankaa.Pu
abbrev RN := S9001
def zR : RN := ⟨0, 0, ⟨#[]⟩, 0, ⟨#[]⟩⟩
def atR (L : List RN) (n : Int) : RN := (L.find? (fun r => r.f0 == n)).getD zR
def inQ (d : Int) (s : ByteArray) (r : RN) : Bool := r.f1 == d && (r.f2.toList == s.toList && !(r.f0 == 1))
def inR (L : List RN) (d : Int) (s : ByteArray) : Int := match L.find? (inQ d s) with | some r => r.f0 | none => 0
def isIn (n : Int) (r : RN) : Bool := r.f1 == n && !(r.f0 == 1)
def stepE (n : Int) (l : List En) (r : RN) : List En := if isIn n r = true then insE l ⟨r.f2, r.f0⟩ else l
def entsOf (L : List RN) (n : Int) : List En := L.foldl (stepE n) []
def ndOf (L : List RN) (r : RN) : Nd := ⟨r.f3, r.f1, r.f4, entsOf L r.f0⟩
def trOf (L : List RN) (last : Int) : Tr := ⟨fun n => (L.find? (fun r => r.f0 == n)).map (ndOf L), L.length, last⟩
theorem isIn_iff {n : Int} {r : RN} : isIn n r = true ↔ r.f1 = n ∧ r.f0 ≠ 1 := by simp [isIn]
theorem entsOf_snoc (L : List RN) (x : RN) (n : Int) : entsOf (L ++ [x]) n = if isIn n x = true then insE (entsOf L n) ⟨x.f2, x.f0⟩ else entsOf L n := by
 unfold entsOf; rw [List.foldl_append]; rfl
theorem fold_mem (n : Int) (e : En) : ∀ (L : List RN) (acc : List En), e ∈ L.foldl (stepE n) acc ↔ e ∈ acc ∨ ∃ r ∈ L, isIn n r = true ∧ e = ⟨r.f2, r.f0⟩
 | [], acc => by simp
 | a :: L, acc => by
  rw [List.foldl_cons, fold_mem n e L]
  unfold stepE
  split
  ·
   rename_i h
   rw [insE_mem]
   constructor
   ·
    rintro ((h1 | h1) | ⟨r, h1, h2⟩)
    · exact .inr ⟨a, List.mem_cons_self, h, h1⟩
    · exact .inl h1
    · exact .inr ⟨r, List.mem_cons_of_mem _ h1, h2⟩
   ·
    rintro (h1 | ⟨r, h1, h2, h3⟩)
    · exact .inl (.inr h1)
    ·
     rcases List.mem_cons.1 h1 with rfl | h1
     · exact .inl (.inl h3)
     · exact .inr ⟨r, h1, h2, h3⟩
  ·
   rename_i h
   constructor
   ·
    rintro (h1 | ⟨r, h1, h2⟩)
    · exact .inl h1
    · exact .inr ⟨r, List.mem_cons_of_mem _ h1, h2⟩
   ·
    rintro (h1 | ⟨r, h1, h2, h3⟩)
    · exact .inl h1
    ·
     rcases List.mem_cons.1 h1 with rfl | h1
     · exact absurd h2 h
     · exact .inr ⟨r, h1, h2, h3⟩
theorem mem_ents {L : List RN} {n : Int} {e : En} : e ∈ entsOf L n ↔ ∃ r ∈ L, isIn n r = true ∧ e = ⟨r.f2, r.f0⟩ := by
 unfold entsOf; rw [fold_mem]; simp
theorem fold_len (n : Int) : ∀ (L : List RN) (acc : List En), (L.foldl (stepE n) acc).length ≤ acc.length + L.length
 | [], acc => by simp
 | a :: L, acc => by
  rw [List.foldl_cons]
  have h := fold_len n L (stepE n acc a)
  have h2 : (stepE n acc a).length ≤ acc.length + 1 := by
   unfold stepE
   split
   · rw [insE_len]; exact Nat.le_refl _
   · omega
  simp only [List.length_cons]
  omega
theorem ents_len (L : List RN) (n : Int) : (entsOf L n).length ≤ L.length := by
 have := fold_len n L []
 simpa [entsOf] using this
theorem fold_rt (n : Int) : ∀ (L : List RN) (acc : List En), Rt acc → (∀ e ∈ acc, ∀ r ∈ L, isIn n r = true → e.f0 ≠ r.f2) → L.Pairwise (fun a b => a.f1 = b.f1 → a.f0 ≠ 1 → b.f0 ≠ 1 → a.f2 ≠ b.f2) → Rt (L.foldl (stepE n) acc)
 | [], acc, h, _, _ => h
 | a :: L, acc, h, hn, hp => by
  rw [List.foldl_cons]
  obtain ⟨h1, h2⟩ := List.pairwise_cons.1 hp
  refine fold_rt n L _ ?_ ?_ h2
  ·
   unfold stepE
   split
   ·
    rename_i hi
    exact insE_rt _ _ h (fun e he => hn e he a List.mem_cons_self hi)
   · exact h
  ·
   intro e he r hr hi
   unfold stepE at he
   split at he
   ·
    rename_i hj
    rcases (insE_mem _ _ _).1 he with rfl | he
    ·
     obtain ⟨i1, i2⟩ := isIn_iff.1 hi
     obtain ⟨j1, j2⟩ := isIn_iff.1 hj
     exact h1 r hr (j1.trans i1.symm) j2 i2
    · exact hn e he r (List.mem_cons_of_mem _ hr) hi
   · exact hn e he r (List.mem_cons_of_mem _ hr) hi
structure GoodL (L : List RN) (last : Int) : Prop where
 len : L.length ≤ 4096
 num : ∀ r ∈ L, 1 ≤ r.f0 ∧ r.f0 ≤ last
 uniq : L.Pairwise (fun a b => a.f0 ≠ b.f0)
 names : L.Pairwise (fun a b => a.f1 = b.f1 → a.f0 ≠ 1 → b.f0 ≠ 1 → a.f2 ≠ b.f2)
 data : ∀ r ∈ L, r.f4.size ≤ 65536
 up : ∀ r ∈ L, (atR L r.f1).f3 = 1
 root : ∃ r ∈ L, r.f0 = 1 ∧ r.f1 = 1 ∧ r.f3 = 1
theorem GoodL.rt {L : List RN} {last : Int} (h : GoodL L last) (n : Int) : Rt (entsOf L n) := fold_rt n L [] List.Pairwise.nil (by simp) h.names
theorem find_num {L : List RN} {r : RN} (hu : L.Pairwise (fun a b => a.f0 ≠ b.f0)) (hr : r ∈ L) : L.find? (fun q => q.f0 == r.f0) = some r := by
 induction L with
 | nil => cases hr
 | cons a L ih =>
  obtain ⟨h1, h2⟩ := List.pairwise_cons.1 hu
  rw [List.find?_cons]
  rcases List.mem_cons.1 hr with rfl | hr
  · simp
  ·
   have := h1 r hr
   rw [show (a.f0 == r.f0) = false by simpa using this]
   exact ih h2 hr
theorem at_mem {L : List RN} {last : Int} (h : GoodL L last) {r : RN} (hr : r ∈ L) : atR L r.f0 = r := by
 unfold atR; rw [find_num h.uniq hr]; rfl
theorem at_kind {L : List RN} {n : Int} (h : (atR L n).f3 ≠ 0) : ∃ r ∈ L, r.f0 = n ∧ atR L n = r := by
 unfold atR at h ⊢
 cases hf : L.find? (fun r => r.f0 == n) with
 | none => rw [hf] at h; exact absurd rfl h
 | some r =>
  refine ⟨r, List.mem_of_find?_eq_some hf, ?_, rfl⟩
  have := List.find?_some hf
  simpa using this
theorem GoodL.noEnts {L : List RN} {last : Int} (h : GoodL L last) {n : Int} (hn : L.find? (fun r => r.f0 == n) = none) : entsOf L n = [] := by
 cases he : entsOf L n with
 | nil => rfl
 | cons e l =>
  obtain ⟨r, hr, hi, _⟩ := mem_ents.1 (show e ∈ entsOf L n by rw [he]; exact List.mem_cons_self)
  obtain ⟨i1, i2⟩ := isIn_iff.1 hi
  have hk := h.up r hr
  rw [i1] at hk
  unfold atR at hk
  rw [hn] at hk
  cases hk
theorem node_of {L : List RN} {last : Int} (h : GoodL L last) (n : Int) : (trOf L last).node n = ⟨(atR L n).f3, (atR L n).f1, (atR L n).f4, entsOf L n⟩ := by
 unfold Tr.node trOf atR
 cases hf : L.find? (fun r => r.f0 == n) with
 | none => simp only [hf, Option.map_none, Option.getD_none, h.noEnts hf]; rfl
 | some r =>
  have := List.find?_some hf
  have : r.f0 = n := by simpa using this
  simp only [hf, Option.map_some, Option.getD_some, ndOf, this]
theorem find_ents {L : List RN} {last : Int} (h : GoodL L last) (n : Int) (s : ByteArray) : findE (entsOf L n) s = (inR L n s, decide (0 < inR L n s)) := by
 have hq : ∀ r : RN, inQ n s r = true ↔ isIn n r = true ∧ r.f2 = s := by
  intro r
  rw [isIn_iff]
  simp only [inQ, Bool.and_eq_true, beq_iff_eq, Bool.not_eq_true', beq_eq_false_iff_ne, toL_inj]
  constructor
  · rintro ⟨a, b, c⟩; exact ⟨⟨a, c⟩, b⟩
  · rintro ⟨⟨a, c⟩, b⟩; exact ⟨a, b, c⟩
 unfold findE inR
 cases hf : L.find? (inQ n s) with
 | none =>
  have : (entsOf L n).find? (fun e => e.f0.toList == s.toList) = none := by
   rw [List.find?_eq_none]
   intro e he
   obtain ⟨r, hr, hi, rfl⟩ := mem_ents.1 he
   have := List.find?_eq_none.1 hf r hr
   rw [hq] at this
   simp only [beq_iff_eq, toL_inj]
   exact fun e => this ⟨hi, e⟩
  rw [this]; rfl
 | some r =>
  have hr := List.mem_of_find?_eq_some hf
  have hrq := (hq r).1 (List.find?_some hf)
  have hm : (⟨r.f2, r.f0⟩ : En) ∈ entsOf L n := mem_ents.2 ⟨r, hr, hrq.1, rfl⟩
  cases hg : (entsOf L n).find? (fun e => e.f0.toList == s.toList) with
  | none =>
   have := List.find?_eq_none.1 hg _ hm
   simp [hrq.2] at this
  | some e =>
   have he := List.mem_of_find?_eq_some hg
   have hes := List.find?_some hg
   have hes : e.f0 = s := by simpa [toL_inj] using hes
   have hpos := (h.num r hr).1
   have : e = ⟨r.f2, r.f0⟩ := by
    apply Classical.byContradiction
    intro hne
    have hrt := h.rt n
    have key : bl e.f0 r.f2 = true ∨ bl r.f2 e.f0 = true := by
     obtain ⟨i, hi, rfl⟩ := List.getElem_of_mem he
     obtain ⟨j, hj, hj2⟩ := List.getElem_of_mem hm
     rcases Nat.lt_trichotomy i j with hlt | rfl | hgt
     ·
      have := List.pairwise_iff_getElem.1 hrt i j hi hj hlt
      rw [hj2] at this; exact .inl this
     · exact absurd hj2 hne
     ·
      have := List.pairwise_iff_getElem.1 hrt j i hj hi hgt
      rw [hj2] at this; exact .inr this
    rw [hes, hrq.2, bl_irr] at key
    rcases key with h | h <;> cases h
   subst this
   simp only []
   rw [decide_eq_true (by omega)]
def putRE (L : List RN) (d : Int) (s : ByteArray) (kind : Int) (data : ByteArray) : Int :=
 if dirE (atR L d).f3 ≠ 0 then dirE (atR L d).f3 else if Sp.check s.data.toList ≠ 0 then Sp.check s.data.toList else
  if 0 < inR L d s then 6 else if mayE kind data ≠ 0 then mayE kind data else if 4096 ≤ L.length then 12 else 0
def RAt (w : World) (v : Value) (L : List RN) (last : Int) : Prop := ∃ A c, v = .agg #[.slice A L.length c, .int .i64 last] ∧ L.length ≤ c ∧ Kd.C k9001 w A L.length L
theorem RAt.below {w w' : World} {v : Value} {L : List RN} {last : Int} (h : RAt w v L last) (hb : Below w.heap.size w w') : RAt w' v L last := by
 obtain ⟨A, c, e, h1, h2⟩ := h
 exact ⟨A, c, e, h1, Kd.C_below h2 hb⟩
theorem putRE_zero {L : List RN} {d : Int} {s : ByteArray} {kind : Int} {data : ByteArray} (h : putRE L d s kind data = 0) :
  dirE (atR L d).f3 = 0 ∧ Sp.check s.data.toList = 0 ∧ ¬ (0 < inR L d s) ∧ mayE kind data = 0 ∧ L.length < 4096 := by
 unfold putRE at h
 split at h
 · rename_i g; exact absurd h g
 ·
  rename_i g1
  split at h
  · rename_i g; exact absurd h g
  ·
   rename_i g2
   split at h
   · cases h
   ·
    rename_i g3
    split at h
    · rename_i g; exact absurd h g
    ·
     rename_i g4
     split at h
     · cases h
     ·
      rename_i g5
      exact ⟨Decidable.byContradiction fun e => g1 e, Decidable.byContradiction fun e => g2 e, g3, Decidable.byContradiction fun e => g4 e, by omega⟩
theorem putE_eq {L : List RN} {last : Int} (h : GoodL L last) (d : Int) (s : ByteArray) (kind : Int) (data : ByteArray) : putE (trOf L last) d s kind data = putRE L d s kind data := by
 unfold putE putRE
 rw [node_of h d]
 simp only [find_ents h d s, decide_eq_true_eq]
 rfl
theorem find_snoc (L : List RN) (x : RN) (n : Int) : (L ++ [x]).find? (fun r => r.f0 == n) = match L.find? (fun r => r.f0 == n) with | some r => some r | none => if x.f0 = n then some x else none := by
 rw [List.find?_append]
 cases L.find? (fun r => r.f0 == n) with
 | some r => rfl
 | none =>
  by_cases e : x.f0 = n
  · simp [List.find?_cons, e]
  · simp [List.find?_cons, e]
theorem at_snoc {L : List RN} {x : RN} {n : Int} (h : (atR L n).f3 ≠ 0) : atR (L ++ [x]) n = atR L n := by
 unfold atR at h ⊢
 rw [find_snoc]
 cases hf : L.find? (fun r => r.f0 == n) with
 | some r => rfl
 | none => rw [hf] at h; exact absurd rfl h
theorem fresh {L : List RN} {last : Int} (h : GoodL L last) {n : Int} (hn : last < n) : L.find? (fun r => r.f0 == n) = none := by
 rw [List.find?_eq_none]
 intro r hr e
 have := (h.num r hr).2
 have e : r.f0 = n := by simpa using e
 omega
theorem mayE_zero {kind : Int} {data : ByteArray} (h : mayE kind data = 0) : (kind = 1 ∨ kind = 2 ∨ kind = 3) ∧ data.size ≤ 65536 := by
 unfold mayE at h
 split at h
 · cases h
 ·
  split at h
  · cases h
  ·
   split at h
   · cases h
   ·
    rename_i h1 _ h3
    exact ⟨by omega, by omega⟩
theorem inR_none {L : List RN} {last d : Int} {s : ByteArray} (h : GoodL L last) (hn : ¬ 0 < inR L d s) : ∀ r ∈ L, r.f1 = d → r.f0 ≠ 1 → r.f2 ≠ s := by
 intro r hr h1 h2 h3
 apply hn
 unfold inR
 cases hf : L.find? (inQ d s) with
 | none =>
  have := List.find?_eq_none.1 hf r hr
  simp [inQ, h1, h2, h3] at this
 | some q =>
  have := (h.num q (List.mem_of_find?_eq_some hf)).1
  show 0 < q.f0
  omega
theorem GoodL.last1 {L : List RN} {last : Int} (h : GoodL L last) : 1 ≤ last := by
 obtain ⟨r, hr, h1, _⟩ := h.root
 have := (h.num r hr).2
 omega
theorem GoodL.put {L : List RN} {last : Int} (h : GoodL L last) {d : Int} {s : ByteArray} {kind : Int} {data : ByteArray} (he : putRE L d s kind data = 0) : GoodL (L ++ [⟨last + 1, d, s, kind, data⟩]) (last + 1) := by
 obtain ⟨z1, z2, z3, z4, z5⟩ := putRE_zero he
 have hk := dirE_zero z1
 have hla := h.last1
 refine ⟨by simp; omega, ?_, ?_, ?_, ?_, ?_, ?_⟩
 ·
  intro r hr
  rcases List.mem_append.1 hr with hr | hr
  · have := h.num r hr; omega
  ·
   have : r = _ := List.mem_singleton.1 hr
   subst this
   exact ⟨by show 1 ≤ last + 1; omega, Int.le_refl _⟩
 ·
  rw [List.pairwise_append]
  refine ⟨h.uniq, List.pairwise_singleton _ _, ?_⟩
  intro a ha b hb
  have : b = _ := List.mem_singleton.1 hb
  subst this
  have := (h.num a ha).2
  show a.f0 ≠ last + 1
  omega
 ·
  rw [List.pairwise_append]
  refine ⟨h.names, List.pairwise_singleton _ _, ?_⟩
  intro a ha b hb
  have : b = _ := List.mem_singleton.1 hb
  subst this
  intro h1 h2 _
  exact inR_none h z3 a ha h1 h2
 ·
  intro r hr
  rcases List.mem_append.1 hr with hr | hr
  · exact h.data r hr
  ·
   have : r = _ := List.mem_singleton.1 hr
   subst this
   exact (mayE_zero z4).2
 ·
  intro r hr
  rcases List.mem_append.1 hr with hr | hr
  · rw [at_snoc (by rw [h.up r hr]; decide)]; exact h.up r hr
  ·
   have : r = _ := List.mem_singleton.1 hr
   subst this
   show (atR _ d).f3 = 1
   rw [at_snoc (by rw [hk]; decide)]; exact hk
 ·
  obtain ⟨r, hr, q⟩ := h.root
  exact ⟨r, List.mem_append_left _ hr, q⟩
theorem putT_eq {L : List RN} {last : Int} (h : GoodL L last) {d : Int} {s : ByteArray} {kind : Int} {data : ByteArray} (he : putRE L d s kind data = 0) :
  putT (trOf L last) d s kind data = trOf (L ++ [⟨last + 1, d, s, kind, data⟩]) (last + 1) := by
 obtain ⟨z1, z2, z3, z4, z5⟩ := putRE_zero he
 have hk := dirE_zero z1
 have hla := h.last1
 have hk0 : (atR L d).f3 ≠ 0 := by rw [hk]; decide
 obtain ⟨q, hq, hqd, hqe⟩ := at_kind hk0
 have hqn := (h.num q hq).2
 have hdl : d ≠ last + 1 := by omega
 have hnode := node_of h d
 have hf0 := fresh h (show last < last + 1 by omega)
 have hents : ∀ n, entsOf (L ++ [⟨last + 1, d, s, kind, data⟩]) n = if n = d then insE (entsOf L d) ⟨s, last + 1⟩ else entsOf L n := by
  intro n
  rw [entsOf_snoc]
  by_cases e : n = d
  ·
   subst e
   rw [if_pos (show isIn n ⟨last + 1, n, s, kind, data⟩ = true from isIn_iff.2 ⟨rfl, by show last + 1 ≠ 1; omega⟩), if_pos rfl]
  · rw [if_neg (fun hi => e (isIn_iff.1 hi).1.symm), if_neg e]
 unfold putT Tr.enter
 have hn2 : ((trOf L last).bump.set ((trOf L last).last + 1) ⟨kind, d, data, []⟩).node d = (trOf L last).node d := node_set_ne hdl
 rw [hn2, hnode]
 unfold Tr.set Tr.bump trOf
 simp only [Tr.mk.injEq]
 refine ⟨?_, ?_, by trivial⟩
 ·
  funext n
  rw [find_snoc]
  by_cases e : n = d
  ·
   subst e
   rw [if_pos rfl]
   have hfd : L.find? (fun r => r.f0 == n) = some q := by
    have := find_num h.uniq hq
    rw [hqd] at this
    exact this
   rw [hfd, hqe]
   simp only [Option.map_some, ndOf, hqd, hents, if_true]
  ·
   rw [if_neg e]
   by_cases e2 : n = last + 1
   ·
    subst e2
    rw [if_pos rfl, hf0]
    simp only [if_true, Option.map_some, ndOf, hents, if_neg e]
    rw [h.noEnts hf0]
   ·
    rw [if_neg e2]
    cases hf : L.find? (fun r => r.f0 == n) with
    | none =>
     simp only [Option.map_none]
     rw [if_neg (fun e3 => e2 e3.symm)]
     rfl
    | some r =>
     have hrn : r.f0 = n := by simpa using List.find?_some hf
     simp only [Option.map_some, ndOf, hents, hrn, if_neg e]
 ·
  simp only [hf0, Option.map_none, Option.isSome_none]
  have hfd : L.find? (fun r => r.f0 == d) = some q := by
   have := find_num h.uniq hq
   rw [hqd] at this
   exact this
  simp [hdl, hfd]
theorem good0 : GoodL [⟨1, 1, ⟨#[]⟩, 1, ⟨#[]⟩⟩] 1 := by
 refine ⟨by simp, by simp, List.pairwise_singleton _ _, List.pairwise_singleton _ _, (fun r hr => by rw [List.mem_singleton.1 hr]; exact Nat.zero_le _), (fun r hr => by rw [List.mem_singleton.1 hr]; rfl), ⟨_, List.mem_singleton.2 rfl, rfl, rfl, rfl⟩⟩
theorem T0_eq : T0 = trOf [⟨1, 1, ⟨#[]⟩, 1, ⟨#[]⟩⟩] 1 := by
 unfold T0 trOf
 simp only [Tr.mk.injEq]
 refine ⟨?_, by trivial, by trivial⟩
 funext n
 by_cases e : n = 1
 · subst e; rfl
 · rw [if_neg e, List.find?_cons, show ((1 : Int) == n) = false by simpa using (fun h => e h.symm)]; rfl
theorem TreeB.two {w : World} {p B : Nat} {T : Tr} (h : TreeB w p B T) : w.heap[p]? = some (.cells #[.map (some B), .int .i64 T.last] 54 (0, 0)) ∧ ∃ es clock, w.heap[B]? = some (.map es clock) := by
 obtain ⟨sv, D, h⟩ := h
 exact ⟨h.ptr, h.mapB⟩
theorem RAt.frm {w w' : World} {p B : Nat} {T : Tr} {v : Value} {L : List RN} {last : Int} (h : RAt w v L last) (hT : TreeB w p B T) (hf : Frm w w' p B) : RAt w' v L last := by
 obtain ⟨hp, es, clock, hB⟩ := hT.two
 obtain ⟨A, c, e1, e2, hC⟩ := h
 refine ⟨A, c, e1, e2, hC.1, hC.2.1, fun hn => ?_⟩
 obtain ⟨ad, eA, hc⟩ := hC.2.2 hn
 have key : ∀ (q : List Value) (x : RN) (j : Nat), k9001.K w x q → (∀ i u, q[i]? = some u → w.cell? (ad.add (j * k9001.sz + i)) = some u) → ad.block < w.heap.size ∧ ad.block ≠ p ∧ ad.block ≠ B := by
  intro q x j hK hq
  obtain rfl := k9001_open hK
  have h0 := hq 2 _ rfl
  have hbl : (ad.add (j * k9001.sz + 2)).block = ad.block := by unfold Addr.add; split <;> rfl
  generalize ad.add (j * k9001.sz + 2) = a0 at h0 hbl
  refine ⟨?_, ?_, ?_⟩
  · rw [← hbl]; exact block_lt_of_cell h0
  ·
   intro e
   rw [e] at hbl
   obtain ⟨b, o, sp⟩ := a0
   subst hbl
   simp [World.cell?, hp] at h0
   cases sp with
   | none =>
    simp at h0
    match o, h0 with
    | 0, h0 => simp at h0
    | 1, h0 => simp at h0
    | n + 2, h0 => simp at h0
   | some q => simp at h0
  ·
   intro e
   rw [e] at hbl
   obtain ⟨b, o, sp⟩ := a0
   subst hbl
   simp [World.cell?, hB] at h0
 refine ⟨ad, eA, fun j q hj => ?_⟩
 obtain ⟨cs, hl, hK, hq⟩ := hc j q hj
 obtain ⟨k1, k2, k3⟩ := key cs q j hK hq
 refine ⟨cs, hl, ?_, fun i u hu => ?_⟩
 ·
  obtain rfl := k9001_open hK
  exact k9001_mk _ _
 ·
  have := hq i u hu
  have hbl : (ad.add (j * k9001.sz + i)).block = ad.block := by unfold Addr.add; split <;> rfl
  rw [← this]
  generalize ad.add (j * k9001.sz + i) = a at hbl
  unfold World.cell?
  rw [hbl, hf.block _ k1 k2 k3]
theorem cells_frm {w w' : World} {p B k : Nat} {T : Tr} {cs : Array Value} {t : TypeId} {fr : Nat × Nat} (h : w.heap[k]? = some (.cells cs t fr)) (ht : t ≠ 54) (hT : TreeB w p B T) (hf : Frm w w' p B) : w'.heap[k]? = some (.cells cs t fr) := by
 obtain ⟨hp, es, clock, hB⟩ := hT.two
 refine (hf.block k (Array.getElem?_eq_some_iff.1 h).1 ?_ ?_).trans h
 ·
  rintro rfl
  rw [hp] at h
  injection h with h
  injection h with _ h
  exact ht h.symm
 ·
  rintro rfl
  rw [hB] at h
  cases h
def putL (L : List RN) (last d : Int) (s : ByteArray) (kind : Int) (data : ByteArray) : List RN := if putRE L d s kind data = 0 then L ++ [⟨last + 1, d, s, kind, data⟩] else L
def putN (L : List RN) (last d : Int) (s : ByteArray) (kind : Int) (data : ByteArray) : Int := if putRE L d s kind data = 0 then last + 1 else last
def putA (L : List RN) (last d : Int) (s : ByteArray) (kind : Int) (data : ByteArray) : Int := if putRE L d s kind data = 0 then last + 1 else 0
theorem tput_calls (p B : Nat) (L : List RN) (last d : Int) (s : ByteArray) (kind : Int) (data : ByteArray) (w : World) (h : TreeB w p B (trOf L last)) (hG : GoodL L last) (hn : wf d) (hs : s.size < 4294967281) (hla : last < 1000000) :
  Calls Try.prog 41 #[pT p, .int .i64 d, .string s, .int .i64 kind, .string data] w fun e w' => e = .returned (.tuple #[.int .i64 (putA L last d s kind data), .int .i64 (putRE L d s kind data)]) ∧ TreeB w' p B (trOf (putL L last d s kind data) (putN L last d s kind data)) ∧ Frm w w' p B := by
 have hl : ((trOf L last).node d).ents.length < 4294967296 := by
  rw [node_of hG]
  have := ents_len L d
  have := hG.len
  show (entsOf L d).length < _
  omega
 have hR : Rt ((trOf L last).node d).ents := by rw [node_of hG]; exact hG.rt d
 have hq := putE_eq hG d s kind data
 by_cases he : putRE L d s kind data = 0
 ·
  refine (put_ok p B (trOf L last) d s kind data w h hn hl hR hs ⟨by have := hG.last1; show 0 ≤ last; omega, hla⟩ (by
   show ((L.find? _).map _) = none
   rw [show (trOf L last).last = last from rfl, fresh hG (show last < last + 1 by omega)]; rfl) (hq.trans he)).mono ?_
  rintro e w' ⟨rfl, hT, hf⟩
  rw [putT_eq hG he] at hT
  unfold putA putL putN
  rw [if_pos he, if_pos he, if_pos he, he]
  exact ⟨rfl, hT, hf⟩
 ·
  refine (put_err p B (trOf L last) d s kind data w h hn hl hR hs (by rw [hq]; exact he)).mono ?_
  rintro e w' ⟨rfl, hb⟩
  unfold putA putL putN
  rw [if_neg he, if_neg he, if_neg he, hq]
  exact ⟨rfl, h.below hb, Frm.ofBelow hb⟩
theorem good_put {L : List RN} {last d : Int} {s : ByteArray} {kind : Int} {data : ByteArray} (hG : GoodL L last) : GoodL (putL L last d s kind data) (putN L last d s kind data) := by
 unfold putL putN
 by_cases he : putRE L d s kind data = 0
 · rw [if_pos he, if_pos he]; exact hG.put he
 · rw [if_neg he, if_neg he]; exact hG
structure GoodM (L : List RN) : Prop where
 nm : ∀ r ∈ L, r.f0 ≠ 1 → Sp.check r.f2.data.toList = 0
 link : ∀ r ∈ L, r.f3 = 3 → 0 < r.f4.size
 kind : ∀ r ∈ L, 1 ≤ r.f3 ∧ r.f3 ≤ 3
 dirs : ∀ r ∈ L, r.f3 = 1 → r.f4.size = 0
 rank : ∃ d : Int → Nat, (∀ n, d n ≤ L.length) ∧ ∀ r ∈ L, r.f0 ≠ 1 → d r.f1 < d r.f0
theorem mayE_more {kind : Int} {data : ByteArray} (h : mayE kind data = 0) : (1 ≤ kind ∧ kind ≤ 3) ∧ (kind = 3 → 0 < data.size) ∧ (kind = 1 → data.size = 0) := by
 unfold mayE at h
 split at h
 · cases h
 ·
  split at h
  · cases h
  ·
   rename_i h1 h2
   exact ⟨by omega, by omega, by omega⟩
theorem GoodM.put {L : List RN} {last : Int} (hG : GoodL L last) (h : GoodM L) {d : Int} {s : ByteArray} {kind : Int} {data : ByteArray} (he : putRE L d s kind data = 0) : GoodM (L ++ [⟨last + 1, d, s, kind, data⟩]) := by
 obtain ⟨z1, z2, z3, z4, z5⟩ := putRE_zero he
 have hk := dirE_zero z1
 have hm := mayE_more z4
 have old : ∀ n, (atR L n).f3 = 1 → n ≤ last := by
  intro n hn
  obtain ⟨q, hq, hqn, _⟩ := at_kind (L := L) (n := n) (by rw [hn]; decide)
  have := (hG.num q hq).2
  omega
 refine ⟨?_, ?_, ?_, ?_, ?_⟩
 ·
  intro r hr h1
  rcases List.mem_append.1 hr with hr | hr
  · exact h.nm r hr h1
  ·
   have : r = _ := List.mem_singleton.1 hr
   subst this
   exact z2
 ·
  intro r hr h1
  rcases List.mem_append.1 hr with hr | hr
  · exact h.link r hr h1
  ·
   have : r = _ := List.mem_singleton.1 hr
   subst this
   exact hm.2.1 h1
 ·
  intro r hr
  rcases List.mem_append.1 hr with hr | hr
  · exact h.kind r hr
  ·
   have : r = _ := List.mem_singleton.1 hr
   subst this
   exact hm.1
 ·
  intro r hr h1
  rcases List.mem_append.1 hr with hr | hr
  · exact h.dirs r hr h1
  ·
   have : r = _ := List.mem_singleton.1 hr
   subst this
   exact hm.2.2 h1
 ·
  obtain ⟨rk, hb, hd⟩ := h.rank
  refine ⟨fun n => if n = last + 1 then rk d + 1 else rk n, fun n => ?_, ?_⟩
  ·
   have h1 := hb n
   have h2 := hb d
   simp only [List.length_append, List.length_singleton]
   split <;> omega
  ·
   intro r hr h1
   rcases List.mem_append.1 hr with hr | hr
   ·
    have h2 := (hG.num r hr).2
    have h3 := old r.f1 (hG.up r hr)
    simp only []
    rw [if_neg (by omega), if_neg (by omega)]
    exact hd r hr h1
   ·
    have : r = _ := List.mem_singleton.1 hr
    subst this
    have h3 := old d hk
    simp only []
    rw [if_neg (by omega), if_pos trivial]
    omega
theorem goodM0 : GoodM [⟨1, 1, ⟨#[]⟩, 1, ⟨#[]⟩⟩] := by
 refine ⟨fun r hr h => ?_, fun r hr h => ?_, fun r hr => ?_, fun r hr h => ?_, ⟨fun _ => 0, fun _ => Nat.zero_le _, fun r hr h => ?_⟩⟩ <;> rw [List.mem_singleton.1 hr] at *
 · exact absurd rfl h
 · cases h
 · decide
 · rfl
 · exact absurd rfl h
theorem goodM_put {L : List RN} {last d : Int} {s : ByteArray} {kind : Int} {data : ByteArray} (hG : GoodL L last) (h : GoodM L) : GoodM (putL L last d s kind data) := by
 unfold putL
 by_cases he : putRE L d s kind data = 0
 · rw [if_pos he]; exact h.put hG he
 · rw [if_neg he]; exact h
theorem inR_le {L : List RN} {last : Int} (h : GoodL L last) (d : Int) (s : ByteArray) : 0 ≤ inR L d s ∧ inR L d s ≤ last := by
 unfold inR
 cases hf : L.find? (inQ d s) with
 | none => have := h.last1; exact ⟨Int.le_refl _, by show (0 : Int) ≤ last; omega⟩
 | some r =>
  have := h.num r (List.mem_of_find?_eq_some hf)
  show 0 ≤ r.f0 ∧ r.f0 ≤ last
  omega
theorem inR_mem {L : List RN} {last : Int} (h : GoodL L last) {d : Int} {s : ByteArray} (hn : inR L d s ≠ 0) : ∃ r ∈ L, r.f0 = inR L d s ∧ r.f1 = d ∧ r.f2 = s ∧ r.f0 ≠ 1 ∧ atR L (inR L d s) = r := by
 unfold inR at hn ⊢
 cases hf : L.find? (inQ d s) with
 | none => rw [hf] at hn; exact absurd rfl hn
 | some r =>
  have hr := List.mem_of_find?_eq_some hf
  have hq := List.find?_some hf
  simp only [inQ, Bool.and_eq_true, beq_iff_eq, Bool.not_eq_true', beq_eq_false_iff_ne, toL_inj] at hq
  exact ⟨r, hr, rfl, hq.1, hq.2.1, hq.2.2, at_mem h hr⟩
theorem downT_of {L : List RN} {last : Int} (h : GoodL L last) (a : Int) (s : ByteArray) :
  downT (trOf L last) a s = if Sp.check s.data.toList = 0 then (if inR L a s = 0 then (0, 5) else (inR L a s, 0)) else (0, Sp.check s.data.toList) := by
 have h1 := inR_le h a s
 unfold downT
 rw [node_of h a]
 simp only [find_ents h a s, decide_eq_true_eq]
 by_cases h0 : inR L a s = 0
 · rw [if_neg (show ¬ 0 < inR L a s by omega), if_pos h0]
 · rw [if_pos (show 0 < inR L a s by omega), if_neg h0]
theorem rt_ext : ∀ {a b : List En}, Rt a → Rt b → (∀ e, e ∈ a ↔ e ∈ b) → a = b
 | [], [], _, _, _ => rfl
 | [], y :: b, _, _, h => absurd ((h y).2 List.mem_cons_self) (by simp)
 | x :: a, [], _, _, h => absurd ((h x).1 List.mem_cons_self) (by simp)
 | x :: a, y :: b, ha, hb, h => by
  obtain ⟨a1, a2⟩ := List.pairwise_cons.1 ha
  obtain ⟨b1, b2⟩ := List.pairwise_cons.1 hb
  have hxy : x = y := by
   rcases List.mem_cons.1 ((h x).1 List.mem_cons_self) with e | e
   · exact e
   ·
    rcases List.mem_cons.1 ((h y).2 List.mem_cons_self) with e2 | e2
    · exact e2.symm
    ·
     have h1 := b1 x e
     have h2 := a1 y e2
     rw [bl_asym h1] at h2
     cases h2
  subst hxy
  rw [rt_ext a2 b2 (fun e => ⟨fun he => ?_, fun he => ?_⟩)]
  ·
   rcases List.mem_cons.1 ((h e).1 (List.mem_cons_of_mem _ he)) with rfl | h3
   · have := a1 e he; rw [bl_irr] at this; cases this
   · exact h3
  ·
   rcases List.mem_cons.1 ((h e).2 (List.mem_cons_of_mem _ he)) with rfl | h3
   · have := b1 e he; rw [bl_irr] at this; cases this
   · exact h3
theorem cutEn_mem {l : List En} {s : ByteArray} {e : En} : e ∈ cutEn l s ↔ e ∈ l ∧ e.f0 ≠ s := by
 unfold cutEn
 rw [List.mem_filter]
 simp [toL_inj]
theorem cutEn_rt {l : List En} (h : Rt l) (s : ByteArray) : Rt (cutEn l s) := h.filter _
theorem cutEn_len (l : List En) (s : ByteArray) : (cutEn l s).length ≤ l.length := List.length_filter_le _ _
theorem findE_some {l : List En} {s : ByteArray} {e : En} (he : e ∈ l) (hs : e.f0 = s) : (findE l s).2 = true := by
 unfold findE
 cases hq : l.find? (fun e => e.f0.toList == s.toList) with
 | none => exact absurd (List.find?_eq_none.1 hq e he) (by simp [hs])
 | some q => rfl
theorem findE_nil' {l : List En} {s : ByteArray} (h : ∀ e ∈ l, e.f0 ≠ s) : (findE l s).2 = false := by
 unfold findE
 cases hq : l.find? (fun e => e.f0.toList == s.toList) with
 | none => rfl
 | some q => exact absurd (toL_inj.1 (by simpa using List.find?_some hq)) (h q (List.mem_of_find?_eq_some hq))
theorem Tr.ext {T U : Tr} (h1 : ∀ n, T.get n = U.get n) (h2 : T.cnt = U.cnt) (h3 : T.last = U.last) : T = U := by
 obtain ⟨g, c, l⟩ := T
 obtain ⟨g', c', l'⟩ := U
 simp only [Tr.mk.injEq]
 exact ⟨funext h1, h2, h3⟩
def cutL (L : List RN) (n : Int) : List RN := L.filter (fun r => !(r.f0 == n))
def withL (L : List RN) (x : RN) : List RN := L.map (fun r => if r.f0 = x.f0 then x else r)
theorem cutL_mem {L : List RN} {n : Int} {r : RN} : r ∈ cutL L n ↔ r ∈ L ∧ r.f0 ≠ n := by unfold cutL; rw [List.mem_filter]; simp
theorem cutL_find (L : List RN) (n m : Int) : (cutL L n).find? (fun r => r.f0 == m) = if m = n then none else L.find? (fun r => r.f0 == m) := by
 induction L with
 | nil => simp [cutL]
 | cons a L ih =>
  unfold cutL at ih ⊢
  rw [List.filter_cons]
  by_cases h : a.f0 = n
  ·
   rw [show (!(a.f0 == n)) = false by simp [h], if_neg (by simp), ih]
   by_cases e : m = n
   · rw [if_pos e, if_pos e]
   · rw [if_neg e, if_neg e, List.find?_cons, show (a.f0 == m) = false by rw [h]; simpa using fun e2 => e e2.symm]
  ·
   rw [show (!(a.f0 == n)) = true by simp [h], if_pos rfl, List.find?_cons, List.find?_cons, ih]
   by_cases e2 : a.f0 = m
   ·
    have hmn : ¬ m = n := by rw [← e2]; exact h
    rw [show (a.f0 == m) = true by simp [e2]]
    simp only [hmn, if_false]
   · rw [show (a.f0 == m) = false by simp [e2]]
theorem cutL_at {L : List RN} {n m : Int} (h : m ≠ n) : atR (cutL L n) m = atR L m := by unfold atR; rw [cutL_find, if_neg h]
theorem cutL_len {L : List RN} {n : Int} (hu : L.Pairwise (fun a b => a.f0 ≠ b.f0)) (hn : ∃ r ∈ L, r.f0 = n) : (cutL L n).length + 1 = L.length := by
 induction L with
 | nil => obtain ⟨r, hr, _⟩ := hn; cases hr
 | cons a L ih =>
  obtain ⟨h1, h2⟩ := List.pairwise_cons.1 hu
  unfold cutL at ih ⊢
  rw [List.filter_cons]
  by_cases h : a.f0 = n
  ·
   rw [show (!(a.f0 == n)) = false by simp [h], if_neg (by simp)]
   have : L.filter (fun r => !(r.f0 == n)) = L := by
    rw [List.filter_eq_self]
    intro r hr
    have := h1 r hr
    rw [h] at this
    simpa using fun e => this e.symm
   rw [this, List.length_cons]
  ·
   rw [show (!(a.f0 == n)) = true by simp [h], if_pos rfl, List.length_cons, List.length_cons]
   obtain ⟨r, hr, hrn⟩ := hn
   rcases List.mem_cons.1 hr with rfl | hr
   · exact absurd hrn h
   · rw [ih h2 ⟨r, hr, hrn⟩]
theorem withL_f0 (x r : RN) : (if r.f0 = x.f0 then x else r).f0 = r.f0 := by
 split
 · rename_i h; exact h.symm
 · rfl
theorem withL_find (L : List RN) (x : RN) (m : Int) : (withL L x).find? (fun r => r.f0 == m) = (L.find? (fun r => r.f0 == m)).map (fun r => if r.f0 = x.f0 then x else r) := by
 unfold withL
 rw [List.find?_map]
 congr 1
 congr 1
 funext r
 show ((if r.f0 = x.f0 then x else r).f0 == m) = _
 rw [withL_f0]
theorem withL_mem {L : List RN} {x r : RN} (h : r ∈ withL L x) : r = x ∨ (r ∈ L ∧ r.f0 ≠ x.f0) := by
 unfold withL at h
 obtain ⟨q, hq, rfl⟩ := List.mem_map.1 h
 by_cases e : q.f0 = x.f0
 · rw [if_pos e]; exact .inl rfl
 · rw [if_neg e]; exact .inr ⟨hq, e⟩
theorem withL_mem1 {L : List RN} {x r : RN} (h : r ∈ L) (hn : r.f0 ≠ x.f0) : r ∈ withL L x := List.mem_map.2 ⟨r, h, by rw [if_neg hn]⟩
theorem withL_mem2 {L : List RN} {x r : RN} (h : r ∈ L) (hn : r.f0 = x.f0) : x ∈ withL L x := List.mem_map.2 ⟨r, h, by rw [if_pos hn]⟩
theorem withL_len (L : List RN) (x : RN) : (withL L x).length = L.length := List.length_map _
theorem withL_at1 {L : List RN} {x : RN} (h : ∃ r ∈ L, r.f0 = x.f0) : atR (withL L x) x.f0 = x := by
 unfold atR
 rw [withL_find]
 obtain ⟨r, hr, hrx⟩ := h
 cases hf : L.find? (fun r => r.f0 == x.f0) with
 | none => exact absurd (List.find?_eq_none.1 hf r hr) (by simp [hrx])
 | some q =>
  have : q.f0 = x.f0 := by simpa using List.find?_some hf
  simp [this]
theorem withL_at2 {L : List RN} {x : RN} {m : Int} (h : m ≠ x.f0) : atR (withL L x) m = atR L m := by
 unfold atR
 rw [withL_find]
 cases hf : L.find? (fun r => r.f0 == m) with
 | none => rfl
 | some q =>
  have : q.f0 = m := by simpa using List.find?_some hf
  simp [this, h]
theorem withL_kind {L : List RN} {x : RN} (hk : (atR L x.f0).f3 = x.f3) (h : ∃ r ∈ L, r.f0 = x.f0) (m : Int) : (atR (withL L x) m).f3 = (atR L m).f3 := by
 by_cases e : m = x.f0
 · subst e; rw [withL_at1 h, hk]
 · rw [withL_at2 e]
theorem GoodL.root_at {L : List RN} {last : Int} (h : GoodL L last) : (atR L 1).f3 = 1 ∧ (atR L 1).f1 = 1 := by
 obtain ⟨r, hr, h1, h2, h3⟩ := h.root
 have := at_mem h hr
 rw [h1] at this
 rw [this]
 exact ⟨h3, h2⟩
theorem GoodL.cut {L : List RN} {last : Int} (h : GoodL L last) {n : Int} (hn1 : n ≠ 1) (hne : entsOf L n = []) : GoodL (cutL L n) last := by
 refine ⟨Nat.le_trans (List.length_filter_le _ _) h.len, fun r hr => h.num r (cutL_mem.1 hr).1, h.uniq.filter _, h.names.filter _, fun r hr => h.data r (cutL_mem.1 hr).1, fun r hr => ?_, ?_⟩
 ·
  obtain ⟨h1, h2⟩ := cutL_mem.1 hr
  have hu := h.up r h1
  rw [cutL_at ?_]
  · exact hu
  ·
   intro e
   by_cases h3 : r.f0 = 1
   ·
    have h4 := at_mem h h1
    rw [h3] at h4
    have := h.root_at.2
    rw [h4, e] at this
    exact hn1 this
   ·
    have hm : (⟨r.f2, r.f0⟩ : En) ∈ entsOf L n := mem_ents.2 ⟨r, h1, isIn_iff.2 ⟨e, h3⟩, rfl⟩
    rw [hne] at hm
    cases hm
 ·
  obtain ⟨r, hr, h1, h2⟩ := h.root
  exact ⟨r, cutL_mem.2 ⟨hr, by rw [h1]; exact fun e => hn1 e.symm⟩, h1, h2⟩
theorem rank_norm {L : List RN} {last : Int} (h : GoodL L last) {d : Int → Nat} (hd : ∀ r ∈ L, r.f0 ≠ 1 → d r.f1 < d r.f0) :
  ∃ d : Int → Nat, (∀ n, d n ≤ L.length) ∧ ∀ r ∈ L, r.f0 ≠ 1 → d r.f1 < d r.f0 := by
 refine ⟨fun n => (L.filter (fun r => decide (d r.f0 < d n))).length, fun n => List.length_filter_le _ _, fun r hr h1 => ?_⟩
 obtain ⟨q, hq, hqn, _⟩ := at_kind (L := L) (n := r.f1) (by rw [h.up r hr]; decide)
 have hlt := hd r hr h1
 have key : ∀ M : List RN, (M.filter (fun x => decide (d x.f0 < d r.f1))).length ≤ (M.filter (fun x => decide (d x.f0 < d r.f0))).length ∧ (q ∈ M → (M.filter (fun x => decide (d x.f0 < d r.f1))).length < (M.filter (fun x => decide (d x.f0 < d r.f0))).length) := by
  intro M
  induction M with
  | nil => exact ⟨Nat.le_refl _, fun h => by cases h⟩
  | cons a M ih =>
   obtain ⟨i1, i2⟩ := ih
   rw [List.filter_cons, List.filter_cons]
   by_cases c1 : d a.f0 < d r.f1
   ·
    have c2 : d a.f0 < d r.f0 := Nat.lt_trans c1 hlt
    rw [decide_eq_true c1, decide_eq_true c2, if_pos rfl, if_pos rfl, List.length_cons, List.length_cons]
    refine ⟨by omega, fun hm => ?_⟩
    rcases List.mem_cons.1 hm with rfl | hm
    · rw [hqn] at c1; omega
    · have := i2 hm; omega
   ·
    rw [decide_eq_false c1, if_neg (by simp)]
    by_cases c2 : d a.f0 < d r.f0
    ·
     rw [decide_eq_true c2, if_pos rfl, List.length_cons]
     exact ⟨by omega, fun _ => by omega⟩
    ·
     rw [decide_eq_false c2, if_neg (by simp)]
     refine ⟨i1, fun hm => ?_⟩
     rcases List.mem_cons.1 hm with rfl | hm
     · rw [hqn] at c2; exact absurd hlt c2
     · exact i2 hm
 exact (key L).2 hq
theorem GoodM.cut {L : List RN} {last : Int} (h : GoodL L last) (hM : GoodM L) {n : Int} (hn1 : n ≠ 1) (hne : entsOf L n = []) : GoodM (cutL L n) := by
 obtain ⟨d, -, hd⟩ := hM.rank
 exact ⟨fun r hr => hM.nm r (cutL_mem.1 hr).1, fun r hr => hM.link r (cutL_mem.1 hr).1, fun r hr => hM.kind r (cutL_mem.1 hr).1, fun r hr => hM.dirs r (cutL_mem.1 hr).1, rank_norm (h.cut hn1 hne) (fun r hr => hd r (cutL_mem.1 hr).1)⟩
theorem GoodL.with {L : List RN} {last : Int} (h : GoodL L last) {x : RN} (hx1 : x.f0 ≠ 1) (hmem : ∃ r ∈ L, r.f0 = x.f0) (hk : (atR L x.f0).f3 = x.f3) (hdata : x.f4.size ≤ 65536) (hup : (atR L x.f1).f3 = 1)
  (hnm : ∀ r ∈ L, r.f0 ≠ x.f0 → r.f1 = x.f1 → r.f0 ≠ 1 → r.f2 ≠ x.f2) : GoodL (withL L x) last := by
 refine ⟨by rw [withL_len]; exact h.len, fun r hr => ?_, ?_, ?_, fun r hr => ?_, fun r hr => ?_, ?_⟩
 ·
  rcases withL_mem hr with rfl | hr
  ·
   obtain ⟨q, hq, hqn⟩ := hmem
   rw [← hqn]
   exact h.num q hq
  · exact h.num r hr.1
 ·
  unfold withL
  rw [List.pairwise_map]
  refine h.uniq.imp (fun {a b} hab => ?_)
  rw [withL_f0, withL_f0]
  exact hab
 ·
  unfold withL
  rw [List.pairwise_map]
  refine (h.uniq.and h.names).imp_of_mem (fun {a b} ha hb hab => ?_)
  intro h1 h2 h3
  rw [withL_f0] at h2 h3
  by_cases ea : a.f0 = x.f0
  ·
   have eb : ¬ b.f0 = x.f0 := fun e => hab.1 (ea.trans e.symm)
   rw [if_pos ea, if_neg eb] at h1 ⊢
   exact (hnm b hb eb h1.symm h3).symm
  ·
   by_cases eb : b.f0 = x.f0
   ·
    rw [if_neg ea, if_pos eb] at h1 ⊢
    exact hnm a ha ea h1 h2
   ·
    rw [if_neg ea, if_neg eb] at h1 ⊢
    exact hab.2 h1 h2 h3
 ·
  rcases withL_mem hr with rfl | hr
  · exact hdata
  · exact h.data r hr.1
 ·
  rw [withL_kind hk hmem]
  rcases withL_mem hr with rfl | hr
  · exact hup
  · exact h.up r hr.1
 ·
  obtain ⟨r, hr, h1, h2⟩ := h.root
  exact ⟨r, withL_mem1 hr (by rw [h1]; exact fun e => hx1 e.symm), h1, h2⟩
theorem GoodM.with {L : List RN} {last : Int} {x : RN} (hG : GoodL (withL L x) last) (hM : GoodM L) (hn : Sp.check x.f2.data.toList = 0) (hl : x.f3 = 3 → 0 < x.f4.size) (hk : 1 ≤ x.f3 ∧ x.f3 ≤ 3) (hd : x.f3 = 1 → x.f4.size = 0)
  (hr : ∃ d : Int → Nat, ∀ r ∈ withL L x, r.f0 ≠ 1 → d r.f1 < d r.f0) : GoodM (withL L x) := by
 obtain ⟨d, hd'⟩ := hr
 refine ⟨fun r hr h1 => ?_, fun r hr h1 => ?_, fun r hr => ?_, fun r hr h1 => ?_, rank_norm hG hd'⟩
 ·
  rcases withL_mem hr with rfl | hr
  · exact hn
  · exact hM.nm r hr.1 h1
 ·
  rcases withL_mem hr with rfl | hr
  · exact hl h1
  · exact hM.link r hr.1 h1
 ·
  rcases withL_mem hr with rfl | hr
  · exact hk
  · exact hM.kind r hr.1
 ·
  rcases withL_mem hr with rfl | hr
  · exact hd h1
  · exact hM.dirs r hr.1 h1
def cutRE (L : List RN) (d : Int) (s : ByteArray) : Int :=
 if dirE (atR L d).f3 ≠ 0 then dirE (atR L d).f3 else if inR L d s = 0 then 5 else if 0 < (entsOf L (inR L d s)).length then 9 else 0
theorem in_dec {L : List RN} {last : Int} (h : GoodL L last) (d : Int) (s : ByteArray) : (decide (0 < inR L d s) = false) = (inR L d s = 0) := by
 have := (inR_le h d s).1
 rw [decide_eq_false_iff_not]
 exact propext ⟨fun e => by omega, fun e => by omega⟩
theorem cutE_eq {L : List RN} {last : Int} (h : GoodL L last) (d : Int) (s : ByteArray) : cutE (trOf L last) d s = cutRE L d s := by
 unfold cutE cutRE
 rw [node_of h d]
 simp only [find_ents h d s]
 rw [node_of h (inR L d s)]
 simp only [in_dec h]
theorem cutRE_zero {L : List RN} {d : Int} {s : ByteArray} (h : cutRE L d s = 0) : (atR L d).f3 = 1 ∧ inR L d s ≠ 0 ∧ entsOf L (inR L d s) = [] := by
 unfold cutRE at h
 split at h
 · rename_i g; exact absurd h g
 ·
  rename_i g1
  split at h
  · cases h
  ·
   rename_i g2
   split at h
   · cases h
   ·
    rename_i g3
    exact ⟨dirE_zero (Decidable.byContradiction fun e => g1 e), g2, List.eq_nil_of_length_eq_zero (by omega)⟩
theorem find_of {L : List RN} {last : Int} (h : GoodL L last) {r : RN} (hr : r ∈ L) : L.find? (fun q => q.f0 == r.f0) = some r := find_num h.uniq hr
theorem ents_cut {L : List RN} {last : Int} (h : GoodL L last) {r : RN} (hr : r ∈ L) (h1 : r.f0 ≠ 1) (hne : entsOf L r.f0 = []) (m : Int) : entsOf (cutL L r.f0) m = if m = r.f1 then cutEn (entsOf L r.f1) r.f2 else entsOf L m := by
 have hrt := (h.cut h1 hne).rt m
 by_cases e : m = r.f1
 ·
  subst e
  rw [if_pos rfl]
  refine rt_ext hrt (cutEn_rt (h.rt _) _) (fun x => ?_)
  rw [cutEn_mem, mem_ents, mem_ents]
  constructor
  ·
   rintro ⟨q, hq, hi, rfl⟩
   obtain ⟨q1, q2⟩ := cutL_mem.1 hq
   refine ⟨⟨q, q1, hi, rfl⟩, fun e => ?_⟩
   obtain ⟨i1, i2⟩ := isIn_iff.1 hi
   have hin := find_ents h r.f1 r.f2
   have hA : (⟨q.f2, q.f0⟩ : En) ∈ entsOf L r.f1 := mem_ents.2 ⟨q, q1, hi, rfl⟩
   have hB : (⟨r.f2, r.f0⟩ : En) ∈ entsOf L r.f1 := mem_ents.2 ⟨r, hr, isIn_iff.2 ⟨rfl, h1⟩, rfl⟩
   have hpw := h.names
   have := List.pairwise_iff_getElem.1 hpw
   obtain ⟨i, hi', rfl⟩ := List.mem_iff_getElem.1 q1
   obtain ⟨j, hj, rfl⟩ := List.mem_iff_getElem.1 hr
   rcases Nat.lt_trichotomy i j with c | c | c
   · exact this i j hi' hj c i1 i2 h1 e
   · subst c; exact q2 rfl
   · exact this j i hj hi' c i1.symm h1 i2 e.symm
  ·
   rintro ⟨⟨q, q1, hi, rfl⟩, hn⟩
   refine ⟨q, cutL_mem.2 ⟨q1, fun e => ?_⟩, hi, rfl⟩
   have e1 := find_of h q1
   have e2 := find_of h hr
   rw [e] at e1
   rw [e1] at e2
   have := Option.some.inj e2
   rw [this] at hn
   exact hn rfl
 ·
  rw [if_neg e]
  refine rt_ext hrt (h.rt _) (fun x => ?_)
  rw [mem_ents, mem_ents]
  constructor
  ·
   rintro ⟨q, hq, hi, rfl⟩
   exact ⟨q, (cutL_mem.1 hq).1, hi, rfl⟩
  ·
   rintro ⟨q, q1, hi, rfl⟩
   refine ⟨q, cutL_mem.2 ⟨q1, fun e2 => ?_⟩, hi, rfl⟩
   have e1 := find_of h q1
   have e3 := find_of h hr
   rw [e2] at e1
   rw [e1] at e3
   have := Option.some.inj e3
   rw [this] at hi
   exact e (isIn_iff.1 hi).1.symm
theorem tr_get {L : List RN} {last : Int} (m : Int) : (trOf L last).get m = (L.find? (fun r => r.f0 == m)).map (ndOf L) := rfl
theorem tr_get_live {L : List RN} {last : Int} (h : GoodL L last) {m : Int} (hk : (atR L m).f3 ≠ 0) : (trOf L last).get m = some ((trOf L last).node m) := by
 unfold Tr.node
 obtain ⟨q, hq, hqm, _⟩ := at_kind hk
 have := find_of h hq
 rw [hqm] at this
 rw [tr_get, this]
 rfl
theorem live_ents {L : List RN} {last : Int} (h : GoodL L last) {r : RN} (hr : r ∈ L) (h1 : r.f0 ≠ 1) : entsOf L r.f1 ≠ [] := by
 intro e
 have hm : (⟨r.f2, r.f0⟩ : En) ∈ entsOf L r.f1 := mem_ents.2 ⟨r, hr, isIn_iff.2 ⟨rfl, h1⟩, rfl⟩
 rw [e] at hm
 cases hm
theorem cutT_eq {L : List RN} {last : Int} (h : GoodL L last) {d : Int} {s : ByteArray} (he : cutRE L d s = 0) : cutT (trOf L last) d s = trOf (cutL L (inR L d s)) last := by
 obtain ⟨z1, z2, z3⟩ := cutRE_zero he
 obtain ⟨r, hr, hrn, hrd, hrs, hr1, _⟩ := inR_mem h z2
 unfold cutT
 rw [node_of h d]
 simp only [find_ents h d s]
 rw [← hrn] at z3 ⊢
 subst hrd hrs
 have hdn : r.f1 ≠ r.f0 := fun e => live_ents h hr hr1 (by rw [e]; exact z3)
 have hlive : (trOf L last).get r.f1 = some ((trOf L last).node r.f1) := tr_get_live h (by rw [z1]; decide)
 have hgr : (trOf L last).get r.f0 = some (ndOf L r) := by rw [tr_get, find_of h hr]; rfl
 have hents := ents_cut h hr hr1 z3
 refine Tr.ext (fun m => ?_) ?_ rfl
 ·
  show (if m = r.f1 then some { ((trOf L last).del r.f0).node r.f1 with ents := cutEn (entsOf L r.f1) r.f2 } else (if m = r.f0 then none else (trOf L last).get m)) = _
  rw [node_del_ne hdn, tr_get (L := cutL L r.f0), cutL_find]
  by_cases e : m = r.f1
  ·
   subst e
   rw [if_pos rfl, if_neg hdn, node_of h]
   obtain ⟨q, hq, hqm, hqa⟩ := at_kind (L := L) (n := r.f1) (by rw [z1]; decide)
   have := find_of h hq
   rw [hqm] at this
   rw [this, hqa]
   simp only [Option.map_some, ndOf, hqm, hents, if_true]
  ·
   rw [if_neg e]
   by_cases e2 : m = r.f0
   · rw [if_pos e2, if_pos e2]; rfl
   ·
    rw [if_neg e2, if_neg e2, tr_get]
    cases hf : L.find? (fun r => r.f0 == m) with
    | none => rfl
    | some q =>
     have hqm : q.f0 = m := by simpa using List.find?_some hf
     simp only [Option.map_some, ndOf, hqm, hents, if_neg e]
 ·
  have h1 : (((trOf L last).del r.f0).get r.f1).isSome = true := by
   show (if r.f1 = r.f0 then none else (trOf L last).get r.f1).isSome = true
   rw [if_neg hdn, hlive]; rfl
  show (if (((trOf L last).del r.f0).get r.f1).isSome then ((trOf L last).del r.f0).cnt else ((trOf L last).del r.f0).cnt + 1) = (cutL L r.f0).length
  rw [h1, if_pos rfl]
  show (if ((trOf L last).get r.f0).isSome then L.length - 1 else L.length) = _
  rw [hgr, Option.isSome_some, if_pos rfl]
  have := cutL_len h.uniq ⟨r, hr, rfl⟩
  omega
theorem cut_good {L : List RN} {last : Int} (h : GoodL L last) (hM : GoodM L) {d : Int} {s : ByteArray} (he : cutRE L d s = 0) : GoodL (cutL L (inR L d s)) last ∧ GoodM (cutL L (inR L d s)) := by
 obtain ⟨z1, z2, z3⟩ := cutRE_zero he
 obtain ⟨r, hr, hrn, hrd, hrs, hr1, _⟩ := inR_mem h z2
 rw [hrn] at hr1
 exact ⟨h.cut hr1 z3, GoodM.cut h hM hr1 z3⟩
theorem ents_with {L : List RN} {x : RN} (hm : ∃ r ∈ L, r.f0 = x.f0) (m : Int) (e : En) : e ∈ entsOf (withL L x) m ↔ (isIn m x = true ∧ e = ⟨x.f2, x.f0⟩) ∨ ∃ r ∈ L, r.f0 ≠ x.f0 ∧ isIn m r = true ∧ e = ⟨r.f2, r.f0⟩ := by
 rw [mem_ents]
 constructor
 ·
  rintro ⟨q, hq, hi, rfl⟩
  rcases withL_mem hq with rfl | hq
  · exact .inl ⟨hi, rfl⟩
  · exact .inr ⟨q, hq.1, hq.2, hi, rfl⟩
 ·
  rintro (⟨hi, rfl⟩ | ⟨q, hq, hn, hi, rfl⟩)
  ·
   obtain ⟨r, hr, hrx⟩ := hm
   exact ⟨x, withL_mem2 hr hrx, hi, rfl⟩
  · exact ⟨q, withL_mem1 hq hn, hi, rfl⟩
def setRE (L : List RN) (n : Int) (data : ByteArray) : Int := if (atR L n).f3 = 0 then 5 else if (atR L n).f3 = 1 then 8 else mayE (atR L n).f3 data
def setX (L : List RN) (n : Int) (data : ByteArray) : RN := { atR L n with f4 := data }
theorem setE_eq {L : List RN} {last : Int} (h : GoodL L last) (n : Int) (data : ByteArray) : setE (trOf L last) n data = setRE L n data := by
 unfold setE setRE
 rw [node_of h n]
theorem setRE_zero {L : List RN} {n : Int} {data : ByteArray} (h : setRE L n data = 0) : (atR L n).f3 ≠ 0 ∧ (atR L n).f3 ≠ 1 ∧ mayE (atR L n).f3 data = 0 := by
 unfold setRE at h
 split at h
 · cases h
 ·
  split at h
  · cases h
  · exact ⟨by assumption, by assumption, h⟩
theorem set_row {L : List RN} {last : Int} (h : GoodL L last) {n : Int} {data : ByteArray} (hk : (atR L n).f3 ≠ 0) : ∃ r ∈ L, r.f0 = n ∧ atR L n = r ∧ (setX L n data).f0 = n := by
 obtain ⟨r, hr, hrn, hra⟩ := at_kind hk
 exact ⟨r, hr, hrn, hra, by show (atR L n).f0 = n; rw [hra]; exact hrn⟩
theorem set_good {L : List RN} {last : Int} (h : GoodL L last) (hM : GoodM L) {n : Int} {data : ByteArray} (he : setRE L n data = 0) : GoodL (withL L (setX L n data)) last ∧ GoodM (withL L (setX L n data)) := by
 obtain ⟨z1, z2, z3⟩ := setRE_zero he
 obtain ⟨r, hr, hrn, hra, hx0⟩ := set_row h (data := data) z1
 have hm := mayE_more z3
 have hx1 : (setX L n data).f0 ≠ 1 := by
  rw [hx0]
  intro e
  rw [e] at z2
  exact z2 h.root_at.1
 have hmem : ∃ r ∈ L, r.f0 = (setX L n data).f0 := ⟨r, hr, by rw [hx0]; exact hrn⟩
 have hk : (atR L (setX L n data).f0).f3 = (setX L n data).f3 := by rw [hx0]; rfl
 have hup : (atR L (setX L n data).f1).f3 = 1 := by
  show (atR L (atR L n).f1).f3 = 1
  rw [hra]; exact h.up r hr
 have hG : GoodL (withL L (setX L n data)) last := by
  refine h.with hx1 hmem hk (mayE_zero z3).2 hup (fun q hq hn h1 h2 h3 => ?_)
  have e1 : (setX L n data).f1 = r.f1 := by show (atR L n).f1 = _; rw [hra]
  have e2 : (setX L n data).f2 = r.f2 := by show (atR L n).f2 = _; rw [hra]
  rw [e1] at h1
  rw [e2] at h3
  rw [hx0, ← hrn] at hn
  have hr1 : r.f0 ≠ 1 := by rw [hrn, ← hx0]; exact hx1
  have := List.pairwise_iff_getElem.1 h.names
  obtain ⟨i, hi, rfl⟩ := List.mem_iff_getElem.1 hq
  obtain ⟨j, hj, rfl⟩ := List.mem_iff_getElem.1 hr
  rcases Nat.lt_trichotomy i j with c | c | c
  · exact this i j hi hj c h1 h2 hr1 h3
  · subst c; exact hn rfl
  · exact this j i hj hi c h1.symm hr1 h2 h3.symm
 refine ⟨hG, hM.with hG ?_ hm.2.1 hm.1 hm.2.2 ?_⟩
 ·
  show Sp.check (atR L n).f2.data.toList = 0
  rw [hra]
  exact hM.nm r hr (by rw [hrn, ← hx0]; exact hx1)
 ·
  obtain ⟨d, -, hd⟩ := hM.rank
  refine ⟨d, fun q hq h1 => ?_⟩
  rcases withL_mem hq with rfl | hq
  ·
   have := hd r hr (by rw [hrn, ← hx0]; exact hx1)
   show d (atR L n).f1 < d (atR L n).f0
   rw [hra]; exact this
  · exact hd q hq.1 h1
theorem setT_eq {L : List RN} {last : Int} (h : GoodL L last) (hM : GoodM L) {n : Int} {data : ByteArray} (he : setRE L n data = 0) : setT (trOf L last) n data = trOf (withL L (setX L n data)) last := by
 obtain ⟨z1, z2, z3⟩ := setRE_zero he
 obtain ⟨r, hr, hrn, hra, hx0⟩ := set_row h (data := data) z1
 have hG := (set_good h hM he).1
 have hmem : ∃ r ∈ L, r.f0 = (setX L n data).f0 := ⟨r, hr, by rw [hx0]; exact hrn⟩
 have hents : ∀ m, entsOf (withL L (setX L n data)) m = entsOf L m := by
  intro m
  refine rt_ext (hG.rt m) (h.rt m) (fun e => ?_)
  rw [ents_with hmem, mem_ents]
  have hi : isIn m (setX L n data) = isIn m r := by
   show ((atR L n).f1 == m && !((atR L n).f0 == 1)) = _
   rw [hra]; rfl
  have h2 : (⟨(setX L n data).f2, (setX L n data).f0⟩ : En) = ⟨r.f2, r.f0⟩ := by
   show (⟨(atR L n).f2, (atR L n).f0⟩ : En) = _
   rw [hra]
  constructor
  ·
   rintro (⟨h3, rfl⟩ | ⟨q, hq, _, h3, rfl⟩)
   · exact ⟨r, hr, by rw [← hi]; exact h3, h2⟩
   · exact ⟨q, hq, h3, rfl⟩
  ·
   rintro ⟨q, hq, h3, rfl⟩
   by_cases e : q.f0 = (setX L n data).f0
   ·
    have e1 := find_of h hq
    have e2 := find_of h hr
    rw [e, hx0] at e1
    rw [hrn] at e2
    rw [e1] at e2
    have := Option.some.inj e2
    subst this
    exact .inl ⟨by rw [hi]; exact h3, h2.symm⟩
   · exact .inr ⟨q, hq, e, h3, rfl⟩
 have hlive := tr_get_live h z1
 refine Tr.ext (fun m => ?_) ?_ rfl
 ·
  show (if m = n then some { (trOf L last).node n with data := data } else (trOf L last).get m) = _
  rw [tr_get (L := withL L _), withL_find]
  by_cases e : m = n
  ·
   subst e
   have := find_of h hr
   rw [hrn] at this
   rw [if_pos rfl, node_of h, this]
   simp only [Option.map_some, ndOf, hx0, hrn, if_true, hents]
   rfl
  ·
   rw [if_neg e, tr_get]
   cases hf : L.find? (fun r => r.f0 == m) with
   | none => rfl
   | some q =>
    have hqm : q.f0 = m := by simpa using List.find?_some hf
    have hne : ¬ q.f0 = (setX L n data).f0 := by rw [hqm, hx0]; exact e
    simp only [Option.map_some, ndOf, hents, if_neg hne]
 ·
  show (if ((trOf L last).get n).isSome then L.length else L.length + 1) = (withL L _).length
  rw [hlive, Option.isSome_some, if_pos rfl, withL_len]
end Go.Proofs.Ytnpeeiikdcankaa.Tw
