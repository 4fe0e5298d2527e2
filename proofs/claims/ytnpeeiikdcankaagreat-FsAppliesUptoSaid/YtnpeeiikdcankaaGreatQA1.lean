/- Texts of this session, merged: WShare, WN, WEqStruct, WRepsOne, WGuard, WNEv, WMore, X0, Cmp, X12, Tree, Pure0, Ents, Insert, EntPut, Del, Enter, X11, Put, Tput, TputOk, Tcut, Seek, Walk, Move. -/
import Derived.Test.YtnpeeiikdcankaaGreatQA0
import Derived.Laws.StructEq
import Derived.WalkLawsBesides
import Derived.Test.YtnpeeiikdcankaaGreatProg
import Derived.Below
import Derived.Deep.Draws
import Derived.Deep.AppendLies
import Derived.Maps.AppendAt
import Derived.OwnWalk
import Derived.Laws.BytesArg
import Derived.Laws.MakeOwn
import Derived.Laws.OwnMore
import Derived.Deep.OwnRows
import Derived.Tactics
import Derived.Lib.ConvBytes
import Derived.Laws.Slices
import Derived.WalkKit
import Derived.KernelRfl
import Derived.RowKit3
import Derived.Deep.LoopGhost
import Derived.Deep.QuietTactic
import Derived.BigQuiet
import Derived.WideLaws
import Derived.Deep.DeepCutAuto
import Derived.Deep.CutBlock
import Derived.Deep.RegionHeld3
import Derived.Laws.Rows
import Derived.Lib.AppendStr
import Derived.ArgAppend
import Derived.Laws.IdiomCopy
import Derived.OrdersHeld
import Derived.Laws.BitsLemmas
import Derived.RowKit
import Derived.LoopTactic
import Derived.Lib.Hide
import Derived.IntWalk
import Derived.Outline
import Derived.Maps.OwnSet
import Derived.WalkSpells
import Derived.Lib.Overlaps
import Derived.Lib.AppendZerosOnto
import Derived.Laws.CopyOwn
import Derived.Laws.Externs
import Derived.Deep.RegionLaw
import Derived.Maps.Views
import Derived.StillTailTactics
set_option linter.unusedVariables false
set_option linter.unusedSimpArgs false

set_option maxHeartbeats 8000000
set_option maxRecDepth 1000000
-- PRINTED BY print.sh 35421559b90ae4d0a3588c463048766b98c2df88dd9212a6774a882060cdf62d: not written by this session
namespace Go.Proofs.YtnpeeiikdcankaaGreatW.PrintWords
open Go.RowKit
def Foot (P : World → Prop) (W : World) (ok : Nat → Prop) : Prop := ∀ W' : World, (∀ k, ok k → k < W.heap.size → W'.heap[k]? = W.heap[k]?) → P W'
theorem heap_lt {W W1 : World} {k : Nat} (h : W1.heap[k]? = W.heap[k]?) (hlt : k < W.heap.size) : k < W1.heap.size := by
 rw [Array.getElem?_eq_getElem hlt] at h
 exact (Array.getElem?_eq_some_iff.1 h).1
namespace Foot
variable {P Q : World → Prop} {W W1 : World} {ok ok' : Nat → Prop}
theorem now (h : Foot P W ok) : P W := h W (fun _ _ _ => rfl)
theorem mono (h : Foot P W ok) (hok : ∀ k, ok k → ok' k) : Foot P W ok' := fun W' hW => h W' (fun k hk hlt => hW k (hok k hk) hlt)
theorem bound (h : Foot P W ok) : Foot P W (fun k => ok k ∧ k < W.heap.size) := fun W' hW => h W' (fun k hk hlt => hW k ⟨hk, hlt⟩ hlt)
theorem step (h : Foot P W ok) (hm : ∀ k, ok k → k < W.heap.size → W1.heap[k]? = W.heap[k]?) : Foot P W1 ok := fun W' hW => h W' (fun k hk hlt => (hW k hk (heap_lt (hm k hk hlt) hlt)).trans (hm k hk hlt))
theorem imp (h : Foot P W ok) (hi : ∀ W', P W' → Q W') : Foot Q W ok := fun W' hW => hi W' (h W' hW)
theorem old (h : Foot P W ok) (hb : Below W.heap.size W W1) : Foot P W1 (fun k => ok k ∧ k < W.heap.size) := (h.bound).step (fun k _ hlt => hb.block k hlt)
end Foot
namespace Kd
def F {α : Type} (d : Kd α) (W : World) (ok : Nat → Prop) (A : Option Addr) (n : Nat) (xs : List α) : Prop := Foot (fun W => d.C W A n xs) W ok
def FK {α : Type} (d : Kd α) (W : World) (ok : Nat → Prop) (x : α) (c : List Value) : Prop := Foot (fun W => d.K W x c) W ok
section
variable {α β : Type} {d : Kd α} {e base n n' cc g N : Nat} {ok ok' okp S : Nat → Prop} {w w0 w1 W W1 : World} {A A' : Option Addr} {u v v1 : Value} {xs : List α} {xs' : List β} {d' : Kd β} {x : α} {c : List Value}
theorem F_nil (d : Kd α) (W : World) (ok : Nat → Prop) : F d W ok none ([] : List α).length [] := fun W' _ => C_nil d W'
theorem FK_of_M (h : d.M W base ok x c) : FK d W ok x c := fun _ hW => d.K_of_M (M_step h hW)
end
end Kd
end Go.Proofs.YtnpeeiikdcankaaGreatW.PrintWords

-- PRINTED BY print.sh 35421559b90ae4d0a3588c463048766b98c2df88dd9212a6774a882060cdf62d: not written by this session
namespace Go.Proofs.YtnpeeiikdcankaaGreatW.PrintWords
open Go.RowKit
namespace Kd
def chunks (sz : Nat) (n : Nat) (inner : List Value) : List (List Value) := (List.range n).map fun j => (inner.drop (j * sz)).take sz
theorem chunks_length (sz n : Nat) (inner : List Value) : (chunks sz n inner).length = n := by simp [chunks]
theorem chunks_at {sz n : Nat} {inner : List Value} {j : Nat} (hj : j < n) : (chunks sz n inner)[j]? = some ((inner.drop (j * sz)).take sz) := by simp [chunks, hj]
theorem chunks_get {sz n : Nat} {inner : List Value} {j : Nat} {c : List Value} (h : (chunks sz n inner)[j]? = some c) : c = (inner.drop (j * sz)).take sz := by
 have hj : j < n := by have := (List.getElem?_eq_some_iff.1 h).1; rwa [chunks_length] at this
 rw [chunks_at hj] at h
 injection h with h
 exact h.symm
theorem reps_raw {α : Type} {Rr : α → List Value → Prop} {sz : Nat} {xs : List α} {inner : List Value} (h : Reps Rr sz xs inner) (hR : ∀ x c, Rr x c → c.length = sz ∧ ∀ u ∈ c, u.oneCell' = true) : Reps (fun x cs => cs = x ∧ cs.length = sz ∧ ∀ u ∈ cs, u.oneCell' = true) sz (chunks sz xs.length inner) inner := by
 refine ⟨by rw [chunks_length]; exact h.1, fun j p hj => ?_⟩
 have hjl : j < xs.length := by have := (List.getElem?_eq_some_iff.1 hj).1; rwa [chunks_length] at this
 have hp := chunks_get hj
 exact ⟨hp.symm, hR _ _ (h.2 j _ (List.getElem?_eq_getElem hjl))⟩
section
variable {α : Type} {d : Kd α} {e base n cc g : Nat} {ok ok' okp S : Nat → Prop} {w w1 W W1 : World} {A : Option Addr} {u v v1 : Value} {xs : List α} {x : α} {c : List Value}
def N {α : Type} (d : Kd α) (e : Nat) (w : World) (base : Nat) (ok : Nat → Prop) (v : Value) (xs : List α) : Prop :=
 (∀ k, v.ownBlock = some k → ok k) ∧ ∃ rows : List (List Value), rows.length = xs.length ∧ (raw d.sz).R e w base (fun k => some k = v.ownBlock) v rows ∧ ∀ (j : Nat) (x : α) (c : List Value), xs[j]? = some x → rows[j]? = some c → FK d w (fun k => ok k ∧ some k ≠ v.ownBlock) x c
theorem R_N (h : d.R e w base ok v xs) : N d e w base ok v xs := by
 obtain ⟨h0, inner, ho, hr⟩ := h
 refine ⟨h0, chunks d.sz xs.length inner, chunks_length _ _ _, ⟨fun k hk => hk.symm, inner, by rw [chunks_length]; exact ho, reps_raw hr (fun x c hp => ⟨d.K_len (d.K_of_M hp), d.K_one (d.K_of_M hp)⟩)⟩, fun j x c hx hc => ?_⟩
 rw [chunks_get hc]
 exact FK_of_M (hr.2 j x hx)
theorem N_nil (d : Kd α) (e : Nat) (w : World) (base : Nat) (ok : Nat → Prop) : N d e w base ok (.slice none 0 0) [] := R_N (R_nil _ _ _ _ _)
end
end Kd
end Go.Proofs.YtnpeeiikdcankaaGreatW.PrintWords

-- PRINTED BY print.sh 35421559b90ae4d0a3588c463048766b98c2df88dd9212a6774a882060cdf62d: not written by this session
namespace Go.Proofs.YtnpeeiikdcankaaGreatW.PrintWords
open Go.RowKit
section
variable {P : Program} {d : Nat} {xs ys : Array Value} {f : Field} {fs : List Field} {a b : Value} {r s : Bool} {w : World}
theorem eqf_last (hn : (f.name == "_") = false) (ha : (part f.type xs f.offset).run P w = .ok a w) (hb : (part f.type ys f.offset).run P w = .ok b w) (he : (Op.equalIn d f.type a b).run P w = .ok r w) : (Op.eqFields d xs ys [f]).run P w = .ok r w := by
 have hn' : f.name ≠ "_" := by simpa using hn
 simp only [Op.eqFields, if_pos hn', Sem.run_bind, ha, hb, he, Result.andThen_ok]
 cases r <;> simp
theorem eqf_cons (hn : (f.name == "_") = false) (ha : (part f.type xs f.offset).run P w = .ok a w) (hb : (part f.type ys f.offset).run P w = .ok b w) (he : (Op.equalIn d f.type a b).run P w = .ok r w) (hr : (Op.eqFields d xs ys fs).run P w = .ok s w) : (Op.eqFields d xs ys (f :: fs)).run P w = .ok (r && s) w := by
 have hn' : f.name ≠ "_" := by simpa using hn
 rw [Op.eqFields]
 simp only [if_pos hn', Sem.run_bind, ha, hb, he, Result.andThen_ok]
 cases r
 · simp
 · simpa using hr
theorem eqA_of {t : TypeId} {fs : Array Field} (hu : P.underlying t = some (.struct fs)) (hp : P.stoodInHeld t = false) (h : (Op.eqFields d xs ys fs.toList).run P w = .ok r w) : (Op.equalIn (d + 1) t (.agg xs) (.agg ys)).run P w = .ok r w := by
 have hf : P.fieldsOf t = fs := by simp [Program.fieldsOf, hu]
 rw [run_equalIn_struct (P := P) w d t xs ys (by rw [hf]; exact hu) hp, hf]
 exact h
end
end Go.Proofs.YtnpeeiikdcankaaGreatW.PrintWords

-- PRINTED BY print.sh 35421559b90ae4d0a3588c463048766b98c2df88dd9212a6774a882060cdf62d: not written by this session
namespace Go.Proofs.YtnpeeiikdcankaaGreatW.PrintWords
theorem Reps.one {α : Type} {R : α → List Value → Prop} {ps : List α} {cs : List Value} {p : α} {v : Value} (hp : R p [v]) (h : Reps R 1 ps cs) : Reps R 1 (p :: ps) (v :: cs) := by
 refine ⟨by simp [h.1], fun j q hq => ?_⟩
 cases j with
 | zero =>
  simp only [List.getElem?_cons_zero, Option.some.injEq] at hq
  subst hq
  simpa using hp
 | succ j =>
  simp only [List.getElem?_cons_succ] at hq
  have h1 := h.2 j q hq
  simpa [Nat.mul_one] using h1
theorem Reps.front {α : Type} {R : α → List Value → Prop} {size : Nat} {ps : List α} {cs c all : List Value} {p : α} (hp : R p c) (hc : c.length = size) (h : Reps R size ps cs) (ha : c ++ cs = all) : Reps R size (p :: ps) all := by
 subst ha
 refine ⟨by rw [List.length_append, hc, h.1, List.length_cons, Nat.succ_mul, Nat.add_comm], fun j q hq => ?_⟩
 cases j with
 | zero =>
  simp only [List.getElem?_cons_zero, Option.some.injEq] at hq
  subst hq
  rw [Nat.zero_mul, List.drop_zero, List.take_append_of_le_length (by omega), List.take_of_length_le (by omega)]
  exact hp
 | succ j =>
  simp only [List.getElem?_cons_succ] at hq
  have h1 := h.2 j q hq
  rw [Nat.succ_mul, List.drop_append, List.drop_of_length_le (by rw [hc]; exact Nat.le_add_left _ _), List.nil_append, hc, Nat.add_sub_cancel]
  exact h1
theorem Reps.c2 {α : Type} {R : α → List Value → Prop} {ps : List α} {cs : List Value} {p : α} {va vb : Value} (hp : R p [va, vb]) (h : Reps R 2 ps cs) : Reps R 2 (p :: ps) (va :: vb :: cs) := Reps.front hp rfl h rfl
theorem Reps.c3 {α : Type} {R : α → List Value → Prop} {ps : List α} {cs : List Value} {p : α} {va vb vc : Value} (hp : R p [va, vb, vc]) (h : Reps R 3 ps cs) : Reps R 3 (p :: ps) (va :: vb :: vc :: cs) := Reps.front hp rfl h rfl
theorem Reps.c4 {α : Type} {R : α → List Value → Prop} {ps : List α} {cs : List Value} {p : α} {va vb vc vd : Value} (hp : R p [va, vb, vc, vd]) (h : Reps R 4 ps cs) : Reps R 4 (p :: ps) (va :: vb :: vc :: vd :: cs) := Reps.front hp rfl h rfl
theorem Reps.c5 {α : Type} {R : α → List Value → Prop} {ps : List α} {cs : List Value} {p : α} {va vb vc vd ve : Value} (hp : R p [va, vb, vc, vd, ve]) (h : Reps R 5 ps cs) : Reps R 5 (p :: ps) (va :: vb :: vc :: vd :: ve :: cs) := Reps.front hp rfl h rfl
theorem Reps.c6 {α : Type} {R : α → List Value → Prop} {ps : List α} {cs : List Value} {p : α} {va vb vc vd ve vf : Value} (hp : R p [va, vb, vc, vd, ve, vf]) (h : Reps R 6 ps cs) : Reps R 6 (p :: ps) (va :: vb :: vc :: vd :: ve :: vf :: cs) := Reps.front hp rfl h rfl
theorem Reps.c7 {α : Type} {R : α → List Value → Prop} {ps : List α} {cs : List Value} {p : α} {va vb vc vd ve vf vg : Value} (hp : R p [va, vb, vc, vd, ve, vf, vg]) (h : Reps R 7 ps cs) : Reps R 7 (p :: ps) (va :: vb :: vc :: vd :: ve :: vf :: vg :: cs) := Reps.front hp rfl h rfl
theorem Reps.c8 {α : Type} {R : α → List Value → Prop} {ps : List α} {cs : List Value} {p : α} {va vb vc vd ve vf vg vh : Value} (hp : R p [va, vb, vc, vd, ve, vf, vg, vh]) (h : Reps R 8 ps cs) : Reps R 8 (p :: ps) (va :: vb :: vc :: vd :: ve :: vf :: vg :: vh :: cs) := Reps.front hp rfl h rfl
theorem Reps.c9 {α : Type} {R : α → List Value → Prop} {ps : List α} {cs : List Value} {p : α} {va vb vc vd ve vf vg vh vi : Value} (hp : R p [va, vb, vc, vd, ve, vf, vg, vh, vi]) (h : Reps R 9 ps cs) : Reps R 9 (p :: ps) (va :: vb :: vc :: vd :: ve :: vf :: vg :: vh :: vi :: cs) := Reps.front hp rfl h rfl
theorem Reps.c10 {α : Type} {R : α → List Value → Prop} {ps : List α} {cs : List Value} {p : α} {va vb vc vd ve vf vg vh vi vj : Value} (hp : R p [va, vb, vc, vd, ve, vf, vg, vh, vi, vj]) (h : Reps R 10 ps cs) : Reps R 10 (p :: ps) (va :: vb :: vc :: vd :: ve :: vf :: vg :: vh :: vi :: vj :: cs) := Reps.front hp rfl h rfl
end Go.Proofs.YtnpeeiikdcankaaGreatW.PrintWords

-- PRINTED BY print.sh 35421559b90ae4d0a3588c463048766b98c2df88dd9212a6774a882060cdf62d: not written by this session
namespace Go.Proofs.YtnpeeiikdcankaaGreatW.PrintWords
open Go.RowKit
section
variable {P : Program} {ops : Array Oper} {rest : List Oper} {o : Oper} {a : Act} {Q : Exit → Act → World → Prop} {W : World}
theorem gate_guard (hw : Region.wanted o (yielded ops a.tmps) = true) (h : wpList P ops Q ({ o with guard := none } :: rest) a W) : wpList P ops Q (o :: rest) a W := by
 have h1 : Region.wanted { o with guard := none } (yielded ops a.tmps) = true := rfl
 unfold wpList at h ⊢
 rw [if_pos h1] at h
 rw [if_pos hw]
 exact h
end
end Go.Proofs.YtnpeeiikdcankaaGreatW.PrintWords

-- PRINTED BY print.sh 35421559b90ae4d0a3588c463048766b98c2df88dd9212a6774a882060cdf62d: not written by this session
namespace Go.Proofs.YtnpeeiikdcankaaGreatW.PrintWords
open Go.RowKit
namespace Kd
section
variable {α : Type} {d : Kd α} {e base n cap g : Nat} {ok ok' okp : Nat → Prop} {w w1 W : World} {v v1 : Value} {xs ys : List α}
end
section
variable {P : Program} {ops : Array Oper} {rest : List Oper} {o : Oper} {a : Act} {Q : Exit → Act → World → Prop} {Kc : Act → World → Prop} {α : Type}
end
end Kd
end Go.Proofs.YtnpeeiikdcankaaGreatW.PrintWords

-- PRINTED BY print.sh 35421559b90ae4d0a3588c463048766b98c2df88dd9212a6774a882060cdf62d: not written by this session
-- PRINTED WORDS (module Derived/Print/More.lean): go-gate-2's additions: an AI agent of Go's test side, Tue Nov 17 2026; no person has read it. Lean checks it.
namespace Go.Proofs.YtnpeeiikdcankaaGreatW.PrintMore
open Go.RowKit Go.Proofs.YtnpeeiikdcankaaGreatW.PrintWords
namespace Kd
open Go.Proofs.YtnpeeiikdcankaaGreatW.PrintWords.Kd
end Kd
namespace Kd
open Go.Proofs.YtnpeeiikdcankaaGreatW.PrintWords.Kd
section
variable {α : Type} {d : Kd α} {e base g N : Nat} {ok : Nat → Prop} {W w1 : World} {u v : Value} {xs : List α}
end
end Kd
theorem max2_int (k k' : IntKind) (x y : Int) : Builtin.max2 (.int k x) (.int k' y) = pure (.int k (if x < y then y else x)) := by simp only [Builtin.max2, gt_iff_lt]
theorem min2_int (k k' : IntKind) (x y : Int) : Builtin.min2 (.int k x) (.int k' y) = pure (.int k (if y < x then y else x)) := by simp only [Builtin.min2]
theorem max_two (ats : Array TypeId) (ty : TypeId) (a b : Value) : Builtin.max_ ats ty #[a, b] = (Builtin.max2 a b >>= fun s => pure s) := by simp only [Builtin.max_, List.foldlM_cons, List.foldlM_nil]
theorem min_two (ats : Array TypeId) (ty : TypeId) (a b : Value) : Builtin.min_ ats ty #[a, b] = (Builtin.min2 a b >>= fun s => pure s) := by simp only [Builtin.min_, List.foldlM_cons, List.foldlM_nil]
theorem max_three (ats : Array TypeId) (ty : TypeId) (a b c : Value) : Builtin.max_ ats ty #[a, b, c] = (Builtin.max2 a b >>= fun s => Builtin.max2 s c >>= fun s => pure s) := by simp only [Builtin.max_, List.foldlM_cons, List.foldlM_nil]
theorem min_three (ats : Array TypeId) (ty : TypeId) (a b c : Value) : Builtin.min_ ats ty #[a, b, c] = (Builtin.min2 a b >>= fun s => Builtin.min2 s c >>= fun s => pure s) := by simp only [Builtin.min_, List.foldlM_cons, List.foldlM_nil]
theorem max_four (ats : Array TypeId) (ty : TypeId) (a b c d : Value) : Builtin.max_ ats ty #[a, b, c, d] = (Builtin.max2 a b >>= fun s => Builtin.max2 s c >>= fun s => Builtin.max2 s d >>= fun s => pure s) := by simp only [Builtin.max_, List.foldlM_cons, List.foldlM_nil]
theorem min_four (ats : Array TypeId) (ty : TypeId) (a b c d : Value) : Builtin.min_ ats ty #[a, b, c, d] = (Builtin.min2 a b >>= fun s => Builtin.min2 s c >>= fun s => Builtin.min2 s d >>= fun s => pure s) := by simp only [Builtin.min_, List.foldlM_cons, List.foldlM_nil]
end Go.Proofs.YtnpeeiikdcankaaGreatW.PrintMore
namespace Go.Proofs.YtnpeeiikdcankaaGreatW.PrintWords
open Go.RowKit
section
variable {P : Program} {ops : Array Oper} {rest : List Oper} {o : Oper} {a : Act} {Q : Exit → Act → World → Prop} {W : World}
theorem gate_callee {f : FuncId} {as_ : Array Operand} {ts : Array TypeId} (_ho : o.op = .call { callee := .value (.func f), args := as_, argTypes := ts }) (h : wpList P ops Q (o :: rest) a W) : wpList P ops Q (o :: rest) a W := h
theorem gate_builtin {b : Builtin} {xs : Array Operand} {ts : Array TypeId} (_ho : o.op = .call { callee := .builtin b, args := xs, argTypes := ts }) (h : wpList P ops Q (o :: rest) a W) : wpList P ops Q (o :: rest) a W := h
end
theorem drewN_self (w : World) (n : Nat) : w.drewN n = w.drewN n := rfl
namespace Kd
section
variable {α : Type} {d : Kd α} {e base : Nat} {ok : Nat → Prop} {W w1 : World} {v : Value} {xs : List α}
end
section
variable {α : Type} {d : Kd α} {e base g n cap : Nat} {ok oki okp : Nat → Prop} {W : World} {xs : List α} {i : Int} {c : List Value}
end
section
variable {α : Type} {d : Kd α} {e base b b' g N : Nat} {ok ok1 : Nat → Prop} {W W2 w1 : World} {u v : Value} {xs ys : List α} {S : Nat → Prop}
end
end Kd
end Go.Proofs.YtnpeeiikdcankaaGreatW.PrintWords
namespace Go.Proofs.YtnpeeiikdcankaaGreatW.PrintWords
open Go.RowKit
namespace Kd
def V {α : Type} (d : Kd α) (_e : Nat) (W : World) (_base : Nat) (ok : Nat → Prop) (v : Value) (xs : List α) : Prop := ∃ A c, v = .slice A xs.length c ∧ xs.length ≤ c ∧ F d W ok A xs.length xs
section
variable {α β : Type} {d : Kd α} {e base base' n m c g N' lo hi : Nat} {ok ok' S : Nat → Prop} {w W w1 : World} {A : Option Addr} {ad : Addr} {u v v1 : Value} {xs : List α}
theorem V_nil (d : Kd α) (e : Nat) (W : World) (base : Nat) (ok : Nat → Prop) : V d e W base ok (.slice none 0 0) [] := ⟨none, 0, rfl, Nat.le_refl _, F_nil d W ok⟩
end
end Kd
end Go.Proofs.YtnpeeiikdcankaaGreatW.PrintWords

namespace Go.Proofs.YtnpeeiikdcankaaGreat.X
open Go.RowKit Go.Proofs.YtnpeeiikdcankaaGreatW.PrintWords Go.Proofs.YtnpeeiikdcankaaGreatW.PrintLast Go.Proofs.YtnpeeiikdcankaaGreatW.PrintMore Go.Proofs.YtnpeeiikdcankaaGreat.Ext
attribute [local go_sem] max2_int min2_int max_two min_two max_three min_three max_four min_four
def errW : Option Int → Value
 | none => .nilIface
 | some c => .iface 0 (.int .i64 c)
theorem errW_none : errW none = .nilIface := rfl
theorem errW_some (c : Int) : errW (some c) = .iface 0 (.int .i64 c) := rfl
theorem info9 : (Tryz.prog.info? 9).map (fun i => (i.zero, i.size, i.bytes)) = some (some (.string ⟨#[]⟩), 1, 16) := by kernel_rfl
theorem info106 : (Tryz.prog.info? 106).map (fun i => (i.zero, i.size, i.bytes)) = some (some (.agg #[(.int .i64 0), (.int .i64 0), (.string ⟨#[]⟩), (.int .i64 0), (.string ⟨#[]⟩)]), 5, 56) := by kernel_rfl
theorem info162 : (Tryz.prog.info? 162).map (fun i => (i.zero, i.size, i.bytes)) = some (some (.agg #[(.string ⟨#[]⟩), (.int .i64 0)]), 2, 24) := by kernel_rfl
-- the values' own types
structure S93 where
 f0 : Int
 f1 : ByteArray
 f2 : Int
 f3 : ByteArray
def z93 : S93 := ⟨(0 : Int), (⟨#[]⟩ : ByteArray), (0 : Int), (⟨#[]⟩ : ByteArray)⟩
def k93 : Kd S93 := Kd.iso (Kd.pair (Kd.int .i64) (Kd.pair Kd.string (Kd.pair (Kd.int .i64) Kd.string))) (fun x : S93 => (x.f0, x.f1, x.f2, x.f3))
theorem k93_open {w : World} {x : S93} {cs : List Value} (h : k93.K w x cs) : cs = [.int .i64 x.f0, .string x.f1, .int .i64 x.f2, .string x.f3] := by
 obtain ⟨_, _, rfl, rfl, ⟨_, _, rfl, rfl, ⟨_, _, rfl, rfl, rfl⟩⟩⟩ := h
 exact rfl
def rd_T93 (xs : List S93) (i : Int) : S93 := xs.getD i.toNat z93
theorem at_T93 {w : World} {A : Option Addr} {n : Nat} {xs : List S93} (h : Kd.C k93 w A n xs) (i : Int) (h0 : 0 ≤ i) (h1 : i < n) : ∃ ad , A = some ad ∧ w.cell? (ad.add (i.toNat * 4)) = some (.int .i64 (rd_T93 xs i).f0) ∧ w.cell? ⟨(ad.add (i.toNat * 4)).block, (ad.add (i.toNat * 4)).off + 1, none⟩ = some (.string (rd_T93 xs i).f1) ∧ w.cell? ⟨(ad.add (i.toNat * 4)).block, (ad.add (i.toNat * 4)).off + 2, none⟩ = some (.int .i64 (rd_T93 xs i).f2) ∧ w.cell? ⟨(ad.add (i.toNat * 4)).block, (ad.add (i.toNat * 4)).off + 3, none⟩ = some (.string (rd_T93 xs i).f3) := by
 obtain ⟨ad, c, e, _, hK, hc0⟩ := Kd.C_get h z93 i h0 h1
 have hc : ∀ j u, c[j]? = some u → w.cell? (ad.add (i.toNat * 4 + j)) = some u := hc0
 obtain rfl := k93_open hK
 exact ⟨ad, e, hc 0 _ rfl, by rw [← add_field _ _ 1 (by omega)]; exact hc 1 _ rfl, by rw [← add_field _ _ 2 (by omega)]; exact hc 2 _ rfl, by rw [← add_field _ _ 3 (by omega)]; exact hc 3 _ rfl⟩
structure S106 where
 f0 : Int
 f1 : Int
 f2 : ByteArray
 f3 : Int
 f4 : ByteArray
def z106 : S106 := ⟨(0 : Int), (0 : Int), (⟨#[]⟩ : ByteArray), (0 : Int), (⟨#[]⟩ : ByteArray)⟩
def k106 : Kd S106 := Kd.iso (Kd.pair (Kd.int .i64) (Kd.pair (Kd.int .i64) (Kd.pair Kd.string (Kd.pair (Kd.int .i64) Kd.string)))) (fun x : S106 => (x.f0, x.f1, x.f2, x.f3, x.f4))
theorem k106_open {w : World} {x : S106} {cs : List Value} (h : k106.K w x cs) : cs = [.int .i64 x.f0, .int .i64 x.f1, .string x.f2, .int .i64 x.f3, .string x.f4] := by
 obtain ⟨_, _, rfl, rfl, ⟨_, _, rfl, rfl, ⟨_, _, rfl, rfl, ⟨_, _, rfl, rfl, rfl⟩⟩⟩⟩ := h
 exact rfl
theorem k106_openM {w : World} {base : Nat} {ok : Nat → Prop} {x : S106} {cs : List Value} (h : k106.M w base ok x cs) : cs = [.int .i64 x.f0, .int .i64 x.f1, .string x.f2, .int .i64 x.f3, .string x.f4] := by
 obtain ⟨_, _, rfl, rfl, ⟨_, _, rfl, rfl, ⟨_, _, rfl, rfl, ⟨_, _, rfl, rfl, rfl⟩⟩⟩⟩ := h
 exact rfl
theorem k106_mk (w : World) (x : S106)  : k106.K w x [.int .i64 x.f0, .int .i64 x.f1, .string x.f2, .int .i64 x.f3, .string x.f4] := ⟨[.int .i64 x.f0], [.int .i64 x.f1, .string x.f2, .int .i64 x.f3, .string x.f4], rfl, rfl, ⟨[.int .i64 x.f1], [.string x.f2, .int .i64 x.f3, .string x.f4], rfl, rfl, ⟨[.string x.f2], [.int .i64 x.f3, .string x.f4], rfl, rfl, ⟨[.int .i64 x.f3], [.string x.f4], rfl, rfl, rfl⟩⟩⟩⟩
theorem k106_mkM (w : World) (base : Nat) (ok : Nat → Prop) (x : S106)  : k106.M w base ok x [.int .i64 x.f0, .int .i64 x.f1, .string x.f2, .int .i64 x.f3, .string x.f4] := ⟨[.int .i64 x.f0], [.int .i64 x.f1, .string x.f2, .int .i64 x.f3, .string x.f4], rfl, rfl, ⟨[.int .i64 x.f1], [.string x.f2, .int .i64 x.f3, .string x.f4], rfl, rfl, ⟨[.string x.f2], [.int .i64 x.f3, .string x.f4], rfl, rfl, ⟨[.int .i64 x.f3], [.string x.f4], rfl, rfl, rfl⟩⟩⟩⟩
def rd_T106 (xs : List S106) (i : Int) : S106 := xs.getD i.toNat z106
theorem at_T106 {w : World} {A : Option Addr} {n : Nat} {xs : List S106} (h : Kd.C k106 w A n xs) (i : Int) (h0 : 0 ≤ i) (h1 : i < n) : ∃ ad , A = some ad ∧ w.cell? (ad.add (i.toNat * 5)) = some (.int .i64 (rd_T106 xs i).f0) ∧ w.cell? ⟨(ad.add (i.toNat * 5)).block, (ad.add (i.toNat * 5)).off + 1, none⟩ = some (.int .i64 (rd_T106 xs i).f1) ∧ w.cell? ⟨(ad.add (i.toNat * 5)).block, (ad.add (i.toNat * 5)).off + 2, none⟩ = some (.string (rd_T106 xs i).f2) ∧ w.cell? ⟨(ad.add (i.toNat * 5)).block, (ad.add (i.toNat * 5)).off + 3, none⟩ = some (.int .i64 (rd_T106 xs i).f3) ∧ w.cell? ⟨(ad.add (i.toNat * 5)).block, (ad.add (i.toNat * 5)).off + 4, none⟩ = some (.string (rd_T106 xs i).f4) := by
 obtain ⟨ad, c, e, _, hK, hc0⟩ := Kd.C_get h z106 i h0 h1
 have hc : ∀ j u, c[j]? = some u → w.cell? (ad.add (i.toNat * 5 + j)) = some u := hc0
 obtain rfl := k106_open hK
 exact ⟨ad, e, hc 0 _ rfl, by rw [← add_field _ _ 1 (by omega)]; exact hc 1 _ rfl, by rw [← add_field _ _ 2 (by omega)]; exact hc 2 _ rfl, by rw [← add_field _ _ 3 (by omega)]; exact hc 3 _ rfl, by rw [← add_field _ _ 4 (by omega)]; exact hc 4 _ rfl⟩
structure S162 where
 f0 : ByteArray
 f1 : Int
def z162 : S162 := ⟨(⟨#[]⟩ : ByteArray), (0 : Int)⟩
def k162 : Kd S162 := Kd.iso (Kd.pair Kd.string (Kd.int .i64)) (fun x : S162 => (x.f0, x.f1))
theorem k162_open {w : World} {x : S162} {cs : List Value} (h : k162.K w x cs) : cs = [.string x.f0, .int .i64 x.f1] := by
 obtain ⟨_, _, rfl, rfl, rfl⟩ := h
 exact rfl
theorem k162_openM {w : World} {base : Nat} {ok : Nat → Prop} {x : S162} {cs : List Value} (h : k162.M w base ok x cs) : cs = [.string x.f0, .int .i64 x.f1] := by
 obtain ⟨_, _, rfl, rfl, rfl⟩ := h
 exact rfl
theorem k162_mk (w : World) (x : S162)  : k162.K w x [.string x.f0, .int .i64 x.f1] := ⟨[.string x.f0], [.int .i64 x.f1], rfl, rfl, rfl⟩
theorem k162_mkM (w : World) (base : Nat) (ok : Nat → Prop) (x : S162)  : k162.M w base ok x [.string x.f0, .int .i64 x.f1] := ⟨[.string x.f0], [.int .i64 x.f1], rfl, rfl, rfl⟩
def rd_T162 (xs : List S162) (i : Int) : S162 := xs.getD i.toNat z162
theorem at_T162 {w : World} {A : Option Addr} {n : Nat} {xs : List S162} (h : Kd.C k162 w A n xs) (i : Int) (h0 : 0 ≤ i) (h1 : i < n) : ∃ ad , A = some ad ∧ w.cell? (ad.add (i.toNat * 2)) = some (.string (rd_T162 xs i).f0) ∧ w.cell? ⟨(ad.add (i.toNat * 2)).block, (ad.add (i.toNat * 2)).off + 1, none⟩ = some (.int .i64 (rd_T162 xs i).f1) := by
 obtain ⟨ad, c, e, _, hK, hc0⟩ := Kd.C_get h z162 i h0 h1
 have hc : ∀ j u, c[j]? = some u → w.cell? (ad.add (i.toNat * 2 + j)) = some u := hc0
 obtain rfl := k162_open hK
 exact ⟨ad, e, hc 0 _ rfl, by rw [← add_field _ _ 1 (by omega)]; exact hc 1 _ rfl⟩
structure S36 where
 f0 : Int
 f1 : ByteArray
 f2 : ByteArray
def z36 : S36 := ⟨(0 : Int), (⟨#[]⟩ : ByteArray), (⟨#[]⟩ : ByteArray)⟩
def k36 : Kd S36 := Kd.iso (Kd.pair (Kd.int .i64) (Kd.pair Kd.string Kd.string)) (fun x : S36 => (x.f0, x.f1, x.f2))
theorem k36_open {w : World} {x : S36} {cs : List Value} (h : k36.K w x cs) : cs = [.int .i64 x.f0, .string x.f1, .string x.f2] := by
 obtain ⟨_, _, rfl, rfl, ⟨_, _, rfl, rfl, rfl⟩⟩ := h
 exact rfl
theorem k36_mk (w : World) (x : S36)  : k36.K w x [.int .i64 x.f0, .string x.f1, .string x.f2] := ⟨[.int .i64 x.f0], [.string x.f1, .string x.f2], rfl, rfl, ⟨[.string x.f1], [.string x.f2], rfl, rfl, rfl⟩⟩
def rd_T36 (xs : List S36) (i : Int) : S36 := xs.getD i.toNat z36
theorem at_T36 {w : World} {A : Option Addr} {n : Nat} {xs : List S36} (h : Kd.C k36 w A n xs) (i : Int) (h0 : 0 ≤ i) (h1 : i < n) : ∃ ad , A = some ad ∧ w.cell? (ad.add (i.toNat * 3)) = some (.int .i64 (rd_T36 xs i).f0) ∧ w.cell? ⟨(ad.add (i.toNat * 3)).block, (ad.add (i.toNat * 3)).off + 1, none⟩ = some (.string (rd_T36 xs i).f1) ∧ w.cell? ⟨(ad.add (i.toNat * 3)).block, (ad.add (i.toNat * 3)).off + 2, none⟩ = some (.string (rd_T36 xs i).f2) := by
 obtain ⟨ad, c, e, _, hK, hc0⟩ := Kd.C_get h z36 i h0 h1
 have hc : ∀ j u, c[j]? = some u → w.cell? (ad.add (i.toNat * 3 + j)) = some u := hc0
 obtain rfl := k36_open hK
 exact ⟨ad, e, hc 0 _ rfl, by rw [← add_field _ _ 1 (by omega)]; exact hc 1 _ rfl, by rw [← add_field _ _ 2 (by omega)]; exact hc 2 _ rfl⟩
structure S115 where
 f0 : Int
 f1 : Int
def z115 : S115 := ⟨(0 : Int), (0 : Int)⟩
def k115 : Kd S115 := Kd.iso (Kd.pair (Kd.int .i64) (Kd.int .i64)) (fun x : S115 => (x.f0, x.f1))
theorem k115_open {w : World} {x : S115} {cs : List Value} (h : k115.K w x cs) : cs = [.int .i64 x.f0, .int .i64 x.f1] := by
 obtain ⟨_, _, rfl, rfl, rfl⟩ := h
 exact rfl
theorem k115_mk (w : World) (x : S115)  : k115.K w x [.int .i64 x.f0, .int .i64 x.f1] := ⟨[.int .i64 x.f0], [.int .i64 x.f1], rfl, rfl, rfl⟩
theorem k115_mkM (w : World) (base : Nat) (ok : Nat → Prop) (x : S115)  : k115.M w base ok x [.int .i64 x.f0, .int .i64 x.f1] := ⟨[.int .i64 x.f0], [.int .i64 x.f1], rfl, rfl, rfl⟩
def rd_T115 (xs : List S115) (i : Int) : S115 := xs.getD i.toNat z115
theorem at_T115 {w : World} {A : Option Addr} {n : Nat} {xs : List S115} (h : Kd.C k115 w A n xs) (i : Int) (h0 : 0 ≤ i) (h1 : i < n) : ∃ ad , A = some ad ∧ w.cell? (ad.add (i.toNat * 2)) = some (.int .i64 (rd_T115 xs i).f0) ∧ w.cell? ⟨(ad.add (i.toNat * 2)).block, (ad.add (i.toNat * 2)).off + 1, none⟩ = some (.int .i64 (rd_T115 xs i).f1) := by
 obtain ⟨ad, c, e, _, hK, hc0⟩ := Kd.C_get h z115 i h0 h1
 have hc : ∀ j u, c[j]? = some u → w.cell? (ad.add (i.toNat * 2 + j)) = some u := hc0
 obtain rfl := k115_open hK
 exact ⟨ad, e, hc 0 _ rfl, by rw [← add_field _ _ 1 (by omega)]; exact hc 1 _ rfl⟩
@[go_sem] theorem fl_93_0 (v0 v1 v2 v3 : Value) (w : World) : (Instr.field 93 (.agg #[v0, v1, v2, v3]) 0).run Tryz.prog w = .ok v0 w := by kernel_rfl
@[go_sem] theorem fl_93_1 (v0 v1 v2 v3 : Value) (w : World) : (Instr.field 93 (.agg #[v0, v1, v2, v3]) 1).run Tryz.prog w = .ok v1 w := by kernel_rfl
@[go_sem] theorem fl_93_2 (v0 v1 v2 v3 : Value) (w : World) : (Instr.field 93 (.agg #[v0, v1, v2, v3]) 2).run Tryz.prog w = .ok v2 w := by kernel_rfl
@[go_sem] theorem fl_93_3 (v0 v1 v2 v3 : Value) (w : World) : (Instr.field 93 (.agg #[v0, v1, v2, v3]) 3).run Tryz.prog w = .ok v3 w := by kernel_rfl
@[go_sem] theorem fl_106_0 (v0 v1 v2 v3 v4 : Value) (w : World) : (Instr.field 106 (.agg #[v0, v1, v2, v3, v4]) 0).run Tryz.prog w = .ok v0 w := by kernel_rfl
@[go_sem] theorem fl_106_1 (v0 v1 v2 v3 v4 : Value) (w : World) : (Instr.field 106 (.agg #[v0, v1, v2, v3, v4]) 1).run Tryz.prog w = .ok v1 w := by kernel_rfl
@[go_sem] theorem fl_106_2 (v0 v1 v2 v3 v4 : Value) (w : World) : (Instr.field 106 (.agg #[v0, v1, v2, v3, v4]) 2).run Tryz.prog w = .ok v2 w := by kernel_rfl
@[go_sem] theorem fl_106_3 (v0 v1 v2 v3 v4 : Value) (w : World) : (Instr.field 106 (.agg #[v0, v1, v2, v3, v4]) 3).run Tryz.prog w = .ok v3 w := by kernel_rfl
@[go_sem] theorem fl_106_4 (v0 v1 v2 v3 v4 : Value) (w : World) : (Instr.field 106 (.agg #[v0, v1, v2, v3, v4]) 4).run Tryz.prog w = .ok v4 w := by kernel_rfl
@[go_sem] theorem fl_162_0 (v0 v1 : Value) (w : World) : (Instr.field 162 (.agg #[v0, v1]) 0).run Tryz.prog w = .ok v0 w := by kernel_rfl
@[go_sem] theorem fl_162_1 (v0 v1 : Value) (w : World) : (Instr.field 162 (.agg #[v0, v1]) 1).run Tryz.prog w = .ok v1 w := by kernel_rfl
@[go_sem] theorem fl_36_0 (v0 v1 v2 : Value) (w : World) : (Instr.field 36 (.agg #[v0, v1, v2]) 0).run Tryz.prog w = .ok v0 w := by kernel_rfl
@[go_sem] theorem fl_36_1 (v0 v1 v2 : Value) (w : World) : (Instr.field 36 (.agg #[v0, v1, v2]) 1).run Tryz.prog w = .ok v1 w := by kernel_rfl
@[go_sem] theorem fl_36_2 (v0 v1 v2 : Value) (w : World) : (Instr.field 36 (.agg #[v0, v1, v2]) 2).run Tryz.prog w = .ok v2 w := by kernel_rfl
@[go_sem] theorem fl_115_0 (v0 v1 : Value) (w : World) : (Instr.field 115 (.agg #[v0, v1]) 0).run Tryz.prog w = .ok v0 w := by kernel_rfl
@[go_sem] theorem fl_115_1 (v0 v1 : Value) (w : World) : (Instr.field 115 (.agg #[v0, v1]) 1).run Tryz.prog w = .ok v1 w := by kernel_rfl
@[go_sem] theorem fl_130_0 (v0 v1 : Value) (w : World) : (Instr.field 130 (.agg #[v0, v1]) 0).run Tryz.prog w = .ok v0 w := by kernel_rfl
@[go_sem] theorem fl_130_1 (v0 v1 : Value) (w : World) : (Instr.field 130 (.agg #[v0, v1]) 1).run Tryz.prog w = .ok v1 w := by kernel_rfl
theorem own_cut {α : Type} {d : Kd α} {e : Nat} {w : World} {base : Nat} {A : Option Addr} {x y c : Nat} {v : Value} {xs : List α} (h : Kd.R d e w base (fun k_ => some k_ ≠ (Value.slice A x c).ownBlock) v xs) :
 Kd.R d e w base (fun k_ => some k_ ≠ (Value.slice A y c).ownBlock) v xs := Kd.R_mono h (fun k hk => by cases A <;> exact hk)
theorem less_irr : ∀ a : List UInt8, Op.bytesLess a a = false
 | [] => by simp [Op.bytesLess]
 | c :: a => by simp [Op.bytesLess, less_irr a]
theorem less_asym : ∀ a b : List UInt8, Op.bytesLess a b = true → Op.bytesLess b a = false
 | _, [], h => by simp [Op.bytesLess] at h
 | [], _ :: _, _ => by simp [Op.bytesLess]
 | c :: a, d :: b, h => by
  simp [Op.bytesLess] at h ⊢
  rcases h with h | ⟨rfl, h⟩
  ·
   exact ⟨UInt8.le_of_lt h, fun e => absurd h (by rw [e]; exact UInt8.lt_irrefl _)⟩
  ·
   exact ⟨UInt8.le_refl _, fun _ => less_asym a b h⟩
theorem less_tot : ∀ a b : List UInt8, Op.bytesLess a b = false → (Op.bytesLess b a || b == a) = true
 | [], [], _ => by simp
 | _ :: _, [], _ => by simp [Op.bytesLess]
 | [], _ :: _, h => by simp [Op.bytesLess] at h
 | c :: a, d :: b, h => by
  simp [Op.bytesLess] at h
  obtain ⟨h1, h2⟩ := h
  by_cases e : d = c
  ·
   subst e
   have := less_tot a b (h2 rfl)
   simp [Op.bytesLess] at this ⊢
   exact this
  ·
   have : d < c := UInt8.lt_of_le_of_ne h1 e
   simp [Op.bytesLess, this]
theorem less_flip {a b : List UInt8} (h : Op.bytesLess a b = true) : (b == a) = false := by
 rw [beq_eq_false_iff_ne]
 rintro rfl
 rw [less_irr] at h
 cases h
theorem bne_nil (l : List UInt8) : (l != []) = !l.isEmpty := by cases l <;> rfl
end Go.Proofs.YtnpeeiikdcankaaGreat.X

namespace Go.Proofs.YtnpeeiikdcankaaGreat.Tw
open Go Go.RowKit Go.Shelf Go.Proofs Go.Proofs.YtnpeeiikdcankaaGreat Go.Proofs.YtnpeeiikdcankaaGreatW.PrintWords Go.Proofs.YtnpeeiikdcankaaGreat.Ext Go.Proofs.YtnpeeiikdcankaaGreat.X
abbrev En := S162
def bl (a b : ByteArray) : Bool := Op.bytesLess a.toList b.toList
def cmpV (a b : ByteArray) : Int := if bl a b = true then -1 else if (a.toList == b.toList) = true then 0 else 1
theorem isNaN_calls (s : ByteArray) (w : World) : Calls Tryz.prog 128 #[.string s] w fun e w' => e = .returned (.bool false) ∧ w = w' := by
 have b1 : (s.toList != s.toList) = false := by simp
 go_enter Tryz.func128, Tryz.ntmps128
 go_wp2
 go_ret
 exact ⟨rfl, rfl⟩
theorem compare_calls (a b : ByteArray) (w : World) : Calls Tryz.prog 84 #[.string a, .string b] w fun e w' => e = .returned (.int .i64 (cmpV a b)) ∧ w = w' := by
 obtain ⟨r, hr⟩ : ∃ r, r = cmpV a b := ⟨_, rfl⟩
 rw [← hr]
 unfold cmpV at hr
 have HR := qh hr
 clear hr
 cases h1 : bl a b with
 | true =>
  have e : r = -1 := by rw [HR.out, h1]; rfl
  have HE := qh e
  unfold bl at h1
  clear HR e
  go_enter Tryz.func84, Tryz.ntmps84
  go_wp2_with (go_at_call 128; refine (isNaN_calls _ _).mono ?_; rintro e w' ⟨rfl, rfl⟩)
  go_ret
  exact ⟨by rw [HE.out]; rfl, rfl⟩
 | false =>
  cases h2 : (a.toList == b.toList) with
  | true =>
   have e : r = 0 := by rw [HR.out, h1, h2]; rfl
   have HE := qh e
   unfold bl at h1
   clear HR e
   go_enter Tryz.func84, Tryz.ntmps84
   go_wp2_with (go_at_call 128; refine (isNaN_calls _ _).mono ?_; rintro e w' ⟨rfl, rfl⟩)
   go_ret
   exact ⟨by rw [HE.out]; rfl, rfl⟩
  | false =>
   have e : r = 1 := by rw [HR.out, h1, h2]; rfl
   have HE := qh e
   unfold bl at h1
   clear HR e
   go_enter Tryz.func84, Tryz.ntmps84
   go_wp2_with (go_at_call 128; refine (isNaN_calls _ _).mono ?_; rintro e w' ⟨rfl, rfl⟩)
   go_ret
   exact ⟨by rw [HE.out]; rfl, rfl⟩
theorem at1_calls (n : ByteArray) (x : Int) (s : ByteArray) (w : World) : Calls Tryz.prog 162 #[.agg #[.string n, .int .i64 x], .string s] w fun e w' => e = .returned (.int .i64 (cmpV n s)) ∧ Below w.heap.size w w' := by
 go_enter Tryz.func162, Tryz.ntmps162
 go_wp2_with (go_at_call 84; refine (compare_calls _ _ _).mono ?_; rintro e w' ⟨rfl, rfl⟩)
 go_ret
 exact ⟨rfl, (Below.refl _ w).alloc (Nat.le_refl _) _⟩
structure Cut (l : List En) (s : ByteArray) (lo : Nat) : Prop where
 le : lo ≤ l.length
 lt : ∀ i, i < lo → bl (l.getD i z162).f0 s = true
 ge : ∀ i, lo ≤ i → i < l.length → bl (l.getD i z162).f0 s = false
def isAt (l : List En) (s : ByteArray) (lo : Nat) : Bool := decide (lo < l.length) && ((l.getD lo z162).f0.toList == s.toList)
theorem cmpV_lt {a b : ByteArray} (h : bl a b = true) : decide (cmpV a b < 0) = true := by unfold cmpV; rw [if_pos h]; rfl
theorem cmpV_ge {a b : ByteArray} (h : bl a b = false) : decide (cmpV a b < 0) = false := by unfold cmpV; rw [if_neg (by rw [h]; simp)]; split <;> rfl
theorem cmpV_eq {a b : ByteArray} (h : bl a b = false) : (cmpV a b == 0) = (a.toList == b.toList) := by
 unfold cmpV
 rw [if_neg (by rw [h]; simp)]
 split
 · rename_i e; rw [e]; rfl
 · rename_i e; rw [Bool.not_eq_true] at e; rw [e]; rfl
theorem search_calls (A : Option Addr) (c : Nat) (l : List En) (s : ByteArray) (lo : Nat) (w : World) (hr : Kd.C k162 w A l.length l) (hc : l.length ≤ c) (hl : l.length < 4294967296) (hlo : Cut l s lo) :
  Calls Tryz.prog 161 #[.slice A l.length c, .string s, .func (.func 162) #[] #[]] w fun e w' => e = .returned (.tuple #[.int .i64 lo, .bool (isAt l s lo)]) ∧ Below w.heap.size w w' := by
 have HLO := qh hlo
 have HR := qh hr
 clear hlo hr
 go_enter Tryz.func161, Tryz.ntmps161
 go_wp2
 go_loopw [9, 10] (fun i j wr => ∃ a b : Nat, i = .int .i64 (a : Int) ∧ j = .int .i64 (b : Int) ∧ a ≤ lo ∧ lo ≤ b ∧ b ≤ l.length ∧ Below w.heap.size w wr) (fun i j _ => (intOf j).toNat - (intOf i).toNat)
 case atStart => exact ⟨0, l.length, rfl, rfl, Nat.zero_le _, HLO.out.le, Nat.le_refl _, Below.refl _ _⟩
 case round =>
  obtain ⟨a, b, rfl, rfl, ha, hb, hbl, hB⟩ := hrel
  have HB := qh hB
  by_cases hab : a < b
  ·
   obtain ⟨ad, eA, x0, x1⟩ := at_T162 (Kd.C_below HR.out hB) (((a : Int) + (b : Int)) / 2) (by omega) (by omega)
   have i0 : (0 : Int) ≤ ((a : Int) + (b : Int)) / 2 := by omega
   have i1 : ((a : Int) + (b : Int)) / 2 < (l.length : Int) := by omega
   have hh : (((a : Int) + (b : Int)) / 2).toNat = (a + b) / 2 := by omega
   have hrd : rd_T162 l (((a : Int) + (b : Int)) / 2) = l.getD ((a + b) / 2) z162 := by unfold rd_T162; rw [hh]
   rw [hrd, hh] at x0 x1
   subst eA
   generalize hq : l.getD ((a + b) / 2) z162 = q at x0 x1
   have HQ := qh hq
   have HH := qh hh
   have hab' : (a : Int) < (b : Int) := by omega
   clear hq hh hrd hB hab
   by_cases hlt : (a + b) / 2 < lo
   ·
    have hb1 : bl q.f0 s = true := by rw [← HQ.out]; exact HLO.out.lt _ hlt
    have d1 := cmpV_lt hb1
    go_wp2_with (go_at_call 162; refine (at1_calls _ _ _ _).mono ?_; rintro e w5 ⟨rfl, hb5⟩)
    go_roundw
    case rel => exact ⟨(a + b) / 2 + 1, b, by go_num, rfl, by omega, hb, hbl, HB.out.trans (hb5.mono HB.out.size)⟩
    case measure => simp [intOf]; omega
   ·
    have hb1 : bl q.f0 s = false := by rw [← HQ.out]; exact HLO.out.ge _ (by omega) (by omega)
    have d1 := cmpV_ge hb1
    go_wp2_with (go_at_call 162; refine (at1_calls _ _ _ _).mono ?_; rintro e w5 ⟨rfl, hb5⟩)
    go_roundw
    case rel => exact ⟨a, (a + b) / 2, rfl, by go_num, ha, by omega, by omega, HB.out.trans (hb5.mono HB.out.size)⟩
    case measure => simp [intOf]; omega
  ·
   obtain rfl : a = lo := by omega
   obtain rfl : b = a := by omega
   clear hab ha hb
   by_cases hn : b < l.length
   ·
    obtain ⟨ad, eA, x0, x1⟩ := at_T162 (Kd.C_below HR.out hB) (b : Int) (by omega) (by omega)
    have hrd : rd_T162 l (b : Int) = l.getD b z162 := by unfold rd_T162; simp
    rw [hrd] at x0 x1
    rw [Int.toNat_natCast] at x0 x1
    subst eA
    have hb1 : bl (l.getD b z162).f0 s = false := HLO.out.ge _ (Nat.le_refl _) hn
    have d1 := cmpV_eq hb1
    have hat : isAt l s b = ((l.getD b z162).f0.toList == s.toList) := by unfold isAt; rw [decide_eq_true hn, Bool.true_and]
    generalize l.getD b z162 = q at x0 x1 d1 hat
    have HAT := qh hat
    clear hat hrd hb1 hB
    go_wp2_with (go_at_call 162; refine (at1_calls _ _ _ _).mono ?_; rintro e w5 ⟨rfl, hb5⟩)
    go_ret2
    exact ⟨by rw [HAT.out]; rfl, HB.out.trans (hb5.mono HB.out.size)⟩
   ·
    have hat : isAt l s b = false := by unfold isAt; rw [decide_eq_false hn, Bool.false_and]
    have HAT := qh hat
    clear hat hB
    go_wp2
    go_ret2
    exact ⟨by rw [HAT.out]; rfl, HB.out⟩
end Go.Proofs.YtnpeeiikdcankaaGreat.Tw

namespace Go.Proofs.YtnpeeiikdcankaaGreat.X
open Go.RowKit Go.Proofs.YtnpeeiikdcankaaGreatW.PrintWords Go.Proofs.YtnpeeiikdcankaaGreatW.PrintLast Go.Proofs.YtnpeeiikdcankaaGreatW.PrintMore Go.Proofs.YtnpeeiikdcankaaGreat.Ext
attribute [local go_sem] max2_int min2_int max_two min_two max_three min_three max_four min_four
def ents_Right.l0 : Nat → List (S162) → Int → Option (Bool)
 | 0, _, _ => none
 | k + 1, x0, x3 => if x3 < (x0.length : Int) then (if 0 ≤ x3 then (if 0 ≤ (wrap64 (x3 - 1)) then (if (wrap64 (x3 - 1)) < (x0.length : Int) then (if ((Op.bytesLess (((rd_T162 x0 (wrap64 (x3 - 1))).f0).toList) (((rd_T162 x0 x3).f0).toList)) = true) then (ents_Right.l0 k x0 (wrap64 (x3 + 1))) else (some false)) else (none)) else (none)) else (none)) else (some true)
def ents_Right.f (k : Nat) (l0 : List (S162)) : Option (Bool) := ents_Right.l0 k l0 1
theorem ents_Right.calls (k : Nat) (A0 : Option Addr) (c0 : Nat) (l0 : List (S162)) (r : Bool) (w : World) (hr0 : Kd.C k162 w A0 l0.length l0) (hc0 : l0.length ≤ c0) (h : ents_Right.f k l0 = some r) :
  Calls Tryz.prog 160 #[.slice A0 l0.length c0] w fun e w' => e = .returned (.bool r) ∧ Drawn0 w w' := by
 have hu36 := Tryz.underlying36
 have hu49 := Tryz.underlying49
 have hu66 := Tryz.underlying66
 have hu93 := Tryz.underlying93
 have hu106 := Tryz.underlying106
 have hu115 := Tryz.underlying115
 have hu130 := Tryz.underlying130
 have hu162 := Tryz.underlying162
 have HR0 := qa hr0
 have HC0 := qa hc0
 clear hr0 hc0
 have H : (ents_Right.l0 k l0 1) = some r := h
 clear h
 have H' := qa H
 clear H
 go_enter Tryz.func160, Tryz.ntmps160
 go_wp2
 repeat (go_quiet (fail); try go_wp2)
 go_loopg [3] k (fun kq v3 w' => ∃ (x3_1 : Int), v3 = .int .i64 x3_1 ∧ Aside0 (ents_Right.l0 kq l0 x3_1 = some r) ∧ Aside0 (kq ≤ k) ∧ Drawn0 w w')
 case atStart => exact ⟨(1), (by first | rfl | (simp; done) | (simp [*]; done) | (simp [bne_nil]; done)), H', ⟨Nat.le_refl _⟩, by repeat (first | exact Drawn0.refl _ | apply Drawn0.step)⟩
 case round =>
  clear H'
  try clear c1
  obtain ⟨x3_1, rfl, HA, HK1, ⟨m1, rfl⟩⟩ := hrel
  cases gk with
  | zero => exact absurd HA.out (by simp [ents_Right.l0])
  | succ k1 =>
   have H := HA.out
   clear HA
   simp only [ents_Right.l0] at H
   by_cases c2 : x3_1 < (l0.length : Int)
   ·
    rw [if_pos c2] at H
    have c2b0 : decide (x3_1 < (l0.length : Int)) = true := decide_eq_true c2
    clear c2
    by_cases c3 : 0 ≤ x3_1
    ·
     rw [if_pos c3] at H
     have c3b0 : decide (0 ≤ x3_1) = true := decide_eq_true c3
     clear c3
     obtain ⟨ji4, hji4⟩ : ∃ j_ : Int, (wrap64 (x3_1 - 1)) = j_ := ⟨_, rfl⟩
     replace H : (if 0 ≤ (ji4) then (if (ji4) < (l0.length : Int) then (if ((Op.bytesLess (((rd_T162 l0 (ji4)).f0).toList) (((rd_T162 l0 x3_1).f0).toList)) = true) then (ents_Right.l0 k1 l0 (wrap64 (x3_1 + 1))) else (some false)) else (none)) else (none)) = some r := by first | (rw [hji4] at H; exact H) | (simp only [hji4] at H ⊢; exact H)
     have hji4w : (IntKind.i64.wrap (x3_1 - 1)) = ji4 := (i64_w _).trans hji4
     by_cases c5 : 0 ≤ (ji4)
     ·
      rw [if_pos c5] at H
      have c5b0 : decide (0 ≤ (ji4)) = true := decide_eq_true c5
      clear c5
      by_cases c6 : (ji4) < (l0.length : Int)
      ·
       rw [if_pos c6] at H
       have c6b0 : decide ((ji4) < (l0.length : Int)) = true := decide_eq_true c6
       clear c6
       by_cases c7 : ((Op.bytesLess (((rd_T162 l0 (ji4)).f0).toList) (((rd_T162 l0 x3_1).f0).toList)) = true)
       ·
        rw [if_pos c7] at H
        have c7b0 : (Op.bytesLess (((rd_T162 l0 (ji4)).f0).toList) (((rd_T162 l0 x3_1).f0).toList)) = true := c7
        (try (have c7L1 : Op.bytesLess (((rd_T162 l0 x3_1).f0).toList) (((rd_T162 l0 (ji4)).f0).toList) = false := less_asym _ _ c7b0; have c7L2 : ((((rd_T162 l0 x3_1).f0).toList) == (((rd_T162 l0 (ji4)).f0).toList)) = false := less_flip c7b0))
        clear c7
        have H' := qa H
        clear H
        have p248 : 0 ≤ (x3_1 : Int) := of_decide_eq_true (by first | (with_reducible assumption) | assumption)
        have q248 : x3_1 < (l0.length : Int) := of_decide_eq_true (by first | (with_reducible assumption) | assumption)
        obtain ⟨ad248, e248, hx248_0, hx248_1⟩ := at_T162 HR0.out x3_1 p248 q248
        cases e248
        replace p248 := eq_true p248
        replace q248 := eq_true q248
        have p249 : 0 ≤ ((ji4) : Int) := of_decide_eq_true (by first | (with_reducible assumption) | assumption)
        have q249 : (ji4) < (l0.length : Int) := of_decide_eq_true (by first | (with_reducible assumption) | assumption)
        obtain ⟨ad249, e249, hx249_0, hx249_1⟩ := at_T162 HR0.out (ji4) p249 q249
        obtain rfl : ad248 = ad249 := (by injection e249)
        replace p249 := eq_true p249
        replace q249 := eq_true q249
        go_wp2
        repeat (go_quiet (fail); try go_wp2)
        go_roundg k1
        case measure => have := HK1.out; omega
        case rel => exact ⟨(wrap64 (x3_1 + 1)), (by first | rfl | (simp; done) | (simp [*]; done) | (simp [bne_nil]; done)), H', ⟨by have := HK1.out; omega⟩, by repeat (first | exact Drawn0.refl _ | apply Drawn0.step)⟩
       ·
        rw [if_neg c7] at H
        have c7b0 : (Op.bytesLess (((rd_T162 l0 (ji4)).f0).toList) (((rd_T162 l0 x3_1).f0).toList)) = false := by simpa using c7
        (try (have c7L1 : (Op.bytesLess (((rd_T162 l0 x3_1).f0).toList) (((rd_T162 l0 (ji4)).f0).toList) || (((rd_T162 l0 x3_1).f0).toList) == (((rd_T162 l0 (ji4)).f0).toList)) = true := less_tot _ _ c7b0))
        clear c7
        obtain rfl := Option.some.inj H
        have p248 : 0 ≤ (x3_1 : Int) := of_decide_eq_true (by first | (with_reducible assumption) | assumption)
        have q248 : x3_1 < (l0.length : Int) := of_decide_eq_true (by first | (with_reducible assumption) | assumption)
        obtain ⟨ad248, e248, hx248_0, hx248_1⟩ := at_T162 HR0.out x3_1 p248 q248
        cases e248
        replace p248 := eq_true p248
        replace q248 := eq_true q248
        have p249 : 0 ≤ ((ji4) : Int) := of_decide_eq_true (by first | (with_reducible assumption) | assumption)
        have q249 : (ji4) < (l0.length : Int) := of_decide_eq_true (by first | (with_reducible assumption) | assumption)
        obtain ⟨ad249, e249, hx249_0, hx249_1⟩ := at_T162 HR0.out (ji4) p249 q249
        obtain rfl : ad248 = ad249 := (by injection e249)
        replace p249 := eq_true p249
        replace q249 := eq_true q249
        go_wp2
        repeat (go_quiet (fail); try go_wp2)
        go_ret
        exact ⟨by first | rfl | (simp; done) | (simp only [← hji4] <;> (first | rfl | simp)) | (simp [*]; done), by repeat (first | exact Drawn0.refl _ | apply Drawn0.step)⟩
      ·
       rw [if_neg c6] at H
       exact absurd H (by simp)
     ·
      rw [if_neg c5] at H
      exact absurd H (by simp)
    ·
     rw [if_neg c3] at H
     exact absurd H (by simp)
   ·
    rw [if_neg c2] at H
    have c2b0 : decide (x3_1 < (l0.length : Int)) = false := decide_eq_false c2
    clear c2
    obtain rfl := Option.some.inj H
    go_wp2
    repeat (go_quiet (fail); try go_wp2)
    go_ret
    exact ⟨by first | rfl | (simp; done) | (simp [*]; done), by repeat (first | exact Drawn0.refl _ | apply Drawn0.step)⟩
-- NOT PRINTED: function 138 (ents_all)
end Go.Proofs.YtnpeeiikdcankaaGreat.X

namespace Go.Proofs.YtnpeeiikdcankaaGreat.Tw
open Go Go.RowKit Go.Shelf Go.Proofs Go.Proofs.YtnpeeiikdcankaaGreat Go.Proofs.YtnpeeiikdcankaaGreatW.PrintWords Go.Proofs.YtnpeeiikdcankaaGreat.Ext Go.Proofs.YtnpeeiikdcankaaGreat.X
def Rt (l : List En) : Prop := l.Pairwise fun a b => bl a.f0 b.f0 = true
structure Nd where
 kind : Int
 up : Int
 data : ByteArray
 ents : List En
def zN : Nd := ⟨0, 0, ⟨#[]⟩, []⟩
structure Tr where
 get : Int → Option Nd
 cnt : Nat
 last : Int
def Tr.node (T : Tr) (n : Int) : Nd := (T.get n).getD zN
def ndV (x : Nd) (s : Value) : Value := .agg #[.int .i64 x.kind, .int .i64 x.up, .string x.data, s]
def vE : Value → Option (DataW Value × List MemPlace) := fun v => some (.held v, [])
def wf (n : Int) : Prop := (Lit.int .i64 n).wf = true
structure TreeIs (w : World) (p : Nat) (T : Tr) (B : Nat) (sv : Int → Value) (D : DataW Value) : Prop where
 ptr : w.heap[p]? = some (.cells #[.map (some B), .int .i64 T.last] 156 (0, 0))
 map : w.ownsMap Tryz.prog 3 vE B (Maps.size D) D
 cnt : Maps.size D = T.cnt
 has : ∀ n, wf n → Maps.has D (.int .i64 n) = (T.get n).isSome
 at_ : ∀ n z, wf n → D.atKey (.int .i64 n) z = match T.get n with | some x => .held (ndV x (sv n)) | none => z
 ents : ∀ n x, wf n → T.get n = some x → ∃ A c, sv n = .slice A x.ents.length c ∧ x.ents.length ≤ c ∧ Kd.C k162 w A x.ents.length x.ents
def TreeAt (w : World) (p : Nat) (T : Tr) : Prop := ∃ B sv D, TreeIs w p T B sv D
theorem TreeIs.below {w w' : World} {p : Nat} {T : Tr} {B : Nat} {sv : Int → Value} {D : DataW Value} (h : TreeIs w p T B sv D) (hb : Below w.heap.size w w') : TreeIs w' p T B sv D :=
 ⟨(hb.block _ (blk_lt h.ptr)).trans h.ptr, h.map.kept (row := none) (grown_of_below hb none) (by simp), h.cnt, h.has, h.at_, fun n x hn hx => by
  obtain ⟨A, c, e1, e2, e3⟩ := h.ents n x hn hx
  exact ⟨A, c, e1, e2, Kd.C_below e3 hb⟩⟩
theorem TreeAt.below {w w' : World} {p : Nat} {T : Tr} (h : TreeAt w p T) (hb : Below w.heap.size w w') : TreeAt w' p T := by
 obtain ⟨B, sv, D, h⟩ := h
 exact ⟨B, sv, D, h.below hb⟩
theorem TreeAt.lt {w : World} {p : Nat} {T : Tr} (h : TreeAt w p T) : p < w.heap.size := by
 obtain ⟨B, sv, D, h⟩ := h
 exact blk_lt h.ptr
theorem keyed : Maps.Keyed Tryz.prog 3 := Maps.int_keyed Tryz.underlying3
theorem zeroNd (w : World) : (zeroValue 153).run Tryz.prog w = .ok (ndV zN (.slice none 0 0)) w := by kernel_rfl
def EntsAt (w : World) (s : Value) (l : List En) : Prop := ∃ A c, s = .slice A l.length c ∧ l.length ≤ c ∧ Kd.C k162 w A l.length l
theorem EntsAt.below {w w' : World} {s : Value} {l : List En} (h : EntsAt w s l) (hb : Below w.heap.size w w') : EntsAt w' s l := by
 obtain ⟨A, c, e1, e2, e3⟩ := h
 exact ⟨A, c, e1, e2, Kd.C_below e3 hb⟩
theorem entsNil (w : World) : EntsAt w (.slice none 0 0) [] := ⟨none, 0, rfl, Nat.le_refl _, ⟨rfl, by simp, fun h => absurd h (by simp)⟩⟩
theorem TreeIs.look {w : World} {p : Nat} {T : Tr} {B : Nat} {sv : Int → Value} {D : DataW Value} (h : TreeIs w p T B sv D) (n : Int) (hn : wf n) :
  ∃ s, EntsAt w s (T.node n).ents ∧ ∀ w', Below w.heap.size w w' → (Instr.lookup 154 (.map (some B)) (.int .i64 n) false).run Tryz.prog w' = .ok (ndV (T.node n) s) w' := by
 have key : ∀ w', Below w.heap.size w w' → ∀ r, D.atKey (.int .i64 n) (.held (ndV zN (.slice none 0 0))) = .held r → (Instr.lookup 154 (.map (some B)) (.int .i64 n) false).run Tryz.prog w' = .ok r w' := by
  intro w' hb r hr
  obtain ⟨v, ps, hrun, hv⟩ := (h.below hb).map.lookup keyed Tryz.underlying154 (zeroNd w') (zd := .held (ndV zN (.slice none 0 0))) (zp := []) rfl (Maps.keyOf_int_mk Tryz.underlying3 hn)
  have e := (Prod.mk.inj (Option.some.inj hv)).1
  rw [hr] at e
  rw [← DataW.held.inj e]
  exact hrun
 have ha := h.at_ n (.held (ndV zN (.slice none 0 0))) hn
 cases hx : T.get n with
 | none =>
  rw [hx] at ha
  refine ⟨.slice none 0 0, by unfold Tr.node; rw [hx]; exact entsNil w, fun w' hb => ?_⟩
  have := key w' hb _ ha
  unfold Tr.node; rw [hx]; exact this
 | some x =>
  rw [hx] at ha
  refine ⟨sv n, by unfold Tr.node; rw [hx]; exact h.ents n x hn hx, fun w' hb => ?_⟩
  have := key w' hb _ ha
  unfold Tr.node; rw [hx]; exact this
theorem TreeIs.cell0 {w : World} {p : Nat} {T : Tr} {B : Nat} {sv : Int → Value} {D : DataW Value} (h : TreeIs w p T B sv D) : w.cell? ⟨p, 0, none⟩ = some (.map (some B)) := by rw [blk_cell h.ptr]; rfl
theorem TreeIs.cell1 {w : World} {p : Nat} {T : Tr} {B : Nat} {sv : Int → Value} {D : DataW Value} (h : TreeIs w p T B sv D) : w.cell? ⟨p, 1, none⟩ = some (.int .i64 T.last) := by rw [blk_cell h.ptr]; rfl
abbrev pT (p : Nat) : Value := .pointer (some ⟨p, 0, none⟩)
theorem at_calls (p : Nat) (T : Tr) (n : Int) (w : World) (h : TreeAt w p T) (hn : wf n) :
  Calls Tryz.prog 116 #[pT p, .int .i64 n] w fun e w' => ∃ s, e = .returned (ndV (T.node n) s) ∧ EntsAt w' s (T.node n).ents ∧ Below w.heap.size w w' := by
 obtain ⟨B, sv, D, h⟩ := h
 obtain ⟨s, hs, hrun⟩ := h.look n hn
 have hrun := hrun _ ((Below.refl _ w).alloc (Nat.le_refl _) (.cells #[.int .i64 0, .int .i64 0, .string ⟨#[]⟩, .slice none 0 0] 153))
 have c0 := h.cell0
 have hlt := blk_lt h.ptr
 obtain ⟨A, c, rfl, hlc, hC⟩ := hs
 have HC := qh hC
 have HL := qh hlc
 generalize hx : T.node n = x at hrun HC HL
 have HX := qh hx
 obtain ⟨k, u, d, l⟩ := x
 unfold ndV at hrun
 simp only [] at hrun
 clear h hC hlc hx
 go_enter Tryz.func116, Tryz.ntmps116
 go_wp2
 have hu := Tryz.underlying153
 refine bodyPost_ret (v := .agg #[.int .i64 k, .int .i64 u, .string d, .slice A l.length c]) (by simp [results, Tryz.results116, go_sem, hu]) rfl ⟨.slice A l.length c, ?_, ?_, ?_⟩
 · rfl
 · exact ⟨A, c, rfl, HL.out, Kd.C_below HC.out ((Below.refl _ w).alloc (Nat.le_refl _) _)⟩
 · exact (Below.refl _ w).alloc (Nat.le_refl _) _
@[go_sem] theorem fl_node0 (v0 v1 v2 v3 : Value) (w : World) : (Instr.field 153 (.agg #[v0, v1, v2, v3]) 0).run Tryz.prog w = .ok v0 w := by kernel_rfl
@[go_sem] theorem fl_node1 (v0 v1 v2 v3 : Value) (w : World) : (Instr.field 153 (.agg #[v0, v1, v2, v3]) 1).run Tryz.prog w = .ok v1 w := by kernel_rfl
@[go_sem] theorem fl_node2 (v0 v1 v2 v3 : Value) (w : World) : (Instr.field 153 (.agg #[v0, v1, v2, v3]) 2).run Tryz.prog w = .ok v2 w := by kernel_rfl
@[go_sem] theorem fl_node3 (v0 v1 v2 v3 : Value) (w : World) : (Instr.field 153 (.agg #[v0, v1, v2, v3]) 3).run Tryz.prog w = .ok v3 w := by kernel_rfl
theorem kind_calls (p : Nat) (T : Tr) (n : Int) (w : World) (h : TreeAt w p T) (hn : wf n) :
  Calls Tryz.prog 69 #[pT p, .int .i64 n] w fun e w' => e = .returned (.int .i64 (T.node n).kind) ∧ Below w.heap.size w w' := by
 have HC := qh (fun W => at_calls p T n W)
 have HT := qh h
 have HN := qh hn
 clear h hn
 generalize hx : T.node n = x at HC ⊢
 obtain ⟨k, u, d, l⟩ := x
 unfold ndV at HC
 simp only [] at HC
 clear hx
 go_enter Tryz.func69, Tryz.ntmps69
 go_wp2_with (go_at_call 116; refine (HC.out _ HT.out HN.out).mono ?_; rintro e w' ⟨s, rfl, hs, hb⟩)
 go_ret
 exact ⟨rfl, hb⟩
theorem data_calls (p : Nat) (T : Tr) (n : Int) (w : World) (h : TreeAt w p T) (hn : wf n) :
  Calls Tryz.prog 70 #[pT p, .int .i64 n] w fun e w' => e = .returned (.string (T.node n).data) ∧ Below w.heap.size w w' := by
 have HC := qh (fun W => at_calls p T n W)
 have HT := qh h
 have HN := qh hn
 clear h hn
 generalize hx : T.node n = x at HC ⊢
 obtain ⟨k, u, d, l⟩ := x
 unfold ndV at HC
 simp only [] at HC
 clear hx
 go_enter Tryz.func70, Tryz.ntmps70
 go_wp2_with (go_at_call 116; refine (HC.out _ HT.out HN.out).mono ?_; rintro e w' ⟨s, rfl, hs, hb⟩)
 go_ret
 exact ⟨rfl, hb⟩
theorem up_calls (p : Nat) (T : Tr) (n : Int) (w : World) (h : TreeAt w p T) (hn : wf n) :
  Calls Tryz.prog 71 #[pT p, .int .i64 n] w fun e w' => e = .returned (.int .i64 (T.node n).up) ∧ Below w.heap.size w w' := by
 have HC := qh (fun W => at_calls p T n W)
 have HT := qh h
 have HN := qh hn
 clear h hn
 generalize hx : T.node n = x at HC ⊢
 obtain ⟨k, u, d, l⟩ := x
 unfold ndV at HC
 simp only [] at HC
 clear hx
 go_enter Tryz.func71, Tryz.ntmps71
 go_wp2_with (go_at_call 116; refine (HC.out _ HT.out HN.out).mono ?_; rintro e w' ⟨s, rfl, hs, hb⟩)
 go_ret
 exact ⟨rfl, hb⟩
theorem infoE : (Tryz.prog.info? 162).map (fun i => (i.zero, i.size, i.bytes)) = some (some (.agg #[.string ⟨#[]⟩, .int .i64 0]), 2, 24) := by kernel_rfl
theorem R_empty {α : Type} (d : Kd α) (e : Nat) (W : World) (base : Nat) (hb : base ≤ W.heap.size) : Kd.R d e (W.alloc (.cells #[] e)) base (fun _ => True) (.slice (some ⟨W.heap.size, 0, none⟩) 0 0) [] :=
 ⟨fun _ _ => trivial, [], by simpa using World.ownsRow_lit (base := base) (e := e) (size := d.sz) W #[] 0 hb (by simp [maxLen]) (by simp), Reps.none _ _⟩
theorem clone_calls (A : Option Addr) (c : Nat) (l : List En) (w : World) (hr : Kd.C k162 w A l.length l) (hc : l.length ≤ c) (hl : l.length < 4294967296) :
  Calls Tryz.prog 118 #[.slice A l.length c] w fun e w' => ∃ v, e = .returned v ∧ Kd.R k162 162 w' w.heap.size (fun _ => True) v l ∧ Below w.heap.size w w' := by
 have hq := fun W => Lib.run_eql_slice_nil (P := Tryz.prog) W 110 162 A l.length c 0 0 Tryz.underlying110
 have HR := qh hr
 have HRE := qh (R_empty k162 162 w w.heap.size (Nat.le_refl _))
 have HB := qh ((Below.refl w.heap.size w).alloc (Nat.le_refl _) (.cells #[] 162))
 cases A with
 | none =>
  have h0 : l = [] := by
   cases l with
   | nil => rfl
   | cons a b => obtain ⟨ad, e, _⟩ := hr.2.2 (by simp); cases e
  subst h0
  clear hr HR hq
  have hq := fun W => Lib.run_eql_slice_nil (P := Tryz.prog) W 110 162 none 0 c 0 0 Tryz.underlying110
  simp only [Option.isNone_none] at hq
  go_enter Tryz.func118, Tryz.ntmps118
  go_wp2
  go_ret
  exact ⟨_, rfl, Kd.R_nil _ _ _ _ _, Below.refl _ _⟩
 | some ad =>
  clear hr
  simp only [Option.isNone_some] at hq
  go_enter Tryz.func118, Tryz.ntmps118
  go_wp2_with ((with_reducible refine gate_builtin (b := .append) (xs := #[.tmp 5, .tmp 6]) rfl ?_); at_builtin; refine Kd.R_append_rows k162 (w0 := w) w.heap.size rfl (.tmp 5) (.tmp 6) 110 162 (.agg #[.string ⟨#[]⟩, .int .i64 0]) 24 rfl Tryz.underlying110 infoE rfl (by decide) (by omega) _ [] l _ _ _ (fun _ => True) (fun _ => False) rfl rfl HRE.out (Kd.C_below HR.out HB.out) (fun _ _ h => h) (fun _ h => h.elim) (fun _ _ => trivial) HB.out (by simp) (by simp; omega) ?_; intro v1 w1 ho hb hg hat)
  go_ret
  exact ⟨_, rfl, ho, hb⟩
theorem list_calls (p : Nat) (T : Tr) (n : Int) (w : World) (h : TreeAt w p T) (hn : wf n) (hl : (T.node n).ents.length < 4294967296) :
  Calls Tryz.prog 74 #[pT p, .int .i64 n] w fun e w' => ∃ v, e = .returned v ∧ Kd.R k162 162 w' w.heap.size (fun _ => True) v (T.node n).ents ∧ Below w.heap.size w w' := by
 have HC := qh (fun W => at_calls p T n W)
 have HT := qh h
 have HN := qh hn
 have HL := qh hl
 clear h hn hl
 generalize hx : T.node n = x at HC HL ⊢
 obtain ⟨k, u, d, l⟩ := x
 unfold ndV at HC
 simp only [] at HC HL
 clear hx
 go_enter Tryz.func74, Tryz.ntmps74
 go_wp2_with (first | (go_at_call 116; refine (HC.out _ HT.out HN.out).mono ?_; rintro e w' ⟨s, rfl, ⟨A, c, rfl, hlc, hC⟩, hb⟩; have HCC := qh hC; clear hC) | (go_at_call 118; refine (clone_calls _ _ _ _ HCC.out hlc HL.out).mono ?_; rintro e w2 ⟨v, rfl, ho, hb2⟩))
 go_ret
 exact ⟨_, rfl, Kd.R_lower ho hb.size, hb.trans (hb2.mono hb.size)⟩
end Go.Proofs.YtnpeeiikdcankaaGreat.Tw

namespace Go.Proofs.YtnpeeiikdcankaaGreat.Pu
open Go Go.RowKit Go.Proofs Go.Proofs.YtnpeeiikdcankaaGreat Go.Proofs.YtnpeeiikdcankaaGreatW.PrintWords Go.Proofs.YtnpeeiikdcankaaGreat.Ext
theorem w1 {n : Nat} (h : n < 4611686018427387904) : wrap64 ((n : Int) + 1) = ((n + 1 : Nat) : Int) := by unfold wrap64; omega
theorem wm1 {n : Nat} (h0 : 0 < n) (h : n < 4611686018427387904) : wrap64 ((n : Int) - 1) = ((n - 1 : Nat) : Int) := by unfold wrap64; omega
section
variable {α β : Type} {f g : Nat → Option α} {r : α} {c : Prop} [Decidable c]
theorem ev_pos (hc : c) (h : Ev f r) : Ev (fun k => if c then f k else g k) r := by simpa only [if_pos hc] using h
theorem ev_neg (hc : ¬ c) (h : Ev g r) : Ev (fun k => if c then f k else g k) r := by simpa only [if_neg hc] using h
theorem ev_some {a : β} {F : Nat → β → Option α} (h : Ev (fun k => F k a) r) : Ev (fun k => (some a).bind (F k)) r := h
theorem ev_bind {G : Nat → Option β} {a : β} {F : Nat → β → Option α} (hg : Ev G a) (h : Ev (fun k => F k a) r) : Ev (fun k => (G k).bind (F k)) r := Ev.bind hg h
end
theorem bt_nat {s : ByteArray} {i : Nat} {c : UInt8} (h : s.data.toList[i]? = some c) : bt s (i : Int) = (c.toNat : Int) := by
 obtain ⟨hl, hc⟩ := List.getElem?_eq_some_iff.1 h
 have hi : i < s.size := by rw [Sp.size_eq]; exact hl
 have h2 := Lib.data_getElem? s i hi
 rw [h] at h2
 have h3 : c = s[i] := Option.some.inj h2
 unfold bt
 rw [dif_pos (by simpa using hi), h3]
 simp
theorem get_at (s : ByteArray) {i : Nat} (h : i < s.size) : ∃ c, s.data.toList[i]? = some c ∧ s.data.toList.drop i = c :: s.data.toList.drop (i + 1) := by
 have hl : i < s.data.toList.length := by rw [← Sp.size_eq]; exact h
 exact ⟨_, List.getElem?_eq_getElem hl, List.drop_eq_getElem_cons hl⟩
theorem ex1 {s : ByteArray} {i : Nat} {c : UInt8} (h : s.data.toList[i]? = some c) : s.extract i (i + 1) = Sp.mk [c] := by
 rw [← Sp.mk_of (s.extract i (i + 1)), Lib.extract_data]
 congr 1
 obtain ⟨hl, hc⟩ := List.getElem?_eq_some_iff.1 h
 rw [List.drop_eq_getElem_cons hl, hc]
 simp
theorem u8_ne {c d : UInt8} : ((c.toNat : Int) != (d.toNat : Int)) = true ↔ c ≠ d := by
 rw [bne_iff_ne]
 constructor
 · intro h e; exact h (by rw [e])
 · intro h e; exact h (UInt8.toNat_inj.1 (by omega))
theorem toList_mk (l : List UInt8) : (Sp.mk l).toList = l := Sp.mk_toList l
theorem toL (s : ByteArray) : s.toList = s.data.toList := Lib.toList_data s
theorem app_mk (a b : List UInt8) : Sp.mk a ++ Sp.mk b = Sp.mk (a ++ b) := (Sp.mk_append a b).symm
end Go.Proofs.YtnpeeiikdcankaaGreat.Pu

namespace Go.Proofs.YtnpeeiikdcankaaGreat.Tw
open Go Go.RowKit Go.Shelf Go.Proofs Go.Proofs.YtnpeeiikdcankaaGreat Go.Proofs.YtnpeeiikdcankaaGreatW.PrintWords Go.Proofs.YtnpeeiikdcankaaGreat.Ext Go.Proofs.YtnpeeiikdcankaaGreat.X Go.Proofs.YtnpeeiikdcankaaGreat.Pu
theorem less_trans : ∀ a b c : List UInt8, Op.bytesLess a b = true → Op.bytesLess b c = true → Op.bytesLess a c = true
 | _, [], _, h, _ => by simp [Op.bytesLess] at h
 | _, _ :: _, [], _, h => by simp [Op.bytesLess] at h
 | [], _ :: _, _ :: _, _, _ => by simp [Op.bytesLess]
 | x :: a, y :: b, z :: c, h, k => by
  simp [Op.bytesLess] at h k ⊢
  rcases h with h | ⟨rfl, h⟩
  ·
   rcases k with k | ⟨rfl, k⟩
   · exact .inl (UInt8.lt_trans h k)
   · exact .inl h
  ·
   rcases k with k | ⟨rfl, k⟩
   · exact .inl k
   · exact .inr ⟨rfl, less_trans a b c h k⟩
theorem bl_trans {a b c : ByteArray} (h : bl a b = true) (k : bl b c = true) : bl a c = true := less_trans _ _ _ h k
theorem bl_irr (a : ByteArray) : bl a a = false := less_irr _
theorem bl_asym {a b : ByteArray} (h : bl a b = true) : bl b a = false := less_asym _ _ h
theorem toL_inj {a b : ByteArray} : a.toList = b.toList ↔ a = b := by rw [toL, toL]; exact ⟨fun h => by rw [← Sp.mk_of a, ← Sp.mk_of b, h], fun h => by rw [h]⟩
theorem bl_ne {a b : ByteArray} (h : bl a b = true) : (a.toList == b.toList) = false := by
 rw [beq_eq_false_iff_ne]
 intro e
 rw [toL_inj] at e
 rw [e, bl_irr] at h
 cases h
def findE (l : List En) (s : ByteArray) : Int × Bool := match l.find? (fun e => e.f0.toList == s.toList) with | some e => (e.f1, true) | none => (0, false)
theorem findE_cons (a : En) (l : List En) (s : ByteArray) : findE (a :: l) s = if (a.f0.toList == s.toList) = true then (a.f1, true) else findE l s := by
 unfold findE
 rw [List.find?_cons]
 cases h : (a.f0.toList == s.toList) <;> simp
theorem exists_cut (s : ByteArray) : ∀ l : List En, Rt l → ∃ lo, Cut l s lo ∧ findE l s = if isAt l s lo = true then ((l.getD lo z162).f1, true) else (0, false)
 | [], _ => ⟨0, ⟨Nat.le_refl _, fun i hi => absurd hi (by omega), fun i _ hi => absurd hi (by simp)⟩, rfl⟩
 | a :: l, h => by
  obtain ⟨ha, hl⟩ := List.pairwise_cons.1 h
  obtain ⟨lo, hc, hf⟩ := exists_cut s l hl
  cases hb : bl a.f0 s with
  | true =>
   refine ⟨lo + 1, ⟨by have := hc.le; simp; omega, fun i hi => ?_, fun i h1 h2 => ?_⟩, ?_⟩
   ·
    cases i with
    | zero => exact hb
    | succ i => simpa using hc.lt i (by omega)
   ·
    cases i with
    | zero => omega
    | succ i => simpa using hc.ge i (by omega) (by simpa using h2)
   ·
    rw [findE_cons, bl_ne hb, if_neg (by simp), hf]
    have e : isAt (a :: l) s (lo + 1) = isAt l s lo := by unfold isAt; simp
    rw [e]; simp
  | false =>
   refine ⟨0, ⟨Nat.zero_le _, fun i hi => absurd hi (by omega), fun i h1 h2 => ?_⟩, ?_⟩
   ·
    cases i with
    | zero => exact hb
    | succ i =>
     have hi : i < l.length := by simpa using h2
     cases hx : bl ((a :: l).getD (i + 1) z162).f0 s with
     | false => rfl
     | true =>
      have e : (a :: l).getD (i + 1) z162 = l[i] := by simp [hi]
      rw [e] at hx
      rw [bl_trans (ha _ (List.getElem_mem hi)) hx] at hb
      cases hb
   ·
    rw [findE_cons]
    have e : isAt (a :: l) s 0 = (a.f0.toList == s.toList) := by unfold isAt; simp
    rw [e]
    by_cases he : (a.f0.toList == s.toList) = true
    · rw [if_pos he, if_pos he]; rfl
    ·
     rw [if_neg he, if_neg he]
     have : l.find? (fun e => e.f0.toList == s.toList) = none := by
      rw [List.find?_eq_none]
      intro x hx hxe
      have h1 := ha x hx
      have h2 : x.f0 = s := toL_inj.1 (by simpa using hxe)
      rw [h2, hb] at h1
      cases h1
     unfold findE; rw [this]
theorem right_ev (l : List En) (hl : l.length < 4294967296) (hr : Rt l) : Ev (fun k => ents_Right.f k l) true := by
 have key : ∀ (d i : Nat), i + d = l.length → 1 ≤ i → Ev (fun k => ents_Right.l0 k l (i : Int)) true := by
  intro d
  induction d with
  | zero =>
   intro i hi h1
   refine Ev.step (fun k => by rw [ents_Right.l0]) ?_
   exact ev_neg (by omega) (Ev.now _)
  | succ d ih =>
   intro i hi h1
   refine Ev.step (fun k => by rw [ents_Right.l0]) (ev_pos (by omega) (ev_pos (by omega) ?_))
   rw [wm1 (by omega) (by omega), w1 (by omega)]
   refine ev_pos (by omega) (ev_pos (by omega) (ev_pos ?_ (ih (i + 1) (by omega) (by omega))))
   have e1 : rd_T162 l ((i - 1 : Nat) : Int) = l[i - 1]'(by omega) := by simp [rd_T162, show i - 1 < l.length by omega]
   have e2 : rd_T162 l ((i : Nat) : Int) = l[i]'(by omega) := by simp [rd_T162, show i < l.length by omega]
   rw [e1, e2]
   exact List.pairwise_iff_getElem.1 hr (i - 1) i (by omega) (by omega) (by omega)
 unfold ents_Right.f
 rcases Nat.eq_zero_or_pos l.length with h | h
 ·
  refine Ev.step (fun k => by rw [ents_Right.l0]) ?_
  exact ev_neg (by omega) (Ev.now _)
 · exact key (l.length - 1) 1 (by omega) (Nat.le_refl _)
theorem all_calls (A : Option Addr) (c : Nat) (l : List En) (w : World) (hr : Kd.C k162 w A l.length l) (hc : l.length ≤ c) (hl : l.length < 4294967296) (hR : Rt l) :
  Calls Tryz.prog 138 #[.slice A l.length c] w fun e w' => e = .returned (.slice A l.length c) ∧ Below w.heap.size w w' := by
 obtain ⟨k, hk⟩ := Ev.rounds (right_ev l hl hR)
 have HC := qh (fun W h => ents_Right.calls k A c l true W h hc hk)
 have HR := qh hr
 clear hk hr hR hl
 go_enter Tryz.func138, Tryz.ntmps138
 go_wp2_with (go_at_call 160; refine (HC.out _ HR.out).mono ?_; rintro e w' ⟨rfl, hd⟩)
 go_ret
 exact ⟨rfl, hd.below⟩
theorem at_ents_calls (A : Option Addr) (c : Nat) (l : List En) (s : ByteArray) (lo : Nat) (w : World) (hr : Kd.C k162 w A l.length l) (hc : l.length ≤ c) (hl : l.length < 4294967296) (hlo : Cut l s lo) :
  Calls Tryz.prog 139 #[.slice A l.length c, .string s] w fun e w' => e = .returned (.tuple #[.int .i64 lo, .bool (isAt l s lo)]) ∧ Below w.heap.size w w' := by
 have HC := qh (search_calls A c l s lo w hr hc hl hlo)
 clear hlo hr hl hc
 go_enter Tryz.func139, Tryz.ntmps139
 go_wp2_with (go_at_call 161; refine HC.out.mono ?_; rintro e w' ⟨rfl, hb⟩)
 go_ret2
 exact ⟨rfl, hb⟩
theorem find_calls (A : Option Addr) (c : Nat) (l : List En) (s : ByteArray) (w : World) (hr : Kd.C k162 w A l.length l) (hc : l.length ≤ c) (hl : l.length < 4294967296) (hR : Rt l) :
  Calls Tryz.prog 94 #[.slice A l.length c, .string s] w fun e w' => e = .returned (.tuple #[.int .i64 (findE l s).1, .bool (findE l s).2]) ∧ Below w.heap.size w w' := by
 obtain ⟨lo, hcut, hf⟩ := exists_cut s l hR
 have HA := qh (fun W h => all_calls A c l W h hc hl hR)
 have HT := qh (fun W h => at_ents_calls A c l s lo W h hc hl hcut)
 have HR := qh hr
 cases hat : isAt l s lo with
 | false =>
  have HF := qh (show findE l s = (0, false) by rw [hf, hat]; rfl)
  rw [hat] at HT
  clear hat hf hcut hR hr hl hc
  go_enter Tryz.func94, Tryz.ntmps94
  go_wp2_with (first | (go_at_call 138; refine (HA.out _ HR.out).mono ?_; rintro e w2 ⟨rfl, hb⟩) | (go_at_call 139; refine (HT.out _ (Kd.C_below HR.out hb)).mono ?_; rintro e w3 ⟨rfl, hb3⟩))
  go_ret2
  exact ⟨by rw [HF.out]; rfl, hb.trans (hb3.mono hb.size)⟩
 | true =>
  have HF := qh (show findE l s = ((l.getD lo z162).f1, true) by rw [hf, hat]; rfl)
  rw [hat] at HT
  have hlt : lo < l.length := by unfold isAt at hat; rw [Bool.and_eq_true] at hat; exact of_decide_eq_true hat.1
  obtain ⟨ad, eA, x0, x1⟩ := at_T162 hr (lo : Int) (by omega) (by omega)
  subst eA
  have hrd : rd_T162 l (lo : Int) = l.getD lo z162 := by unfold rd_T162; simp
  rw [hrd, Int.toNat_natCast] at x1
  generalize l.getD lo z162 = q at x1 HF
  have XX := qh x1
  have i0 : (0 : Int) ≤ (lo : Int) := by omega
  have i1 : (lo : Int) < (l.length : Int) := by omega
  clear hat hf hcut hR hr hl hc x0 x1 hrd
  go_enter Tryz.func94, Tryz.ntmps94
  go_wp2_with (first | (go_at_call 138; refine (HA.out _ HR.out).mono ?_; rintro e w2 ⟨rfl, hb⟩) | (go_at_call 139; refine (HT.out _ (Kd.C_below HR.out hb)).mono ?_; rintro e w3 ⟨rfl, hb3⟩; have x3 := pw_cell_below hb3 (pw_cell_below hb XX.out)))
  go_ret2
  exact ⟨by rw [HF.out]; rfl, hb.trans (hb3.mono hb.size)⟩
end Go.Proofs.YtnpeeiikdcankaaGreat.Tw

namespace Go.Proofs.YtnpeeiikdcankaaGreat.Tw
open Go Go.RowKit Go.Shelf Go.Proofs Go.Proofs.YtnpeeiikdcankaaGreat Go.Proofs.YtnpeeiikdcankaaGreatW.PrintWords Go.Proofs.YtnpeeiikdcankaaGreat.Ext Go.Proofs.YtnpeeiikdcankaaGreat.X
theorem run_copy_rowN {P : Program} (w : World) (dT sT ty elem : TypeId) (sz g o dLen dCap : Nat) (a : Addr) (sLen sCap : Nat) (cur : Array Value) (t : TypeId) (cs : List Value)
  (hu : P.underlying dT = some (.slice elem)) (hs : (P.info? elem).map (·.size) = some sz)
  (hg : w.heap[g]? = some (.cells cur t (0, 0))) (hn : cs.length = Nat.min sLen dLen * sz)
  (hsrc : ∀ j v, cs[j]? = some v → w.cell? (a.add j) = some v) (hfit : o + cs.length ≤ cur.size) (h1 : ∀ v ∈ cs, v.oneCell' = true) :
  (Builtin.copy_ #[dT, sT] ty #[.slice (some ⟨g, o, none⟩) dLen dCap, .slice (some a) sLen sCap]).run P w =
   .ok (goInt (Nat.min sLen dLen)) (w.setRow g (cur.toList.take o ++ cs ++ cur.toList.drop (o + cs.length)).toArray) := by
 have hl := run_loadCells_list (P := P) w a cs hsrc
 have hst := run_storeCells_at P g o t cs 0 cur w hg (by simpa using hfit) h1
 rw [Nat.add_zero] at hst
 cases hq : P.info? elem with
 | none => simp [hq] at hs
 | some i =>
  have hi : i.size = sz := by simpa [hq] using hs
  simp [Builtin.copy_, run_underlying hu, Builtin.lenOf, Builtin.firstCells, sizeOf, typeInfo, hq, hi, ← hn, hl, hst]
theorem step_copy_runI {P : Program} {ops : Array Oper} {o : Oper} {a : Act} {w : World} {K : Act → World → Prop} {Q : Exit → Act → World → Prop} {E : Prop}
  (hg : o.guard = none) (d x : Operand) (dT sT : TypeId) (hop : o.op = Op.call { callee := Callee.builtin Builtin.copy, args := #[d, x], argTypes := #[dT, sT] })
  (v u : Value) (hd : a.eval d = v) (hx : a.eval x = u) {v' : Value} {w' : World} (hr : (Builtin.copy_ #[dT, sT] o.type #[v, u]).run P w = .ok v' w') (hK : K (a.put o.dst v') w') :
  if Region.wanted o (yielded ops a.tmps) = true then Oper.wp P o a w K Q else E := by
 have hw : Region.wanted o (yielded ops a.tmps) = true := by simp [Region.wanted, hg]
 rw [if_pos hw]
 unfold Oper.wp
 simp [execOp, hop, resolve, invoke, builtin, hd, hx, hr, Result.andThen]
 exact hK
def rowE (l : List En) : List Value := l.flatMap fun e => [.string e.f0, .int .i64 e.f1]
theorem rowE_nil : rowE [] = [] := rfl
theorem rowE_cons (x : En) (l : List En) : rowE (x :: l) = .string x.f0 :: .int .i64 x.f1 :: rowE l := rfl
theorem rowE_len : ∀ l : List En, (rowE l).length = l.length * 2
 | [] => rfl
 | x :: l => by rw [rowE_cons, List.length_cons, List.length_cons, rowE_len l, List.length_cons]; omega
theorem rowE_append (l m : List En) : rowE (l ++ m) = rowE l ++ rowE m := by simp [rowE]
theorem rowE_take : ∀ (l : List En) (i : Nat), (rowE l).take (i * 2) = rowE (l.take i)
 | [], i => by simp [rowE_nil]
 | x :: l, 0 => by simp [rowE_nil]
 | x :: l, i + 1 => by rw [rowE_cons, show (i + 1) * 2 = (i * 2 + 1) + 1 by omega, List.take_succ_cons, List.take_succ_cons, rowE_take l i, List.take_succ_cons, rowE_cons]
theorem rowE_drop : ∀ (l : List En) (i : Nat), (rowE l).drop (i * 2) = rowE (l.drop i)
 | [], i => by simp [rowE_nil]
 | x :: l, 0 => by simp
 | x :: l, i + 1 => by rw [rowE_cons, show (i + 1) * 2 = (i * 2 + 1) + 1 by omega, List.drop_succ_cons, List.drop_succ_cons, rowE_drop l i, List.drop_succ_cons]
theorem rowE_one (l : List En) : ∀ v ∈ rowE l, v.oneCell' = true := by
 intro v hv
 simp only [rowE, List.mem_flatMap] at hv
 obtain ⟨x, _, hx⟩ := hv
 simp at hx
 rcases hx with rfl | rfl <;> rfl
theorem reps_rowE {R : En → List Value → Prop} (hR : ∀ x, R x [.string x.f0, .int .i64 x.f1]) : ∀ l : List En, Reps R 2 l (rowE l)
 | [] => Reps.none _ _
 | l => by
  refine ⟨rowE_len l, fun j p hj => ?_⟩
  obtain ⟨hl, rfl⟩ := List.getElem?_eq_some_iff.1 hj
  rw [rowE_drop, List.drop_eq_getElem_cons hl, rowE_cons]
  exact hR _
theorem rowE_of_reps {R : En → List Value → Prop} (hR : ∀ x c, R x c → c = [.string x.f0, .int .i64 x.f1]) : ∀ (l : List En) (cs : List Value), Reps R 2 l cs → cs = rowE l
 | [], cs, h => List.eq_nil_of_length_eq_zero (by simpa using h.1)
 | x :: l, cs, h => by
  have h0 := hR _ _ (h.2 0 x rfl)
  have hl := h.1
  simp only [List.length_cons] at hl
  match cs, hl with
  | [], hl => simp at hl
  | [_], hl => simp at hl; omega
  | a :: b :: cs, hl =>
   simp at h0
   obtain ⟨rfl, rfl⟩ := h0
   have ih := rowE_of_reps hR l cs ⟨by simp at hl; omega, fun j p hj => by
    have := h.2 (j + 1) p (by simpa using hj)
    rw [show (j + 1) * 2 = (j * 2 + 1) + 1 by omega] at this
    simpa using this⟩
   rw [rowE_cons, ih]
def OwnE (w : World) (base : Nat) (v : Value) (l : List En) : Prop :=
 (v = .slice none 0 0 ∧ l = []) ∨ ∃ g cap cur, v = .slice (some ⟨g, 0, none⟩) l.length cap ∧ base ≤ g ∧ w.heap[g]? = some (.cells cur 162 (0, 0)) ∧ l.length ≤ cap ∧ cap ≤ maxLen ∧ cur.size = cap * 2 ∧ cur.toList.take (l.length * 2) = rowE l
theorem OwnE.ofR {w : World} {base : Nat} {v : Value} {l : List En} {ok : Nat → Prop} (h : Kd.R k162 162 w base ok v l) : OwnE w base v l := by
 obtain ⟨_, inner, ho, hr⟩ := h
 obtain rfl := rowE_of_reps (fun x c hc => k162_openM hc) _ _ hr
 rcases ho.2 with ⟨rfl, h0⟩ | ⟨g, cap, cur, rfl, hb, hh, hnc, hcm, hcs, htake⟩
 · exact .inl ⟨rfl, List.eq_nil_of_length_eq_zero h0⟩
 · exact .inr ⟨g, cap, cur, rfl, hb, hh, hnc, hcm, hcs, htake⟩
theorem OwnE.toR {w : World} {base : Nat} {v : Value} {l : List En} (h : OwnE w base v l) : Kd.R k162 162 w base (fun _ => True) v l := by
 refine ⟨fun _ _ => trivial, rowE l, ⟨?_, ?_⟩, reps_rowE (fun x => k162_mkM _ _ _ x) l⟩
 · rw [rowE_len]; rfl
 ·
  rcases h with ⟨rfl, rfl⟩ | ⟨g, cap, cur, rfl, hb, hh, hnc, hcm, hcs, htake⟩
  · exact .inl ⟨rfl, rfl⟩
  · exact .inr ⟨g, cap, cur, rfl, hb, hh, hnc, hcm, hcs, htake⟩
theorem one_C (w : World) (vb : Nat) (x : En) (hv : w.heap[vb]? = some (.cells #[.string x.f0, .int .i64 x.f1] 162 (0, 0))) : Kd.C k162 w (some ⟨vb, 0, none⟩) 1 [x] := by
 refine ⟨rfl, by omega, fun _ => ⟨_, rfl, fun j p hj => ?_⟩⟩
 obtain ⟨hl, rfl⟩ := List.getElem?_eq_some_iff.1 hj
 have : j = 0 := by simp at hl; exact hl
 subst this
 refine ⟨[.string x.f0, .int .i64 x.f1], rfl, k162_mk w x, fun i u hu => ?_⟩
 rw [show (⟨vb, 0, none⟩ : Addr).add (0 * k162.sz + i) = ⟨vb, i, none⟩ by rw [Addr.add_lit]; congr 1; omega]
 rw [cell_of_row w vb _ _ _ (0, 0) hv]
 simpa using hu
theorem insert_end (v : Value) (l : List En) (x : En) (vb : Nat) (w : World) (base : Nat) (hR : OwnE w base v l) (hbase : base ≤ w.heap.size)
  (hv : w.heap[vb]? = some (.cells #[.string x.f0, .int .i64 x.f1] 162 (0, 0))) (hs : l.length < 4294967296) :
  Calls Tryz.prog 142 #[v, .int .i64 l.length, .slice (some ⟨vb, 0, none⟩) 1 1] w fun e w' => ∃ v', e = .returned v' ∧ OwnE w' base v' (l ++ [x]) ∧ Below base w w' := by
 have HO := qh hR.toR
 have HV := qh (one_C w vb x hv)
 have HB := qh (Below.refl base w)
 have HBS := qh hbase
 have HS := qh hs
 obtain ⟨A, c, rfl⟩ : ∃ A c, v = .slice A l.length c := by
  rcases hR with ⟨rfl, rfl⟩ | ⟨g, cap, cur, rfl, _⟩
  · exact ⟨_, _, rfl⟩
  · exact ⟨_, _, rfl⟩
 have hlc : l.length ≤ c := by
  rcases hR with ⟨e, rfl⟩ | ⟨g, cap, cur, e, hb, hh, hnc, hcm, hcs, htake⟩
  · simp
  · cases e; exact hnc
 have h0 : A = none → l = [] ∧ c = 0 := by
  rintro rfl
  rcases hR with ⟨e, rfl⟩ | ⟨g, cap, cur, e, _⟩
  · cases e; exact ⟨rfl, rfl⟩
  · cases e
 clear hR hv hbase
 cases A with
 | none =>
  have h0 : l = [] ∧ c = 0 := h0 rfl
  obtain ⟨rfl, rfl⟩ := h0
  clear hlc
  simp only [List.length_nil] at HO
  go_enter Tryz.func142, Tryz.ntmps142
  go_wp2_with ((with_reducible refine gate_builtin (b := .append) (xs := #[.tmp 23, .tmp 24]) rfl ?_); at_builtin; refine Kd.R_append_rows k162 (w0 := w) base rfl (.tmp 23) (.tmp 24) 110 162 (.agg #[.string ⟨#[]⟩, .int .i64 0]) 24 rfl Tryz.underlying110 infoE rfl (by decide) (by omega) _ [] [x] _ _ _ (fun _ => True) (fun _ => False) rfl rfl HO.out HV.out (fun _ _ h => by obtain rfl := k162_open h; exact k162_mkM _ _ _ _) (fun _ h => h.elim) (fun _ _ => trivial) HB.out HBS.out (by simp) ?_; intro v1 w1 ho hb hg hat)
  all_goals go_ret
  all_goals exact ⟨_, rfl, OwnE.ofR ho, hb⟩
 | some ad =>
  clear h0
  go_enter Tryz.func142, Tryz.ntmps142
  go_wp2_with ((with_reducible refine gate_builtin (b := .append) (xs := #[.tmp 23, .tmp 24]) rfl ?_); at_builtin; refine Kd.R_append_rows k162 (w0 := w) base rfl (.tmp 23) (.tmp 24) 110 162 (.agg #[.string ⟨#[]⟩, .int .i64 0]) 24 rfl Tryz.underlying110 infoE rfl (by decide) (by omega) _ l [x] _ _ _ (fun _ => True) (fun _ => False) rfl rfl HO.out HV.out (fun _ _ h => by obtain rfl := k162_open h; exact k162_mkM _ _ _ _) (fun _ h => h.elim) (fun _ _ => trivial) HB.out HBS.out (by omega) ?_; intro v1 w1 ho hb hg hat)
  all_goals go_ret
  all_goals exact ⟨_, rfl, OwnE.ofR ho, hb⟩
theorem copy_E (W : World) (g o dLen dCap : Nat) (a : Addr) (sLen sCap m : Nat) (cur : Array Value) (l : List En) (hm : l.length = m) (hmin : Nat.min sLen dLen = m)
  (hg : W.heap[g]? = some (.cells cur 162 (0, 0))) (hsrc : ∀ j v, (rowE l)[j]? = some v → W.cell? (a.add j) = some v) (hfit : o + m * 2 ≤ cur.size) :
  ∃ W1, (∀ ty, (Builtin.copy_ #[110, 110] ty #[.slice (some ⟨g, o, none⟩) dLen dCap, .slice (some a) sLen sCap]).run Tryz.prog W = .ok (goInt m) W1) ∧
   W1.heap[g]? = some (.cells (cur.toList.take o ++ rowE l ++ cur.toList.drop (o + m * 2)).toArray 162 (0, 0)) ∧ W.grownBy W1 (some g) := by
 subst hm
 refine ⟨_, fun ty => by rw [run_copy_rowN W _ _ ty 162 2 g o dLen dCap a sLen sCap cur 162 (rowE l) Tryz.underlying110 (by kernel_rfl) hg (by rw [rowE_len, hmin]) hsrc (by rw [rowE_len]; exact hfit) (rowE_one l), hmin], ?_, ?_⟩
 · rw [← rowE_len]; exact setRow_heap W g cur _ _ _ hg
 · exact ⟨rfl, rfl, rfl, by simp, fun k _ hk => setRow_other W g k _ (fun e => hk (by rw [e]))⟩
theorem cells_E {W : World} {g o : Nat} {cur : Array Value} {l : List En} (hg : W.heap[g]? = some (.cells cur 162 (0, 0))) (h : (cur.toList.drop o).take (l.length * 2) = rowE l) :
  ∀ j v, (rowE l)[j]? = some v → W.cell? ((⟨g, o, none⟩ : Addr).add j) = some v := by
 intro j v hj
 rw [Addr.add_lit, cell_of_row W g _ cur _ (0, 0) hg]
 rw [← h, List.getElem?_take, List.getElem?_drop] at hj
 split at hj
 · simpa using hj
 · cases hj
theorem insert_room (g cap : Nat) (cur : Array Value) (l : List En) (i : Nat) (x : En) (vb : Nat) (w : World) (hi : i < l.length) (hroom : l.length + 1 ≤ cap) (hcm : cap ≤ maxLen)
  (hg : w.heap[g]? = some (.cells cur 162 (0, 0))) (hcs : cur.size = cap * 2) (htk : cur.toList.take (l.length * 2) = rowE l)
  (hv : w.heap[vb]? = some (.cells #[.string x.f0, .int .i64 x.f1] 162 (0, 0))) (hne : vb ≠ g) (hs : l.length < 4294967296) :
  Calls Tryz.prog 142 #[.slice (some ⟨g, 0, none⟩) l.length cap, .int .i64 i, .slice (some ⟨vb, 0, none⟩) 1 1] w fun e w' =>
   ∃ cur' : Array Value, e = .returned (.slice (some ⟨g, 0, none⟩) (l.length + 1) cap) ∧ w'.heap[g]? = some (.cells cur' 162 (0, 0)) ∧ cur'.size = cap * 2 ∧ cur'.toList.take ((l.length + 1) * 2) = rowE (l.take i ++ x :: l.drop i) ∧ w.grownBy w' (some g) := by
 have hov : ∀ lb cb o, (callFunc 164 #[.slice (some ⟨vb, 0, none⟩) 1 1, .slice (some ⟨g, o, none⟩) lb cb]).run Tryz.prog w = .ok (.value (.bool false)) w := fun lb cb o => by
  rw [run_callFunc_extern Tryz.func164 (by kernel_rfl) (by kernel_rfl) (by kernel_rfl) (e := Extern.SlicesOverlaps.overlaps #[110, 110] #[4]) (by kernel_rfl),
   Lib.run_overlaps_apart w 110 4 162 Tryz.underlying110 2 (by intro w; kernel_rfl) ⟨vb, 0, none⟩ ⟨g, o, none⟩ 1 1 lb cb hne 162 162 2 cur.size (by simp [World.shape?, hv]) (by simp [World.shape?, hg]) (by omega) (by simp [World.frozen?, hv]) (by simp [World.frozen?, hv])]
  rfl
 have hz2 : ¬ ((i : Int) = (l.length : Int)) := by omega
 have hw1 : IntKind.i64.wrap ((i : Int) + 1) = ((i + 1 : Nat) : Int) := by rw [IntKind.wrap_i64]; omega
 have hw2 : IntKind.i64.wrap ((l.length : Int) + 1) = ((l.length + 1 : Nat) : Int) := by rw [IntKind.wrap_i64]; omega
 have hb1 : (0 : Int) ≤ (i : Int) + 1 := by omega
 have hb7 : (i : Int) ≤ (l.length : Int) + 1 := by omega
 have hb2 : ¬ (cap = i + 1) := by omega
 have hb4 : ¬ (cap = i) := by omega
 have hb5 : ¬ (cap < l.length + 1) := by omega
 have hb6 : i ≤ l.length := by omega
 have hgd : w.drew.heap[g]? = some (.cells cur 162 (0, 0)) := hg
 have hvd : w.drew.heap[vb]? = some (.cells #[.string x.f0, .int .i64 x.f1] 162 (0, 0)) := hv
 have hld : (l.drop i).length = l.length - i := List.length_drop
 obtain ⟨W1, hc1, hg1, hk1⟩ := copy_E w.drew g ((i + 1) * 2) (l.length + 1 - (i + 1)) (cap - (i + 1)) ⟨g, i * 2, none⟩ (l.length + 1 - i) (cap - i) (l.length - i) cur (l.drop i) hld (by show min _ _ = _; omega) hgd
  (cells_E hgd (by rw [hld, ← rowE_drop, ← htk, List.drop_take]; congr 1; omega)) (by omega)
 have hv1 := (hk1.block vb (blk_lt hvd) (fun e => hne (Option.some.inj e))).trans hvd
 obtain ⟨cur1, hcur1⟩ : ∃ c, c = (cur.toList.take ((i + 1) * 2) ++ rowE (l.drop i) ++ cur.toList.drop ((i + 1) * 2 + (l.length - i) * 2)).toArray := ⟨_, rfl⟩
 rw [← hcur1] at hg1
 have hs1 : cur1.size = cap * 2 := by
  rw [hcur1]
  simp only [List.size_toArray, List.length_append, List.length_take, List.length_drop, Array.length_toList, rowE_len, hcs]
  omega
 obtain ⟨W2, hc2, hg2, hk2⟩ := copy_E W1 g (i * 2) (l.length + 1 - i) (cap - i) ⟨vb, 0, none⟩ 1 1 1 cur1 [x] rfl (by show min _ _ = _; omega) hg1 (cells_E hv1 rfl) (by omega)
 obtain ⟨cur2, hcur2⟩ : ∃ c, c = (cur1.toList.take (i * 2) ++ rowE [x] ++ cur1.toList.drop (i * 2 + 1 * 2)).toArray := ⟨_, rfl⟩
 rw [← hcur2] at hg2
 have FIN : cur2.size = cap * 2 ∧ cur2.toList.take ((l.length + 1) * 2) = rowE (l.take i ++ x :: l.drop i) := by
  refine ⟨?_, ?_⟩
  ·
   rw [hcur2]
   simp only [List.size_toArray, List.length_append, List.length_take, List.length_drop, Array.length_toList, rowE_len, hs1]
   simp only [List.length_cons, List.length_nil]
   omega
  ·
   have e1 : cur1.toList.take (i * 2) = rowE (l.take i) := by
    rw [hcur1, List.append_assoc, List.take_append_of_le_length (by simp; omega), List.take_take, ← rowE_take, ← htk, List.take_take]
    congr 1
    omega
   have e2 : cur1.toList.drop (i * 2 + 1 * 2) = rowE (l.drop i) ++ cur.toList.drop ((i + 1) * 2 + (l.length - i) * 2) := by
    rw [hcur1, List.append_assoc, List.drop_left' (by simp; omega)]
   rw [hcur2, e1, e2, show x :: l.drop i = [x] ++ l.drop i from rfl, rowE_append, rowE_append]
   simp only []
   rw [show rowE (l.take i) ++ rowE [x] ++ (rowE (l.drop i) ++ cur.toList.drop ((i + 1) * 2 + (l.length - i) * 2)) = (rowE (l.take i) ++ (rowE [x] ++ rowE (l.drop i))) ++ cur.toList.drop ((i + 1) * 2 + (l.length - i) * 2) by simp only [List.append_assoc]]
   exact List.take_left' (by simp only [List.length_append, rowE_len, List.length_take, List.length_drop, List.length_cons, List.length_nil]; omega)
 have HF := qh (And.intro FIN (And.intro hg2 (hk1.trans hk2)))
 have HC1 := qh hc1
 have HC2 := qh hc2
 clear FIN hcur2 hcur1 hg1 hs1 hv1 hk1 hk2 hg2 hc1 hc2 hvd hgd hg hcs htk hv hs hcm hld
 generalize hn : l.length = n at *
 go_enter Tryz.func142, Tryz.ntmps142
 go_wp2_with (simp only [hov])
 go_region_law (refine step_copy_runI rfl _ _ 110 110 rfl _ _ (by simp [Act.eval, Act.put]) (by simp [Act.eval, Act.put]) (HC1.out _) ?_)
 have hc2 := HC2.out 3
 go_wp2
 go_ret
 obtain ⟨⟨f1, f2⟩, f3, f4⟩ := HF.out
 exact ⟨cur2, rfl, f3, f1, f2, ⟨f4.os, f4.tape, f4.output, f4.size, fun k hk hne => f4.block k hk hne⟩⟩
theorem insert_grow (g cap : Nat) (cur : Array Value) (l : List En) (i : Nat) (x : En) (vb : Nat) (w : World) (hi : i < l.length) (hcap : l.length ≤ cap) (hroom : cap < l.length + 1)
  (hg : w.heap[g]? = some (.cells cur 162 (0, 0))) (hcs : cur.size = cap * 2) (htk : cur.toList.take (l.length * 2) = rowE l)
  (hv : w.heap[vb]? = some (.cells #[.string x.f0, .int .i64 x.f1] 162 (0, 0))) (hs : l.length < 4294967296) :
  Calls Tryz.prog 142 #[.slice (some ⟨g, 0, none⟩) l.length cap, .int .i64 i, .slice (some ⟨vb, 0, none⟩) 1 1] w fun e w' =>
   ∃ (G : Nat) (cur' : Array Value), e = .returned (.slice (some ⟨w.heap.size, 0, none⟩) (l.length + 1) G) ∧ w'.heap[w.heap.size]? = some (.cells cur' 162 (0, 0)) ∧ l.length + 1 ≤ G ∧ G ≤ maxLen ∧ cur'.size = G * 2 ∧ cur'.toList.take ((l.length + 1) * 2) = rowE (l.take i ++ x :: l.drop i) ∧ Below w.heap.size w w' := by
 obtain ⟨i0, hi0, hz0, hzs, hzb⟩ := info_parts infoE
 have hld : (l.drop i).length = l.length - i := List.length_drop
 have hbg := blk_lt hg
 have hbv := blk_lt hv
 have hold : (Builtin.firstCells i0.size i (.slice (some ⟨g, 0, none⟩) i cap)).run Tryz.prog w.drew = .ok (rowE (l.take i)).toArray w.drew := by
  rw [hzs]
  exact run_firstCells_some w.drew 2 i ⟨g, 0, none⟩ i cap _ (by rw [rowE_len, List.length_take]; omega) (cells_E (l := l.take i) (W := w.drew) hg (by
   rw [← rowE_take, ← htk, List.drop_zero, List.take_take, List.length_take]
   congr 1
   omega))
 have hkk : ((l.length : Int) + 1 - (i : Int)) = ((l.length + 1 - i : Nat) : Int) := by omega
 have hik : i + (l.length + 1 - i) = l.length + 1 := by omega
 obtain ⟨W1, G, ROW, hrz, hG1, hG2, hg1, hR1, hR2, hb1⟩ : ∃ W1 G, ∃ ROW : Array Value, (∀ ty, (Builtin.append_ #[110, 3] ty #[.slice (some ⟨g, 0, none⟩) i cap, .int .i64 ((l.length : Int) + 1 - (i : Int))]).run Tryz.prog w =
   .ok (.slice (some ⟨w.heap.size, 0, none⟩) (l.length + 1) G) W1) ∧ l.length + 1 ≤ G ∧ G ≤ maxLen ∧ W1.heap[w.heap.size]? = some (.cells ROW 162 (0, 0)) ∧ ROW.size = G * 2 ∧ ROW.toList.take (i * 2) = rowE (l.take i) ∧ Below w.heap.size w W1 := by
  have h := fun ty => Lib.run_append_grow_zeros w 110 3 ty 162 i0 _ .i64 .i64 Tryz.underlying110 Tryz.underlying3 hi0 hz0 (some ⟨g, 0, none⟩) i cap _ hold (l.length + 1 - i) (by omega) (by omega) (by omega) (by omega) (by rw [hzb]; omega) (by rw [hzb, hik]; exact growslice_fits (by omega) (by omega))
  rw [hik, ← hkk] at h
  refine ⟨_, _, _, h, grownCap_ge w _ _ _, grownCap_le_maxLen w _ _ _ (by unfold maxLen; omega), heap_alloc_new w.drew _, ?_, ?_, ((Below.refl _ w).drew).alloc (Nat.le_refl _) _⟩
  ·
   have := grownCap_ge w (l.length + 1) cap 162
   simp only [Array.size_append, List.size_toArray, size_zeroCells, rowE_len, List.length_take]
   simp only [Value.cells]
   show min i l.length * 2 + (l.length + 1 - i) * 2 + (grownCap w (l.length + 1) cap 162 - (l.length + 1)) * 2 = _
   omega
  ·
   rw [Array.toList_append, Array.toList_append, List.append_assoc]
   exact List.take_left' (by rw [rowE_len, List.length_take]; omega)
 have hv1 := (hb1.block vb hbv).trans hv
 obtain ⟨W2, hc2, hg2, hk2⟩ := copy_E W1 w.heap.size (i * 2) (l.length + 1 - i) (G - i) ⟨vb, 0, none⟩ 1 1 1 ROW [x] rfl (by show min _ _ = _; omega) hg1 (cells_E hv1 rfl) (by omega)
 obtain ⟨cur2, hcur2⟩ : ∃ c, c = (ROW.toList.take (i * 2) ++ rowE [x] ++ ROW.toList.drop (i * 2 + 1 * 2)).toArray := ⟨_, rfl⟩
 rw [← hcur2] at hg2
 have hs2 : cur2.size = G * 2 := by
  rw [hcur2]
  simp only [List.size_toArray, List.length_append, List.length_take, List.length_drop, Array.length_toList, rowE_len, hR1]
  simp only [List.length_cons, List.length_nil]
  omega
 have hgg : W2.drew.heap[g]? = some (.cells cur 162 (0, 0)) := (hk2.block g (by have := hb1.size; omega) (by intro e; injection e with e; omega)).trans ((hb1.block g hbg).trans hg)
 have hg2' : W2.drew.heap[w.heap.size]? = some (.cells cur2 162 (0, 0)) := hg2
 obtain ⟨W3, hc3, hg3, hk3⟩ := copy_E W2.drew w.heap.size ((i + 1) * 2) (l.length + 1 - (i + 1)) (G - (i + 1)) ⟨g, i * 2, none⟩ (l.length - i) (cap - i) (l.length - i) cur2 (l.drop i) hld (by show min _ _ = _; omega) hg2'
  (cells_E hgg (by rw [hld, ← rowE_drop, ← htk, List.drop_take]; congr 1; omega)) (by omega)
 obtain ⟨cur3, hcur3⟩ : ∃ c, c = (cur2.toList.take ((i + 1) * 2) ++ rowE (l.drop i) ++ cur2.toList.drop ((i + 1) * 2 + (l.length - i) * 2)).toArray := ⟨_, rfl⟩
 rw [← hcur3] at hg3
 have FIN : cur3.size = G * 2 ∧ cur3.toList.take ((l.length + 1) * 2) = rowE (l.take i ++ x :: l.drop i) := by
  refine ⟨?_, ?_⟩
  ·
   rw [hcur3]
   simp only [List.size_toArray, List.length_append, List.length_take, List.length_drop, Array.length_toList, rowE_len, hs2]
   omega
  ·
   have e1 : cur2.toList.take ((i + 1) * 2) = rowE (l.take i) ++ rowE [x] := by
    rw [hcur2, hR2]
    exact List.take_left' (by simp only [List.length_append, rowE_len, List.length_take, List.length_cons, List.length_nil]; omega)
   rw [hcur3, e1, show x :: l.drop i = [x] ++ l.drop i from rfl, rowE_append, rowE_append]
   rw [← List.append_assoc (rowE (l.take i)) (rowE [x])]
   exact List.take_left' (by simp only [List.length_append, rowE_len, List.length_take, List.length_drop, List.length_cons, List.length_nil]; omega)
 have hbl : Below w.heap.size w W3 := by
  refine ⟨hk3.os.trans (hk2.os.trans hb1.os), hk3.tape.trans (hk2.tape.trans hb1.tape), hk3.output.trans (hk2.output.trans hb1.output), ?_, fun k hk => ?_⟩
  ·
   have h1 := hb1.size; have h2 := hk2.size; have h3 := hk3.size
   exact Nat.le_trans h1 (Nat.le_trans h2 h3)
  ·
   have h1 := hb1.size; have h2 := hk2.size
   exact (hk3.block k (Nat.lt_of_lt_of_le hk (Nat.le_trans h1 h2)) (by intro e; injection e with e; omega)).trans ((hk2.block k (by omega) (by intro e; injection e with e; omega)).trans (hb1.block k hk))
 have hz2 : ¬ ((i : Int) = (l.length : Int)) := by omega
 have hz3 : (cap : Int) < (l.length : Int) + 1 := by omega
 have hw1 : IntKind.i64.wrap ((i : Int) + 1) = ((i + 1 : Nat) : Int) := by rw [IntKind.wrap_i64]; omega
 have hw2 : IntKind.i64.wrap ((l.length : Int) + 1) = ((l.length + 1 : Nat) : Int) := by rw [IntKind.wrap_i64]; omega
 have hbb1 : (0 : Int) ≤ (i : Int) + 1 := by omega
 have hb7 : (i : Int) ≤ (l.length : Int) + 1 := by omega
 have hb6 : i ≤ l.length := by omega
 have hb4 : ¬ (cap = i) := by omega
 have hGi : ¬ (G = i) := by omega
 have hGim : ¬ (G = i + 1) := by omega
 have HF := qh (And.intro (And.intro hG1 hG2) (And.intro FIN (And.intro hg3 hbl)))
 have HRZ := qh hrz
 have hw3 : wrap64 ((l.length : Int) + 1 - (i : Int)) = (l.length : Int) + 1 - (i : Int) := IntWalk.wrap64_in _ (by omega)
 have hc2 := hc2 3
 have HC3 := qh hc3
 have HHS := qh hs
 clear FIN hbl hcur2 hcur3 hg1 hg2 hg2' hgg hs2 hR1 hR2 hb1 hv1 hk2 hk3 hg3 hc3 hg hcs htk hv hold hkk hik hld hbg hbv hrz hs hG1 hG2 hi0 hz0 hzs hzb
 generalize hn : l.length = n at *
 go_enter Tryz.func142, Tryz.ntmps142
 go_wp2_with (at_builtin; refine Lib.wpList_append_run _ rfl _ _ _ _ rfl (.slice (some ⟨g, 0, none⟩) i cap) (.int .i64 ((n : Int) + 1 - (i : Int))) (by simp [Act.eval]) (by simp [Act.eval, hw3]) _ _ (HRZ.out _) ?_)
 go_region_law (refine step_copy_runI rfl _ _ 110 110 rfl _ _ (by simp [Act.eval, Act.put]) (by simp [Act.eval, Act.put]) (HC3.out _) ?_)
 go_wp2
 go_ret
 obtain ⟨⟨f0, f00⟩, ⟨f1, f2⟩, f3, f4⟩ := HF.out
 exact ⟨G, cur3, rfl, f3, f0, f00, f1, f2, f4⟩
theorem insert_calls (v : Value) (l : List En) (i : Nat) (x : En) (vb : Nat) (w : World) (base : Nat) (hi : i ≤ l.length) (hR : OwnE w base v l) (hbase : base ≤ w.heap.size)
  (hv : w.heap[vb]? = some (.cells #[.string x.f0, .int .i64 x.f1] 162 (0, 0))) (hne : v.ownBlock ≠ some vb) (hs : l.length < 4294967296) :
  Calls Tryz.prog 142 #[v, .int .i64 i, .slice (some ⟨vb, 0, none⟩) 1 1] w fun e w' => ∃ v', e = .returned v' ∧ OwnE w' base v' (l.take i ++ x :: l.drop i) ∧ Below base w w' := by
 rcases Nat.lt_or_ge i l.length with hlt | hge
 ·
  have h2 : (l.take i ++ x :: l.drop i).length = l.length + 1 := by rw [List.length_append, List.length_cons, List.length_take, List.length_drop]; omega
  rcases hR with ⟨rfl, rfl⟩ | ⟨g, cap, cur, rfl, hb, hh, hnc, hcm, hcs, htake⟩
  · simp at hlt
  ·
   rcases Nat.lt_or_ge cap (l.length + 1) with hroom | hroom
   ·
    refine (insert_grow g cap cur l i x vb w hlt hnc hroom hh hcs htake hv hs).mono ?_
    rintro e w' ⟨G, cur', rfl, h3, h4, h5, h6, h7, h8⟩
    refine ⟨_, rfl, .inr ⟨_, G, cur', by rw [h2], hbase, h3, by rw [h2]; exact h4, h5, h6, by rw [h2]; exact h7⟩, h8.mono hbase⟩
   ·
    refine (insert_room g cap cur l i x vb w hlt hroom hcm hh hcs htake hv (fun e => hne (by rw [e]; rfl)) hs).mono ?_
    rintro e w' ⟨cur', rfl, h3, h6, h7, h8⟩
    refine ⟨_, rfl, .inr ⟨_, cap, cur', by rw [h2], hb, h3, by rw [h2]; exact hroom, hcm, h6, by rw [h2]; exact h7⟩, ⟨h8.os, h8.tape, h8.output, h8.size, fun k hk => h8.block k (Nat.lt_of_lt_of_le hk hbase) (by intro e; injection e with e; omega)⟩⟩
 ·
  obtain rfl : i = l.length := by omega
  rw [List.take_length, List.drop_length]
  exact insert_end v l x vb w base hR hbase hv hs
end Go.Proofs.YtnpeeiikdcankaaGreat.Tw

namespace Go.Proofs.YtnpeeiikdcankaaGreat.Tw
open Go Go.RowKit Go.Shelf Go.Proofs Go.Proofs.YtnpeeiikdcankaaGreat Go.Proofs.YtnpeeiikdcankaaGreatW.PrintWords Go.Proofs.YtnpeeiikdcankaaGreat.Ext Go.Proofs.YtnpeeiikdcankaaGreat.X Go.Proofs.YtnpeeiikdcankaaGreat.Pu
def insE : List En → En → List En
 | [], x => [x]
 | a :: l, x => if bl a.f0 x.f0 = true then a :: insE l x else x :: a :: l
theorem insE_cut (x : En) : ∀ (l : List En) (lo : Nat), Cut l x.f0 lo → insE l x = l.take lo ++ x :: l.drop lo
 | [], lo, h => by have := h.le; simp at this; subst this; rfl
 | a :: l, 0, h => by
  have := h.ge 0 (Nat.le_refl _) (by simp)
  unfold insE
  rw [if_neg (by simpa using this)]; rfl
 | a :: l, lo + 1, h => by
  have h0 := h.lt 0 (by omega)
  unfold insE
  rw [if_pos (by simpa using h0), insE_cut x l lo ⟨by have := h.le; simp at this; omega, fun i hi => by have := h.lt (i + 1) (by omega); simpa using this, fun i hi hl => by have := h.ge (i + 1) (by omega) (by simp; omega); simpa using this⟩]
  rfl
theorem insE_len (x : En) : ∀ l : List En, (insE l x).length = l.length + 1
 | [] => rfl
 | a :: l => by unfold insE; split <;> simp [insE_len x l]
theorem insE_mem (x y : En) : ∀ l : List En, y ∈ insE l x ↔ y = x ∨ y ∈ l
 | [] => by simp [insE]
 | a :: l => by
  unfold insE
  split
  ·
   rw [List.mem_cons, insE_mem x y l, List.mem_cons]
   constructor
   ·
    rintro (h | h | h)
    · exact .inr (.inl h)
    · exact .inl h
    · exact .inr (.inr h)
   ·
    rintro (h | h | h)
    · exact .inr (.inl h)
    · exact .inl h
    · exact .inr (.inr h)
  · rw [List.mem_cons]
theorem bl_tot {a b : ByteArray} (h : bl a b = false) (hne : a ≠ b) : bl b a = true := by
 have h1 := less_tot _ _ h
 rw [Bool.or_eq_true] at h1
 rcases h1 with h1 | h1
 · exact h1
 ·
  refine absurd (toL_inj.1 ?_) hne
  exact (eq_of_beq h1).symm
theorem insE_rt (x : En) : ∀ l : List En, Rt l → (∀ e ∈ l, e.f0 ≠ x.f0) → Rt (insE l x)
 | [], _, _ => List.pairwise_singleton _ _
 | a :: l, h, hn => by
  obtain ⟨ha, hl⟩ := List.pairwise_cons.1 h
  unfold insE
  split
  ·
   rename_i hb
   refine List.pairwise_cons.2 ⟨fun y hy => ?_, insE_rt x l hl (fun e he => hn e (List.mem_cons_of_mem _ he))⟩
   rcases (insE_mem x y l).1 hy with rfl | hy
   · exact hb
   · exact ha y hy
  ·
   rename_i hb
   have hxa := bl_tot (by simpa using hb) (hn a List.mem_cons_self)
   refine List.pairwise_cons.2 ⟨fun y hy => ?_, h⟩
   rcases List.mem_cons.1 hy with rfl | hy
   · exact hxa
   · exact bl_trans hxa (ha y hy)
theorem OwnE.lt {w : World} {base : Nat} {v : Value} {l : List En} (h : OwnE w base v l) (k : Nat) (hk : v.ownBlock = some k) : k < w.heap.size := by
 rcases h with ⟨rfl, _⟩ | ⟨g, cap, cur, rfl, _, hh, _⟩
 · cases hk
 · injection hk with hk; subst hk; exact blk_lt hh
theorem OwnE.lower {w : World} {base base' : Nat} {v : Value} {l : List En} (h : OwnE w base v l) (hb : base' ≤ base) : OwnE w base' v l := by
 rcases h with ⟨rfl, h0⟩ | ⟨g, cap, cur, rfl, hg, r⟩
 · exact .inl ⟨rfl, h0⟩
 · exact .inr ⟨g, cap, cur, rfl, Nat.le_trans hb hg, r⟩
theorem entsPut_calls (A : Option Addr) (c : Nat) (l : List En) (x : En) (w : World) (hr : Kd.C k162 w A l.length l) (hc : l.length ≤ c) (hl : l.length < 4294967296) (hR : Rt l) (hn : (findE l x.f0).2 = false) :
  Calls Tryz.prog 102 #[.slice A l.length c, .agg #[.string x.f0, .int .i64 x.f1]] w fun e w' => ∃ v', e = .returned v' ∧ OwnE w' w.heap.size v' (insE l x) ∧ Below w.heap.size w w' := by
 obtain ⟨lo, hcut, hf⟩ := exists_cut x.f0 l hR
 have hat : isAt l x.f0 lo = false := by
  cases h : isAt l x.f0 lo with
  | false => rfl
  | true => rw [hf, h] at hn; cases hn
 have HA := qh (fun W h => all_calls A c l W h hc hl hR)
 have HCL := qh (fun W h => clone_calls A c l W h hc hl)
 have HT := qh (fun A' c' W h hc' => at_ents_calls A' c' l x.f0 lo W h hc' hl hcut)
 rw [hat] at HT
 have HI := qh (fun v W base vb h1 h2 h3 h4 => insert_calls v l lo x vb W base hcut.le h1 h2 h3 h4 hl)
 rw [← insE_cut x l lo hcut] at HI
 have HR := qh hr
 obtain ⟨nm, k⟩ := x
 simp only [] at *
 clear hat hf hcut hR hr hl hc hn
 have HB := qh ((Below.refl w.heap.size w).alloc (Nat.le_refl _) (.cells #[.string nm, .int .i64 k] 162))
 have HBX := qh (show (w.alloc (.cells #[.string nm, .int .i64 k] 162)).heap[w.heap.size]? = _ from heap_alloc_new w _)
 go_enter Tryz.func102, Tryz.ntmps102
 go_wp2_with (first | (go_at_call 138; refine (HA.out _ (Kd.C_below HR.out HB.out)).mono ?_; rintro e w2 ⟨rfl, hb2⟩) | (go_at_call 118; refine (HCL.out _ (Kd.C_below (Kd.C_below HR.out HB.out) hb2)).mono ?_; rintro e w3 ⟨v, rfl, ho, hb3⟩; obtain ⟨A3, c3, rfl, hle3, hC3⟩ := Kd.R_reads ho; have HO3 := qh ho; have HC3 := qh hC3; have HLE := qh hle3; have hbx := (hb3.block _ (blk_lt ((hb2.block _ (blk_lt HBX.out)).trans HBX.out))).trans ((hb2.block _ (blk_lt HBX.out)).trans HBX.out); have HBX3 := qh hbx; have x0 : w3.cell? ⟨w.heap.size, 0, none⟩ = some (.string nm) := by { rw [blk_cell hbx]; rfl }; clear ho hC3 hle3 hbx) | (go_at_call 139; refine (HT.out _ _ _ HC3.out HLE.out).mono ?_; rintro e w4 ⟨rfl, hb4⟩; have hbx := (hb4.block _ (blk_lt HBX3.out)).trans HBX3.out; have HBX4 := qh hbx; have y0 : w4.cell? ⟨w.heap.size, 0, none⟩ = some (.string nm) := by { rw [blk_cell hbx]; rfl }; have y1 : w4.cell? ⟨w.heap.size, 1, none⟩ = some (.int .i64 k) := by { rw [blk_cell hbx]; rfl }; clear hbx) | (go_at_call 142; have hO4 := OwnE.ofR (Kd.R_below HO3.out hb4); refine (HI.out _ _ w2.heap.size _ (OwnE.ofR (Kd.R_below (Kd.R_below HO3.out hb4) ((Below.refl _ w4).alloc (Nat.le_refl _) _))) (Nat.le_trans (Nat.le_trans hb3.size hb4.size) (by simp)) (heap_alloc_new w4 _) (fun e => Nat.lt_irrefl _ (hO4.lt _ e))).mono ?_; rintro e w5 ⟨v', rfl, ho5, hb5⟩))
 go_ret
 exact ⟨_, rfl, ho5.lower (Nat.le_trans (by simp) hb2.size), (HB.out.trans (hb2.mono HB.out.size)).trans (((hb3.mono (Nat.le_trans HB.out.size hb2.size)).trans (hb4.mono (Nat.le_trans (Nat.le_trans HB.out.size hb2.size) hb3.size))).trans ((((Below.refl _ w4).alloc (Nat.le_refl _) _).mono (Nat.le_trans (Nat.le_trans (Nat.le_trans HB.out.size hb2.size) hb3.size) hb4.size)).trans (hb5.mono (Nat.le_trans HB.out.size hb2.size))))⟩
theorem step_append_runI {P : Program} {ops : Array Oper} {o : Oper} {a : Act} {w : World} {K : Act → World → Prop} {Q : Exit → Act → World → Prop} {E : Prop}
  (hg : o.guard = none) (d x : Operand) (dT sT : TypeId) (hop : o.op = Op.call { callee := Callee.builtin Builtin.append, args := #[d, x], argTypes := #[dT, sT] })
  (v u : Value) (hd : a.eval d = v) (hx : a.eval x = u) {v' : Value} {w' : World} (hr : (Builtin.append_ #[dT, sT] o.type #[v, u]).run P w = .ok v' w') (hK : K (a.put o.dst v') w') :
  if Region.wanted o (yielded ops a.tmps) = true then Oper.wp P o a w K Q else E := by
 have hw : Region.wanted o (yielded ops a.tmps) = true := by simp [Region.wanted, hg]
 rw [if_pos hw]
 unfold Oper.wp
 simp [execOp, hop, resolve, invoke, builtin, hd, hx, hr, Result.andThen]
 exact hK
theorem zeroEn (w : World) : (zeroValue 162).run Tryz.prog w = .ok (.agg #[.string ⟨#[]⟩, .int .i64 0]) w := by kernel_rfl
theorem clear_E (W : World) (g o c : Nat) (cur : Array Value) (hg : W.heap[g]? = some (.cells cur 162 (0, 0))) (hfit : o + 2 ≤ cur.size) :
  ∃ W1, (∀ ty, (Builtin.clear_ #[110] ty #[.slice (some ⟨g, o, none⟩) 1 c]).run Tryz.prog W = .ok (.tuple #[]) W1) ∧
   W1.heap[g]? = some (.cells (cur.toList.take o ++ [Value.string ⟨#[]⟩, Value.int .i64 0] ++ cur.toList.drop (o + 2)).toArray 162 (0, 0)) ∧ W.grownBy W1 (some g) := by
 have hst := run_storeCells_at Tryz.prog g o 162 [.string ⟨#[]⟩, .int .i64 0] 0 cur W hg (by simpa using hfit) (by intro v hv; simp at hv; rcases hv with rfl | rfl <;> rfl)
 simp only [Nat.add_zero, List.length_cons, List.length_nil, Nat.zero_add] at hst
 have hz : (Builtin.zeroCells (Value.agg #[.string ⟨#[]⟩, .int .i64 0]).cells 1).toList = [Value.string ⟨#[]⟩, Value.int .i64 0] := by kernel_rfl
 refine ⟨_, fun ty => ?_, setRow_heap W g cur _ _ _ hg, ⟨rfl, rfl, rfl, by simp, fun k _ hk => setRow_other W g k _ (fun e => hk (by rw [e]))⟩⟩
 simp [Builtin.clear_, run_underlying Tryz.underlying110, zeroEn, hz, hst]
theorem delete_calls (v : Value) (l : List En) (i j : Nat) (w : World) (base : Nat) (hi : i < l.length) (hj : j = i + 1) (hR : OwnE w base v l) (hs : l.length < 4294967296) :
  Calls Tryz.prog 166 #[v, .int .i64 i, .int .i64 j] w fun e w' => ∃ v', e = .returned v' ∧ OwnE w' base v' (l.take i ++ l.drop (i + 1)) ∧ Below base w w' := by
 rcases hR with ⟨rfl, rfl⟩ | ⟨g, cap, cur, rfl, hb, hh, hnc, hcm, hcs, htake⟩
 · simp at hi
 obtain ⟨i0, hi0, hz0, hzs, hzb⟩ := info_parts infoE
 have hld : (rowE (l.drop j)).length = (l.length - j) * i0.size := by rw [rowE_len, List.length_drop, hzs]
 have hhd : w.drew.heap[g]? = some (.cells cur 162 (0, 0)) := hh
 obtain ⟨ad, hA, hsrc⟩ : ∃ ad : Addr, (if cap = j then some (⟨g, 0, none⟩ : Addr) else some ⟨g, j * 2, none⟩) = some ad ∧ ∀ t u, (rowE (l.drop j))[t]? = some u → w.drew.cell? (ad.add t) = some u := by
  by_cases h : cap = j
  ·
   refine ⟨⟨g, 0, none⟩, by simp [h], fun t u hu => ?_⟩
   rw [List.drop_eq_nil_of_le (by omega)] at hu
   simp [rowE] at hu
  ·
   refine ⟨⟨g, j * 2, none⟩, by simp [h], cells_E hhd ?_⟩
   rw [List.length_drop, ← rowE_drop, ← htake, List.drop_take]
   congr 1
   omega
 have hap := fun ty => run_append_room (P := Tryz.prog) w.drew 110 ty 162 i0 Tryz.underlying110 hi0 g i cap cur hhd ad (l.length - j) (cap - j) (rowE (l.drop j)) hld hsrc (rowE_one _) (by omega) (by rw [hzs, rowE_len, List.length_drop]; omega)
 rw [hzs] at hap
 obtain ⟨cur1, hcur1⟩ : ∃ c, c = (cur.toList.take (i * 2) ++ rowE (l.drop j) ++ cur.toList.drop (i * 2 + (rowE (l.drop j)).length)).toArray := ⟨_, rfl⟩
 rw [← hcur1] at hap
 obtain ⟨W1, hW1⟩ : ∃ W1, W1 = w.drew.setRow g cur1 := ⟨_, rfl⟩
 rw [← hW1] at hap
 have hg1 : W1.heap[g]? = some (.cells cur1 162 (0, 0)) := by rw [hW1]; exact setRow_heap w.drew g cur _ _ _ hhd
 have hk1 : w.grownBy W1 (some g) := by rw [hW1]; exact ⟨rfl, rfl, rfl, by simp, fun k _ hk => setRow_other w.drew g k _ (fun e => hk (by rw [e]))⟩
 have hs1 : cur1.size = cap * 2 := by
  rw [hcur1]
  simp only [List.size_toArray, List.length_append, List.length_take, List.length_drop, Array.length_toList, rowE_len, hcs]
  omega
 have hone : l.length - (i + (l.length - j)) = 1 := by omega
 obtain ⟨W2, hcl, hg2, hk2⟩ := clear_E W1 g ((i + (l.length - j)) * 2) (cap - (i + (l.length - j))) cur1 hg1 (by omega)
 obtain ⟨cur2, hcur2⟩ : ∃ c, c = (cur1.toList.take ((i + (l.length - j)) * 2) ++ [Value.string ⟨#[]⟩, Value.int .i64 0] ++ cur1.toList.drop ((i + (l.length - j)) * 2 + 2)).toArray := ⟨_, rfl⟩
 rw [← hcur2] at hg2
 have FIN : cur2.size = cap * 2 ∧ cur2.toList.take ((i + (l.length - j)) * 2) = rowE (l.take i ++ l.drop j) := by
  refine ⟨?_, ?_⟩
  ·
   rw [hcur2]
   simp only [List.size_toArray, List.length_append, List.length_take, List.length_drop, Array.length_toList, hs1, List.length_cons, List.length_nil]
   omega
  ·
   rw [hcur2]
   show (cur1.toList.take ((i + (l.length - j)) * 2) ++ [Value.string ⟨#[]⟩, Value.int .i64 0] ++ cur1.toList.drop ((i + (l.length - j)) * 2 + 2)).take _ = _
   rw [List.append_assoc, List.take_append_of_le_length (by simp only [List.length_take, Array.length_toList]; omega), List.take_take, Nat.min_self, hcur1]
   show (cur.toList.take (i * 2) ++ rowE (l.drop j) ++ cur.toList.drop (i * 2 + (rowE (l.drop j)).length)).take _ = _
   rw [rowE_append, ← rowE_take, ← htake, List.take_take, Nat.min_eq_left (by omega)]
   exact List.take_left' (by simp only [List.length_append, rowE_len, List.length_take, List.length_drop, Array.length_toList]; omega)
 have HF := qh (And.intro FIN (And.intro hg2 (hk1.trans hk2)))
 have HAP := qh hap
 have HGG := qh (blk_lt hh)
 have hz1 : ¬ (i = j) := by omega
 have hz2 : ((i : Int) == (j : Int)) = false := beq_eq_false_iff_ne.2 (by omega)
 have hb1 : i ≤ j := by omega
 have hb2 : j ≤ l.length := by omega
 have hb3 : i ≤ cap := by omega
 have hb4 : j ≤ cap := by omega
 have hb5 : i + (l.length - j) ≤ l.length := by omega
 have hb6 : ¬ (cap = i + (l.length - j)) := by omega
 have hb7 : i + (l.length - j) ≤ cap := by omega
 have HJ := qh hj
 have HONE := qh hone
 rw [← hone] at hcl
 have HCL := qh hcl
 clear FIN hcur2 hcur1 hg1 hs1 hk1 hk2 hg2 hap hhd hh hcs htake hs hld hsrc hi0 hz0 hzs hzb hW1 hj hone hi hcl
 have HB := qh hb
 have HG := HGG
 have HCM := qh hcm
 have HNC := qh (And.intro hnc (show (l.take i ++ l.drop j).length = i + (l.length - j) by simp only [List.length_append, List.length_take, List.length_drop]; omega))
 rw [← HJ.out]
 generalize hn : l.length = n at *
 have HN := qh hn
 clear hn hb hcm
 go_enter Tryz.func166, Tryz.ntmps166
 go_wp2
 go_region_law (refine step_append_runI rfl _ _ 110 110 rfl _ _ (by simp [Act.eval, Act.put]) (by simp [Act.eval, Act.put]) (HAP.out _) ?_)
 have hcl := HCL.out
 go_wp2
 go_ret
 obtain ⟨⟨f1, f2⟩, f3, f4⟩ := HF.out
 exact ⟨_, rfl, .inr ⟨g, cap, cur2, by rw [HNC.out.2]; rfl, HB.out, f3, by rw [HNC.out.2]; exact hb7, HCM.out, f1, by rw [HNC.out.2]; exact f2⟩, f4.os, f4.tape, f4.output, f4.size, fun k hk => f4.block k (Nat.lt_trans (Nat.lt_of_lt_of_le hk HB.out) HGG.out) (fun e => by have := HB.out; injection e with e; omega)⟩
def cutEn (l : List En) (s : ByteArray) : List En := l.filter (fun e => !(e.f0.toList == s.toList))
theorem cutEn_cut {l : List En} {s : ByteArray} {lo : Nat} (h : Cut l s lo) (hR : Rt l) (ha : isAt l s lo = true) : cutEn l s = l.take lo ++ l.drop (lo + 1) := by
 have hlt : lo < l.length := by unfold isAt at ha; rw [Bool.and_eq_true] at ha; exact of_decide_eq_true ha.1
 have hat : (l[lo].f0.toList == s.toList) = true := by
  unfold isAt at ha; rw [Bool.and_eq_true] at ha
  have := ha.2
  simpa [hlt] using this
 have h1 : (l.take lo).filter (fun e => !(e.f0.toList == s.toList)) = l.take lo := by
  rw [List.filter_eq_self]
  intro e he
  obtain ⟨i, hi, rfl⟩ := List.mem_iff_getElem.1 he
  have hi' : i < lo := by simp at hi; omega
  have := h.lt i hi'
  have hi2 : i < l.length := by omega
  rw [List.getElem_take]
  have e1 : (l.getD i z162) = l[i] := by simp [hi2]
  rw [e1] at this
  rw [bl_ne this]; rfl
 have h2 : (l.drop (lo + 1)).filter (fun e => !(e.f0.toList == s.toList)) = l.drop (lo + 1) := by
  rw [List.filter_eq_self]
  intro e he
  obtain ⟨i, hi, rfl⟩ := List.mem_iff_getElem.1 he
  rw [List.getElem_drop]
  have hb := List.pairwise_iff_getElem.1 hR lo (lo + 1 + i) hlt (by simp at hi; omega) (by omega)
  have e1 : l[lo].f0 = s := toL_inj.1 (by simpa using hat)
  rw [e1] at hb
  have := bl_ne hb
  have h3 : ((l[lo + 1 + i]'(by simp at hi; omega)).f0.toList == s.toList) = false := by
   rw [beq_eq_false_iff_ne] at this ⊢
   exact fun e => this e.symm
  rw [h3]; rfl
 have hsp : l = l.take lo ++ l[lo] :: l.drop (lo + 1) := by rw [← List.drop_eq_getElem_cons hlt, List.take_append_drop]
 unfold cutEn
 conv => lhs; rw [hsp]
 rw [List.filter_append, List.filter_cons, hat, h1, h2]
 rfl
theorem entsCut_calls (A : Option Addr) (c : Nat) (l : List En) (s : ByteArray) (w : World) (hr : Kd.C k162 w A l.length l) (hc : l.length ≤ c) (hl : l.length < 4294967296) (hR : Rt l) (hn : (findE l s).2 = true) :
  Calls Tryz.prog 149 #[.slice A l.length c, .string s] w fun e w' => ∃ v', e = .returned v' ∧ OwnE w' w.heap.size v' (cutEn l s) ∧ Below w.heap.size w w' := by
 obtain ⟨lo, hcut, hf⟩ := exists_cut s l hR
 have hat : isAt l s lo = true := by
  cases h : isAt l s lo with
  | true => rfl
  | false => rw [hf, h] at hn; cases hn
 have hlt : lo < l.length := by unfold isAt at hat; rw [Bool.and_eq_true] at hat; exact of_decide_eq_true hat.1
 have HA := qh (fun W h => all_calls A c l W h hc hl hR)
 have HCL := qh (fun W h => clone_calls A c l W h hc hl)
 have HT := qh (fun A' c' W h hc' => at_ents_calls A' c' l s lo W h hc' hl hcut)
 rw [hat] at HT
 have HD := qh (fun v W base h => delete_calls v l lo (lo + 1) W base hlt rfl h hl)
 rw [← cutEn_cut hcut hR hat] at HD
 have HR := qh hr
 have hw : IntKind.i64.wrap ((lo : Int) + 1) = ((lo + 1 : Nat) : Int) := by rw [IntKind.wrap_i64]; omega
 have hw' : wrap64 ((lo : Int) + 1) = ((lo + 1 : Nat) : Int) := by rw [IntWalk.wrap64_in _ (by omega)]; omega
 clear hat hf hcut hR hr hl hc hn
 go_enter Tryz.func149, Tryz.ntmps149
 go_wp2_with (first | (go_at_call 138; refine (HA.out _ HR.out).mono ?_; rintro e w2 ⟨rfl, hb2⟩) | (go_at_call 118; refine (HCL.out _ (Kd.C_below HR.out hb2)).mono ?_; rintro e w3 ⟨v, rfl, ho, hb3⟩; obtain ⟨A3, c3, rfl, hle3, hC3⟩ := Kd.R_reads ho; have HO3 := qh ho; have HC3 := qh hC3; have HLE := qh hle3; clear ho hC3 hle3) | (go_at_call 139; refine (HT.out _ _ _ HC3.out HLE.out).mono ?_; rintro e w4 ⟨rfl, hb4⟩) | (go_at_call 166; refine (HD.out _ _ w2.heap.size (OwnE.ofR (Kd.R_below HO3.out hb4))).mono ?_; rintro e w5 ⟨v', rfl, ho5, hb5⟩))
 go_ret
 exact ⟨_, rfl, ho5.lower hb2.size, hb2.trans ((hb3.mono hb2.size).trans ((hb4.mono (Nat.le_trans hb2.size hb3.size)).trans (hb5.mono hb2.size)))⟩
structure Frm (w w' : World) (p B : Nat) : Prop where
 os : w'.os = w.os
 tape : w'.tape = w.tape
 output : w'.output = w.output
 size : w.heap.size ≤ w'.heap.size
 block : ∀ k, k < w.heap.size → k ≠ p → k ≠ B → w'.heap[k]? = w.heap[k]?
theorem Frm.refl (w : World) (p B : Nat) : Frm w w p B := ⟨rfl, rfl, rfl, Nat.le_refl _, fun _ _ _ _ => rfl⟩
theorem Frm.trans {w w1 w2 : World} {p B : Nat} (h : Frm w w1 p B) (k : Frm w1 w2 p B) : Frm w w2 p B :=
 ⟨k.os.trans h.os, k.tape.trans h.tape, k.output.trans h.output, Nat.le_trans h.size k.size, fun j hj h1 h2 => (k.block j (Nat.lt_of_lt_of_le hj h.size) h1 h2).trans (h.block j hj h1 h2)⟩
theorem Frm.ofBelow {w w' : World} {p B : Nat} (h : Below w.heap.size w w') : Frm w w' p B := ⟨h.os, h.tape, h.output, h.size, fun k hk _ _ => h.block k hk⟩
theorem Frm.below {w w' : World} {p B base : Nat} (h : Frm w w' p B) (hb : base ≤ w.heap.size) (hp : base ≤ p) (hB : base ≤ B) : Below base w w' :=
 ⟨h.os, h.tape, h.output, h.size, fun k hk => h.block k (by omega) (by omega) (by omega)⟩
def TreeB (w : World) (p B : Nat) (T : Tr) : Prop := ∃ sv D, TreeIs w p T B sv D
theorem TreeB.at_ {w : World} {p B : Nat} {T : Tr} (h : TreeB w p B T) : TreeAt w p T := ⟨B, h⟩
theorem TreeB.below {w w' : World} {p B : Nat} {T : Tr} (h : TreeB w p B T) (hb : Below w.heap.size w w') : TreeB w' p B T := by
 obtain ⟨sv, D, h⟩ := h
 exact ⟨sv, D, h.below hb⟩
theorem EntsAt.frm {w w' : World} {p B : Nat} {s : Value} {l : List En} {mb : Option Nat} {y : Int} {t : TypeId} {es : Array MapEntry} {clock : Nat} (h : EntsAt w s l) (hp : w.heap[p]? = some (.cells #[.map mb, .int .i64 y] t (0, 0))) (hB : w.heap[B]? = some (.map es clock)) (hf : Frm w w' p B) : EntsAt w' s l := by
 obtain ⟨A, c, e1, e2, hC⟩ := h
 refine ⟨A, c, e1, e2, hC.1, hC.2.1, fun hn => ?_⟩
 obtain ⟨ad, eA, hc⟩ := hC.2.2 hn
 have key : ∀ (x : En) (q : List Value) (j : Nat), k162.K w x q → (∀ i u, q[i]? = some u → w.cell? (ad.add (j * k162.sz + i)) = some u) → ad.block < w.heap.size ∧ ad.block ≠ p ∧ ad.block ≠ B := by
  intro x q j hK hq
  obtain rfl := k162_open hK
  have h0 := hq 0 _ rfl
  have hbl : (ad.add (j * k162.sz + 0)).block = ad.block := by unfold Addr.add; split <;> rfl
  generalize ad.add (j * k162.sz + 0) = a0 at h0 hbl
  refine ⟨?_, ?_, ?_⟩
  · rw [← hbl]; exact block_lt_of_cell h0
  ·
   intro e
   rw [e] at hbl
   obtain ⟨b, o, sp⟩ := a0
   subst hbl
   simp [World.cell?, hp] at h0
   cases sp with
   | none =>
    simp at h0
    match o, h0 with
    | 0, h0 => simp at h0
    | 1, h0 => simp at h0
    | n + 2, h0 => simp at h0
   | some q => simp at h0
  ·
   intro e
   rw [e] at hbl
   obtain ⟨b, o, sp⟩ := a0
   subst hbl
   simp [World.cell?, hB] at h0
 refine ⟨ad, eA, fun j q hj => ?_⟩
 obtain ⟨cs, hl, hK, hq⟩ := hc j q hj
 obtain ⟨k1, k2, k3⟩ := key q cs j hK hq
 refine ⟨cs, hl, ?_, fun i u hu => ?_⟩
 ·
  obtain rfl := k162_open hK
  exact k162_mk _ _
 ·
  have := hq i u hu
  have hbl : (ad.add (j * k162.sz + i)).block = ad.block := by unfold Addr.add; split <;> rfl
  rw [← this]
  generalize ad.add (j * k162.sz + i) = a at hbl
  unfold World.cell?
  rw [hbl, hf.block _ k1 k2 k3]
theorem TreeIs.mapB {w : World} {p : Nat} {T : Tr} {B : Nat} {sv : Int → Value} {D : DataW Value} (h : TreeIs w p T B sv D) : ∃ es clock, w.heap[B]? = some (.map es clock) := by
 obtain ⟨es, clock, hb, _⟩ := h.map
 exact ⟨es, clock, hb⟩
theorem TreeIs.ne {w : World} {p : Nat} {T : Tr} {B : Nat} {sv : Int → Value} {D : DataW Value} (h : TreeIs w p T B sv D) : p ≠ B := by
 obtain ⟨es, clock, hb⟩ := h.mapB
 rintro rfl
 rw [h.ptr] at hb
 cases hb
def Tr.set (T : Tr) (n : Int) (x : Nd) : Tr := ⟨fun m => if m = n then some x else T.get m, if (T.get n).isSome then T.cnt else T.cnt + 1, T.last⟩
def Tr.bump (T : Tr) : Tr := { T with last := T.last + 1 }
theorem ownsMap_fit {H : Type} {P : Program} {k : TypeId} {R : Value → Option (DataW H × List MemPlace)} {w : World} {b n : Nat} {D : DataW H} (h : w.ownsMap P k R b n D) : w.ownsMap P k R b (Maps.size D) D := by
 obtain ⟨es, clock, hb, F, hs, rfl⟩ := h
 exact ⟨es, clock, hb, F, by simp [Maps.size, length_sorted], rfl⟩
theorem TreeIs.store {w : World} {p : Nat} {T : Tr} {B : Nat} {sv : Int → Value} {D : DataW Value} (h : TreeIs w p T B sv D) (n : Int) (hn : wf n) (x : Nd) (s : Value) (hs : EntsAt w s x.ents) (hc : T.cnt < 1000000) :
  ∃ w', (Instr.mapUpdate 154 (.map (some B)) (.int .i64 n) (ndV x s)).run Tryz.prog w = .ok () w' ∧ TreeB w' p B (T.set n x) ∧ Frm w w' p B := by
 have hkey : keyOf Tryz.prog 3 (.int .i64 n) = some (.int .i64 n) := Maps.keyOf_int_mk Tryz.underlying3 hn
 have hkl : WideAt.IsKeyLit (.int .i64 n) := by simp [WideAt.IsKeyLit]
 obtain ⟨es, clock, hb⟩ := h.mapB
 obtain ⟨w', hrun, hown, hturn⟩ := h.map.store keyed Tryz.underlying154 (by rw [h.cnt]; unfold maxLen; omega) hkey (d := .held (ndV x s)) (ps := []) rfl
 have hg := hturn.grown
 have hf : Frm w w' p B := ⟨hg.os, hg.tape, hg.output, hg.size, fun k hk _ h2 => hg.block k hk (fun e => h2 (Option.some.inj e))⟩
 have hsz : Maps.size (D.put (.int .i64 n) (.held (ndV x s))) = (T.set n x).cnt := by
  rw [Maps.size_put (h.map.tidy keyed), h.has n hn, h.cnt]; rfl
 refine ⟨w', hrun, ⟨fun m => if m = n then s else sv m, _, ⟨(hg.block p (blk_lt h.ptr) (fun e => h.ne (Option.some.inj e))).trans h.ptr, ownsMap_fit hown, hsz, fun m hm => ?_, fun m z hm => ?_, fun m y hm hy => ?_⟩⟩, hf⟩
 ·
  by_cases e : m = n
  ·
   subst e
   rw [Maps.has_put_same h.map.isMap hkl]
   simp [Tr.set]
  ·
   rw [Maps.has_put_other (by intro e2; injection e2 with _ e2; exact e e2), h.has m hm]
   simp [Tr.set, e]
 ·
  by_cases e : m = n
  ·
   subst e
   rw [Maps.atKey_put_same h.map.isMap hkl]
   simp [Tr.set]
  ·
   rw [Maps.atKey_put_other (by intro e2; injection e2 with _ e2; exact e e2), h.at_ m z hm]
   simp [Tr.set, e]
 ·
  by_cases e : m = n
  ·
   subst e
   simp [Tr.set] at hy
   subst hy
   simp only [if_true]
   exact hs.frm h.ptr hb hf
  ·
   simp [Tr.set, e] at hy
   simp only [if_neg e]
   exact EntsAt.frm (h.ents m y hm hy) h.ptr hb hf
theorem TreeIs.bump {w : World} {p : Nat} {T : Tr} {B : Nat} {sv : Int → Value} {D : DataW Value} (h : TreeIs w p T B sv D) :
  TreeB (w.setCell ⟨p, 1, none⟩ (.int .i64 (T.last + 1))) p B T.bump ∧ Frm w (w.setCell ⟨p, 1, none⟩ (.int .i64 (T.last + 1))) p B := by
 obtain ⟨es, clock, hb⟩ := h.mapB
 have hk : ∀ k, k ≠ p → (w.setCell ⟨p, 1, none⟩ (.int .i64 (T.last + 1))).heap[k]? = w.heap[k]? := fun k hk => Below.heap_setCell w _ _ k hk
 have hf : Frm w (w.setCell ⟨p, 1, none⟩ (.int .i64 (T.last + 1))) p B := ⟨rfl, rfl, rfl, by simp, fun k _ h1 _ => hk k h1⟩
 refine ⟨⟨sv, D, ⟨?_, h.map.setCell h.ne.symm _, h.cnt, h.has, h.at_, fun m y hm hy => EntsAt.frm (h.ents m y hm hy) h.ptr hb hf⟩⟩, hf⟩
 rw [setCell_eq_setRow w p 1 _ _ _ _ h.ptr, setRow_heap w p _ _ _ _ h.ptr]
 rfl
end Go.Proofs.YtnpeeiikdcankaaGreat.Tw

namespace Go.Proofs.YtnpeeiikdcankaaGreat.X
open Go.RowKit Go.Proofs.YtnpeeiikdcankaaGreatW.PrintWords Go.Proofs.YtnpeeiikdcankaaGreatW.PrintLast Go.Proofs.YtnpeeiikdcankaaGreatW.PrintMore Go.Proofs.YtnpeeiikdcankaaGreat.Ext
attribute [local go_sem] max2_int min2_int max_two min_two max_three min_three max_four min_four
mutual
def tree_may.j0 : Nat → Int → ByteArray → Bool → Option (Int)
 | 0, _, _, _ => none
 | k + 1, x0, x1, x5 => if x5 = true then (some 2) else (if x0 = 1 then (tree_may.j1 k x0 x1 (x1.toList != ([] : List UInt8))) else (tree_may.j1 k x0 x1 false))
def tree_may.j1 : Nat → Int → ByteArray → Bool → Option (Int)
 | 0, _, _, _ => none
 | k + 1, x0, x1, x12 => if x12 = true then (tree_may.j2 k x1 x12) else (if x0 = 3 then (tree_may.j2 k x1 (x1.toList == ([] : List UInt8))) else (tree_may.j2 k x1 false))
def tree_may.j2 : Nat → ByteArray → Bool → Option (Int)
 | 0, _, _ => none
 | k + 1, x1, x12 => if x12 = true then (some 3) else (if (x1.size : Int) > 65536 then (some 4) else (some 0))
end
def tree_may.f (k : Nat) (a0 : Int) (a1 : ByteArray) : Option (Int) := if a0 < 1 then (tree_may.j0 k a0 a1 true) else (tree_may.j0 k a0 a1 (decide (a0 > 3)))
theorem tree_may.calls (k : Nat) (a0 : Int) (a1 : ByteArray) (r : Int) (w : World) (h : tree_may.f k a0 a1 = some r) :
  Calls Tryz.prog 100 #[.int .i64 a0, .string a1] w fun e w' => e = .returned (.int .i64 r) ∧ Drawn0 w w' := by
 have hu36 := Tryz.underlying36
 have hu49 := Tryz.underlying49
 have hu66 := Tryz.underlying66
 have hu93 := Tryz.underlying93
 have hu106 := Tryz.underlying106
 have hu115 := Tryz.underlying115
 have hu130 := Tryz.underlying130
 have hu162 := Tryz.underlying162
 have H : (if a0 < 1 then (tree_may.j0 k a0 a1 true) else (tree_may.j0 k a0 a1 (decide (a0 > 3)))) = some r := h
 clear h
 have HC3 := qa H
 clear H
 go_enter Tryz.func100, Tryz.ntmps100
 go_upto_region 1 with (fail)
 go_cut [5] (fun v5 wc => ∃ (kq : Nat) (x5_2 : Bool), v5 = .bool x5_2 ∧ Aside0 (tree_may.j0 kq a0 a1 x5_2 = some r) ∧ Aside0 (kq ≤ k) ∧ Drawn0 w wc)
 case first =>
  have H := HC3.out
  clear HC3
  by_cases c4 : a0 < 1
  ·
   rw [if_pos c4] at H
   have c4b0 : decide (a0 < 1) = true := decide_eq_true c4
   clear c4
   (first | rw [c4b0] | (simp only [i64_w, i32_w]; rw [c4b0]) | skip)
   have H' := qa H
   clear H
   go_wp2
   go_meet
   case rel => exact ⟨_, (true), (by first | rfl | (simp; done) | (simp [*]; done) | (simp [bne_nil]; done)), H', ⟨by first | omega | exact Nat.le_refl _⟩, by repeat (first | exact Drawn0.refl _ | apply Drawn0.step)⟩
  ·
   rw [if_neg c4] at H
   have c4b0 : decide (a0 < 1) = false := decide_eq_false c4
   clear c4
   (first | rw [c4b0] | (simp only [i64_w, i32_w]; rw [c4b0]) | skip)
   have H' := qa H
   clear H
   go_wp2
   go_meet
   case rel => exact ⟨_, (decide (a0 > 3)), (by first | rfl | (simp; done) | (simp [*]; done) | (simp [bne_nil]; done)), H', ⟨by first | omega | exact Nat.le_refl _⟩, by repeat (first | exact Drawn0.refl _ | apply Drawn0.step)⟩
 case rest =>
  clear HC3
  try clear c1
  try clear p2
  try clear c4
  try clear c4b0
  obtain ⟨kq, x5_2, rfl, HA, HJ2, ⟨mc2, rfl⟩⟩ := hcut
  cases kq with
  | zero => exact absurd HA.out (by simp [tree_may.j0])
  | succ kj2 =>
   have H := HA.out
   clear HA
   simp only [tree_may.j0] at H
   by_cases c5 : x5_2 = true
   ·
    subst c5
    have H1 : (some 2) = some r := by rw [if_pos rfl] at H; exact H
    clear H
    have H := H1
    clear H1
    obtain rfl := Option.some.inj H
    go_wp2
    go_ret
    exact ⟨by first | rfl | (simp; done) | (simp [*]; done), by repeat (first | exact Drawn0.refl _ | apply Drawn0.step)⟩
   ·
    replace c5 := Bool.eq_false_iff.mpr c5
    subst c5
    have H1 : (if a0 = 1 then (tree_may.j1 kj2 a0 a1 (a1.toList != ([] : List UInt8))) else (tree_may.j1 kj2 a0 a1 false)) = some r := by rw [if_neg (show ¬ (false = true) by decide)] at H; exact H
    clear H
    have H := H1
    clear H1
    have HC6 := qa H
    clear H
    go_upto_region 3 with (fail)
    go_cut [12] (fun v12 wc => ∃ (kq : Nat) (x12_5 : Bool), v12 = .bool x12_5 ∧ Aside0 (tree_may.j1 kq a0 a1 x12_5 = some r) ∧ Aside0 (kq ≤ kj2) ∧ Drawn0 w wc)
    case first =>
     have H := HC6.out
     clear HC6
     by_cases c7 : a0 = 1
     ·
      rw [if_pos c7] at H
      have c7b0 : (a0 == 1) = true := beq_iff_eq.mpr c7
      have c7b1 : (a0 != 1) = false := bne_eq_false_iff_eq.mpr c7
      clear c7
      (first | rw [c7b0] | (simp only [i64_w, i32_w]; rw [c7b0]) | skip)
      have H' := qa H
      clear H
      go_wp2
      go_meet
      case rel => exact ⟨_, ((a1.toList != ([] : List UInt8))), (by first | rfl | (simp; done) | (simp [*]; done) | (simp [bne_nil]; done)), H', ⟨by have := HJ2.out; first | omega | exact Nat.le_refl _⟩, by repeat (first | exact Drawn0.refl _ | apply Drawn0.step)⟩
     ·
      rw [if_neg c7] at H
      have c7b0 : (a0 == 1) = false := beq_eq_false_iff_ne.mpr c7
      have c7b1 : (a0 != 1) = true := bne_iff_ne.mpr c7
      (first | rw [c7b0] | (simp only [i64_w, i32_w]; rw [c7b0]) | skip)
      have H' := qa H
      clear H
      go_wp2
      go_meet
      case rel => exact ⟨_, (false), (by first | rfl | (simp; done) | (simp [*]; done) | (simp [bne_nil]; done)), H', ⟨by have := HJ2.out; first | omega | exact Nat.le_refl _⟩, by repeat (first | exact Drawn0.refl _ | apply Drawn0.step)⟩
    case rest =>
     clear HC6
     try clear c1
     try clear c2
     try clear p2
     try clear c4
     try clear c4b0
     try clear c5
     try clear c7
     try clear c7b0
     try clear c7b1
     try clear p2
     obtain ⟨kq, x12_5, rfl, HA, HJ5, ⟨mc5, rfl⟩⟩ := hcut
     cases kq with
     | zero => exact absurd HA.out (by simp [tree_may.j1])
     | succ kj5 =>
      have H := HA.out
      clear HA
      simp only [tree_may.j1] at H
      have HC8 := qa H
      clear H
      go_upto_if 12 with (fail)
      go_cut [12] (fun v12 wc => ∃ (kq : Nat) (x12_7 : Bool), v12 = .bool x12_7 ∧ Aside0 (tree_may.j2 kq a1 x12_7 = some r) ∧ Aside0 (kq ≤ kj5) ∧ Drawn0 w wc)
      case first =>
       have H := HC8.out
       clear HC8
       by_cases c9 : x12_5 = true
       ·
        subst c9
        have H1 : (tree_may.j2 kj5 a1 true) = some r := by rw [if_pos rfl] at H; exact H
        clear H
        have H := H1
        clear H1
        have H' := qa H
        clear H
        go_wp2
        go_meet
        case rel => exact ⟨_, (true), (by first | rfl | (simp; done) | (simp [*]; done) | (simp [bne_nil]; done)), H', ⟨by have := HJ2.out; have := HJ5.out; first | omega | exact Nat.le_refl _⟩, by repeat (first | exact Drawn0.refl _ | apply Drawn0.step)⟩
       ·
        replace c9 := Bool.eq_false_iff.mpr c9
        subst c9
        have H1 : (if a0 = 3 then (tree_may.j2 kj5 a1 (a1.toList == ([] : List UInt8))) else (tree_may.j2 kj5 a1 false)) = some r := by rw [if_neg (show ¬ (false = true) by decide)] at H; exact H
        clear H
        have H := H1
        clear H1
        by_cases c10 : a0 = 3
        ·
         rw [if_pos c10] at H
         have c10b0 : (a0 == 3) = true := beq_iff_eq.mpr c10
         have c10b1 : (a0 != 3) = false := bne_eq_false_iff_eq.mpr c10
         clear c10
         (first | rw [c10b0] | (simp only [i64_w, i32_w]; rw [c10b0]) | skip)
         have H' := qa H
         clear H
         go_wp2
         go_meet
         case rel => exact ⟨_, ((a1.toList == ([] : List UInt8))), (by first | rfl | (simp; done) | (simp [*]; done) | (simp [bne_nil]; done)), H', ⟨by have := HJ2.out; have := HJ5.out; first | omega | exact Nat.le_refl _⟩, by repeat (first | exact Drawn0.refl _ | apply Drawn0.step)⟩
        ·
         rw [if_neg c10] at H
         have c10b0 : (a0 == 3) = false := beq_eq_false_iff_ne.mpr c10
         have c10b1 : (a0 != 3) = true := bne_iff_ne.mpr c10
         (first | rw [c10b0] | (simp only [i64_w, i32_w]; rw [c10b0]) | skip)
         have H' := qa H
         clear H
         go_wp2
         go_meet
         case rel => exact ⟨_, (false), (by first | rfl | (simp; done) | (simp [*]; done) | (simp [bne_nil]; done)), H', ⟨by have := HJ2.out; have := HJ5.out; first | omega | exact Nat.le_refl _⟩, by repeat (first | exact Drawn0.refl _ | apply Drawn0.step)⟩
      case rest =>
       clear HC8
       try clear c1
       try clear c2
       try clear p2
       try clear c4
       try clear c4b0
       try clear c5
       try clear c7
       try clear c7b0
       try clear c7b1
       try clear c9
       try clear c10
       try clear c10b0
       try clear c10b1
       try clear p2
       obtain ⟨kq, x12_7, rfl, HA, HJ7, ⟨mc7, rfl⟩⟩ := hcut
       cases kq with
       | zero => exact absurd HA.out (by simp [tree_may.j2])
       | succ kj7 =>
        have H := HA.out
        clear HA
        simp only [tree_may.j2] at H
        by_cases c11 : x12_7 = true
        ·
         subst c11
         have H1 : (some 3) = some r := by rw [if_pos rfl] at H; exact H
         clear H
         have H := H1
         clear H1
         obtain rfl := Option.some.inj H
         go_wp2
         go_ret
         exact ⟨by first | rfl | (simp; done) | (simp [*]; done), by repeat (first | exact Drawn0.refl _ | apply Drawn0.step)⟩
        ·
         replace c11 := Bool.eq_false_iff.mpr c11
         subst c11
         have H1 : (if (a1.size : Int) > 65536 then (some 4) else (some 0)) = some r := by rw [if_neg (show ¬ (false = true) by decide)] at H; exact H
         clear H
         have H := H1
         clear H1
         by_cases c12 : (a1.size : Int) > 65536
         ·
          rw [if_pos c12] at H
          have c12b0 : decide (65536 < (a1.size : Int)) = true := decide_eq_true c12
          have c12b1 : decide (65536 < a1.size) = true := decide_eq_true (by omega)
          clear c12
          obtain rfl := Option.some.inj H
          go_wp2
          go_ret
          exact ⟨by first | rfl | (simp; done) | (simp [*]; done), by repeat (first | exact Drawn0.refl _ | apply Drawn0.step)⟩
         ·
          rw [if_neg c12] at H
          have c12b0 : decide (65536 < (a1.size : Int)) = false := decide_eq_false c12
          have c12b1 : decide (65536 < a1.size) = false := decide_eq_false (by omega)
          clear c12
          obtain rfl := Option.some.inj H
          go_wp2
          go_ret
          exact ⟨by first | rfl | (simp; done) | (simp [*]; done), by repeat (first | exact Drawn0.refl _ | apply Drawn0.step)⟩
end Go.Proofs.YtnpeeiikdcankaaGreat.X

namespace Go.Proofs.YtnpeeiikdcankaaGreat.Tw
open Go Go.RowKit Go.Shelf Go.Proofs Go.Proofs.YtnpeeiikdcankaaGreat Go.Proofs.YtnpeeiikdcankaaGreatW.PrintWords Go.Proofs.YtnpeeiikdcankaaGreat.Ext Go.Proofs.YtnpeeiikdcankaaGreat.X Go.Proofs.YtnpeeiikdcankaaGreat.Pu
def Tr.enter (T : Tr) (n : Int) (l : List En) : Tr := T.set n { T.node n with ents := l }
theorem enter_calls (p B : Nat) (T : Tr) (n : Int) (v : Value) (l : List En) (w : World) (h : TreeB w p B T) (hn : wf n) (hv : EntsAt w v l) (hc : T.cnt < 1000000) :
  Calls Tryz.prog 101 #[pT p, .int .i64 n, v] w fun e w' => e = .returned (.tuple #[]) ∧ TreeB w' p B (T.enter n l) ∧ Frm w w' p B := by
 obtain ⟨sv, D, h⟩ := h
 obtain ⟨s, hs, hrun⟩ := h.look n hn
 have hrun := hrun w (Below.refl _ _)
 have c0 := h.cell0
 have hlt := blk_lt h.ptr
 have hx : T.node n = T.node n := rfl
 generalize hN : T.node n = x at hrun
 obtain ⟨k, u, d, l0⟩ := x
 unfold ndV at hrun
 simp only [] at hrun
 have HS := qh (fun (W : World) (hb : Below w.heap.size w W) => (h.below hb).store n hn ⟨k, u, d, l⟩ v (hv.below hb) hc)
 have HN := qh hN
 have C0 := qh (fun (W : World) (hb : Below w.heap.size w W) => (h.below hb).cell0)
 obtain ⟨As, cs, rfl, -, -⟩ := hs
 obtain ⟨Av, cv, rfl, -, -⟩ := hv
 clear h hN hx hc
 go_enter Tryz.func101, Tryz.ntmps101
 go_wp2
 have hb0 := (Below.refl w.heap.size w).alloc (Nat.le_refl _) (.cells #[.int .i64 k, .int .i64 u, .string d, .slice Av l.length cv] 153)
 generalize hW : w.alloc (.cells #[.int .i64 k, .int .i64 u, .string d, .slice Av l.length cv] 153) = W0 at hb0 ⊢
 have hb1 : Below w.heap.size w W0.drew := hb0.drew
 obtain ⟨w', hup, hT', hF'⟩ := HS.out W0.drew hb1
 unfold ndV at hup
 simp only [] at hup
 have d0 : W0.drew.cell? ⟨p, 0, none⟩ = some (.map (some B)) := C0.out _ hb1
 have hbx : W0.drew.heap[w.heap.size]? = some (.cells #[.int .i64 k, .int .i64 u, .string d, .slice Av l.length cv] 153 (0, 0)) := by rw [← hW]; exact heap_alloc_new w _
 have x0 : W0.drew.cell? ⟨w.heap.size, 0, none⟩ = some (.int .i64 k) := by rw [blk_cell hbx]; rfl
 have x1 : W0.drew.cell? ⟨w.heap.size, 1, none⟩ = some (.int .i64 u) := by rw [blk_cell hbx]; rfl
 have x2 : W0.drew.cell? ⟨w.heap.size, 2, none⟩ = some (.string d) := by rw [blk_cell hbx]; rfl
 have x3 : W0.drew.cell? ⟨w.heap.size, 3, none⟩ = some (.slice Av l.length cv) := by rw [blk_cell hbx]; rfl
 have HTT := qh hT'
 have HFF := qh ((Frm.ofBelow hb1 (p := p) (B := B)).trans hF')
 clear hW hbx hT' hF'
 go_region
 refine bodyPost_end (v := .tuple #[]) (by simp [results, Tryz.results101, go_sem]) rfl ?_
 refine ⟨rfl, ?_, HFF.out⟩
 rw [Tr.enter, HN.out]
 exact HTT.out
def dirE (k : Int) : Int := if k = 0 then 5 else if k = 1 then 0 else 7
theorem dir_calls (p : Nat) (T : Tr) (n : Int) (w : World) (h : TreeAt w p T) (hn : wf n) :
  Calls Tryz.prog 97 #[pT p, .int .i64 n] w fun e w' => e = .returned (.int .i64 (dirE (T.node n).kind)) ∧ Below w.heap.size w w' := by
 have HK := qh (fun W h => kind_calls p T n W h hn)
 have HT := qh h
 clear h
 generalize (T.node n).kind = k at HK ⊢
 unfold dirE
 by_cases h0 : k = 0
 ·
  subst h0
  rw [if_pos rfl]
  go_enter Tryz.func97, Tryz.ntmps97
  go_wp2_with (first | (go_at_call 69; refine (HK.out _ HT.out).mono ?_; rintro e w2 ⟨rfl, hb2⟩))
  go_ret
  exact ⟨rfl, hb2⟩
 ·
  rw [if_neg h0]
  by_cases h1 : k = 1
  ·
   subst h1
   rw [if_pos rfl]
   go_enter Tryz.func97, Tryz.ntmps97
   go_upto_region 5 with (first | (go_at_call 69; refine (HK.out _ HT.out).mono ?_; rintro e w2 ⟨rfl, hb2⟩))
   have HT2 := qh (HT.out.below hb2)
   go_wp2_with (first | (go_at_call 69; refine (HK.out _ HT2.out).mono ?_; rintro e w3 ⟨rfl, hb3⟩))
   go_ret
   exact ⟨rfl, hb2.trans (hb3.mono hb2.size)⟩
  ·
   rw [if_neg h1]
   go_enter Tryz.func97, Tryz.ntmps97
   go_upto_region 5 with (first | (go_at_call 69; refine (HK.out _ HT.out).mono ?_; rintro e w2 ⟨rfl, hb2⟩))
   have HT2 := qh (HT.out.below hb2)
   go_wp2_with (first | (go_at_call 69; refine (HK.out _ HT2.out).mono ?_; rintro e w3 ⟨rfl, hb3⟩))
   go_ret
   exact ⟨rfl, hb2.trans (hb3.mono hb2.size)⟩
theorem has_calls (p : Nat) (T : Tr) (n : Int) (s : ByteArray) (w : World) (h : TreeAt w p T) (hn : wf n) (hl : (T.node n).ents.length < 4294967296) (hR : Rt (T.node n).ents) :
  Calls Tryz.prog 99 #[pT p, .int .i64 n, .string s] w fun e w' => e = .returned (.bool (findE (T.node n).ents s).2) ∧ Below w.heap.size w w' := by
 obtain ⟨B, sv, D, h⟩ := h
 obtain ⟨v, hv, hrun⟩ := h.look n hn
 have hrun := hrun w (Below.refl _ _)
 have c0 := h.cell0
 obtain ⟨A, c, rfl, hle, hC⟩ := hv
 have HF := qh (fun W hW => find_calls A c (T.node n).ents s W hW hle hl hR)
 have HC := qh hC
 clear h hC hle hl hR
 generalize T.node n = x at *
 obtain ⟨k, u, d, l⟩ := x
 unfold ndV at hrun
 simp only [] at hrun HF HC ⊢
 go_enter Tryz.func99, Tryz.ntmps99
 go_wp2_with (first | (go_at_call 94; refine (HF.out _ HC.out).mono ?_; rintro e w2 ⟨rfl, hb2⟩))
 go_ret
 exact ⟨rfl, hb2⟩
def T0 : Tr := ⟨fun n => if n = 1 then some ⟨1, 1, ⟨#[]⟩, []⟩ else none, 1, 1⟩
theorem new_calls (w : World) :
  Calls Tryz.prog 54 #[] w fun e w' => ∃ p B, e = .returned (pT p) ∧ TreeB w' p B T0 ∧ Below w.heap.size w w' ∧ w.heap.size ≤ p ∧ w.heap.size ≤ B := by
 have hown := World.ownsMap_made w Tryz.prog 3 vE
 have hb1 := (Below.refl w.heap.size w).alloc (Nat.le_refl _) (.map #[] 0)
 have hkey : keyOf Tryz.prog 3 (.int .i64 1) = some (.int .i64 1) := Maps.keyOf_int_mk Tryz.underlying3 (by decide)
 have hkl : WideAt.IsKeyLit (.int .i64 1) := by simp [WideAt.IsKeyLit]
 obtain ⟨w2, hup, hown2, hturn⟩ := hown.store keyed Tryz.underlying154 (by unfold maxLen; omega) hkey (val := ndV ⟨1, 1, ⟨#[]⟩, []⟩ (.slice none 0 0)) (d := .held (ndV ⟨1, 1, ⟨#[]⟩, []⟩ (.slice none 0 0))) (ps := []) rfl
 have hg := hturn.grown
 have hb2 : Below w.heap.size w w2 := hb1.trans ⟨hg.os, hg.tape, hg.output, hg.size, fun k hk => hg.block k (by simp; omega) (fun e => by injection e with e; omega)⟩
 have FIN : TreeB (w2.alloc (.cells #[.map (some w.heap.size), .int .i64 1] 156)) w2.heap.size w.heap.size T0 := by
  refine ⟨fun _ => .slice none 0 0, _, ⟨heap_alloc_new w2 _, (ownsMap_fit hown2).alloc _, ?_, fun n hn => ?_, fun n z hn => ?_, fun n x hn hx => ?_⟩⟩
  · rw [Maps.size_put Maps.tidy_empty]; rfl
  ·
   by_cases e : n = 1
   ·
    subst e
    rw [Maps.has_put_same Maps.isMap_empty hkl]; rfl
   ·
    rw [Maps.has_put_other (by intro e2; injection e2 with _ e2; exact e e2)]
    simp [T0, e, Maps.has]
  ·
   by_cases e : n = 1
   ·
    subst e
    rw [Maps.atKey_put_same Maps.isMap_empty hkl]; rfl
   ·
    rw [Maps.atKey_put_other (by intro e2; injection e2 with _ e2; exact e e2)]
    rw [Maps.atKey_of_not_has (by simp [Maps.has])]
    simp [T0, e]
  ·
   by_cases e : n = 1
   ·
    subst e
    simp [T0] at hx
    subst hx
    exact ⟨none, 0, rfl, Nat.le_refl _, Kd.C_nil _ _⟩
   · simp [T0, e] at hx
 have HF := qh (And.intro FIN (And.intro (hb2.alloc hb2.size (.cells #[.map (some w.heap.size), .int .i64 1] 156)) hb2.size))
 clear FIN hown hown2 hb1 hb2 hkey hkl hturn hg
 unfold ndV at hup
 simp only [] at hup
 have hmk : (Instr.makeMap 154 none).run Tryz.prog w = .ok (.map (some w.heap.size)) (w.alloc (.map #[] 0)) := rfl
 go_enter Tryz.func54, Tryz.ntmps54
 go_wp2
 go_ret
 exact ⟨_, _, rfl, HF.out.1, HF.out.2.1, HF.out.2.2, Nat.le_refl _⟩
def mayE (kind : Int) (data : ByteArray) : Int :=
 if kind < 1 ∨ kind > 3 then 2 else if (kind = 1 ∧ data.size ≠ 0) ∨ (kind = 3 ∧ data.size = 0) then 3 else if data.size > 65536 then 4 else 0
theorem may_f (kind : Int) (data : ByteArray) : tree_may.f 5 kind data = some (mayE kind data) := by
 have hz : (data.toList = ([] : List UInt8)) ↔ data.size = 0 := by
  rw [toL]
  constructor
  ·
   intro h
   have := congrArg List.length h
   exact this
  ·
   intro h
   exact List.eq_nil_of_length_eq_zero h
 have hb : ∀ q : Bool, (data.toList == ([] : List UInt8)) = q → decide (data.size = 0) = q := by
  intro q h
  rw [← h]
  by_cases e : data.size = 0
  · rw [hz.2 e, decide_eq_true e]; rfl
  ·
   rw [decide_eq_false e]
   symm
   rw [beq_eq_false_iff_ne]
   exact fun h => e (hz.1 h)
 have hb := hb _ rfl
 unfold mayE tree_may.f
 by_cases a1 : kind < 1
 · rw [if_pos a1, if_pos (.inl a1)]; rfl
 ·
  rw [if_neg a1]
  by_cases a2 : kind > 3
  · rw [decide_eq_true a2, if_pos (.inr a2)]; rfl
  ·
   rw [decide_eq_false a2, if_neg (show ¬ (kind < 1 ∨ kind > 3) by omega), show tree_may.j0 5 kind data false = (if kind = 1 then tree_may.j1 4 kind data (data.toList != ([] : List UInt8)) else tree_may.j1 4 kind data false) from rfl]
   by_cases a3 : kind = 1
   ·
    rw [if_pos a3]
    by_cases e : data.size = 0
    ·
     rw [decide_eq_true e] at hb
     rw [bne, ← hb, if_neg (show ¬ ((kind = 1 ∧ data.size ≠ 0) ∨ (kind = 3 ∧ data.size = 0)) by omega), show tree_may.j1 4 kind data (!true) = (if kind = 3 then tree_may.j2 3 data (data.toList == ([] : List UInt8)) else tree_may.j2 3 data false) from rfl, if_neg (by omega),
      show tree_may.j2 3 data false = (if (data.size : Int) > 65536 then some 4 else some 0) from rfl, if_neg (by omega), if_neg (by omega)]
    ·
     rw [decide_eq_false e] at hb
     rw [bne, ← hb, if_pos (.inl ⟨a3, e⟩)]; rfl
   ·
    rw [if_neg a3]
    rw [show tree_may.j1 4 kind data false = (if kind = 3 then tree_may.j2 3 data (data.toList == ([] : List UInt8)) else tree_may.j2 3 data false) from rfl]
    by_cases a4 : kind = 3
    ·
     rw [if_pos a4]
     by_cases e : data.size = 0
     ·
      rw [decide_eq_true e] at hb
      rw [← hb, if_pos (.inr ⟨a4, e⟩)]; rfl
     ·
      rw [decide_eq_false e] at hb
      rw [← hb, if_neg (show ¬ ((kind = 1 ∧ data.size ≠ 0) ∨ (kind = 3 ∧ data.size = 0)) by omega), show tree_may.j2 3 data false = (if (data.size : Int) > 65536 then some 4 else some 0) from rfl]
      by_cases f : data.size > 65536
      · rw [if_pos f, if_pos (by omega)]
      · rw [if_neg f, if_neg (by omega)]
    ·
     rw [if_neg a4, if_neg (show ¬ ((kind = 1 ∧ data.size ≠ 0) ∨ (kind = 3 ∧ data.size = 0)) by omega), show tree_may.j2 3 data false = (if (data.size : Int) > 65536 then some 4 else some 0) from rfl]
     by_cases f : data.size > 65536
     · rw [if_pos f, if_pos (by omega)]
     · rw [if_neg f, if_neg (by omega)]
def putE (T : Tr) (dir : Int) (s : ByteArray) (kind : Int) (data : ByteArray) : Int :=
 if dirE (T.node dir).kind ≠ 0 then dirE (T.node dir).kind else if Sp.check s.data.toList ≠ 0 then Sp.check s.data.toList else
  if (findE (T.node dir).ents s).2 = true then 6 else if mayE kind data ≠ 0 then mayE kind data else if 4096 ≤ T.cnt then 12 else 0
def putT (T : Tr) (dir : Int) (s : ByteArray) (kind : Int) (data : ByteArray) : Tr :=
 ((T.bump.set (T.last + 1) ⟨kind, dir, data, []⟩).enter dir (insE (T.node dir).ents ⟨s, T.last + 1⟩))
theorem TreeB.cell0 {w : World} {p B : Nat} {T : Tr} (h : TreeB w p B T) : w.cell? ⟨p, 0, none⟩ = some (.map (some B)) := by obtain ⟨_, _, h⟩ := h; exact h.cell0
theorem TreeB.cell1 {w : World} {p B : Nat} {T : Tr} (h : TreeB w p B T) : w.cell? ⟨p, 1, none⟩ = some (.int .i64 T.last) := by obtain ⟨_, _, h⟩ := h; exact h.cell1
theorem TreeB.frozen {w : World} {p B : Nat} {T : Tr} (h : TreeB w p B T) : w.frozen? ⟨p, 1, none⟩ = false := by obtain ⟨_, _, h⟩ := h; exact blk_frozen h.ptr 1
theorem TreeB.lt {w : World} {p B : Nat} {T : Tr} (h : TreeB w p B T) : p < w.heap.size := h.at_.lt
theorem TreeB.len_run {w : World} {p B : Nat} {T : Tr} (h : TreeB w p B T) (ty : TypeId) : (Builtin.len_ #[154] ty #[.map (some B)]).run Tryz.prog w = .ok (.int .i64 (T.cnt : Int)) w := by
 obtain ⟨sv, D, h⟩ := h
 rw [← h.cnt]
 exact h.map.len Tryz.underlying154 ty
theorem put_err (p B : Nat) (T : Tr) (dir : Int) (s : ByteArray) (kind : Int) (data : ByteArray) (w : World) (h : TreeB w p B T) (hn : wf dir) (hl : (T.node dir).ents.length < 4294967296) (hR : Rt (T.node dir).ents) (hs : s.size < 4294967281) (he : putE T dir s kind data ≠ 0) :
  Calls Tryz.prog 56 #[pT p, .int .i64 dir, .string s, .int .i64 kind, .string data] w fun e w' => e = .returned (.tuple #[.int .i64 0, .int .i64 (putE T dir s kind data)]) ∧ Below w.heap.size w w' := by
 have HD := qh (fun W h => dir_calls p T dir W h hn)
 have HC := qh (fun W => name_Check.calls s (Sp.check s.data.toList) W (by rw [name_Check.f, if_pos hs]))
 have HH := qh (fun W h => has_calls p T dir s W h hn hl hR)
 have HM := qh (fun W => tree_may.calls 5 kind data (mayE kind data) W (may_f kind data))
 have HT := qh h
 clear h hl hR hs
 unfold putE at he ⊢
 generalize dirE (T.node dir).kind = d at *
 generalize Sp.check s.data.toList = ck at *
 generalize (findE (T.node dir).ents s).2 = hb at *
 generalize mayE kind data = m at *
 by_cases h1 : d = 0
 ·
  subst h1
  rw [if_neg (by simp)] at he ⊢
  by_cases h2 : ck = 0
  ·
   subst h2
   rw [if_neg (by simp)] at he ⊢
   cases hb with
   | true =>
    rw [if_pos rfl]
    clear he
    go_enter Tryz.func56, Tryz.ntmps56
    go_wp2_with (first | (go_at_call 97; refine (HD.out _ HT.out.at_).mono ?_; rintro e w2 ⟨rfl, hb2⟩; have HT2 := qh (HT.out.below hb2)) | (go_at_call 98; refine (HC.out _).mono ?_; rintro e w3 ⟨rfl, hb3⟩; have HT3 := qh (HT2.out.below hb3)) | (go_at_call 99; refine (HH.out _ HT3.out.at_).mono ?_; rintro e w4 ⟨rfl, hb4⟩; have HT4 := qh (HT3.out.below hb4)) | (go_at_call 100; refine (HM.out _).mono ?_; rintro e w5 ⟨rfl, hd5⟩; have hb5 := hd5.below; have HT5 := qh (HT4.out.below hb5); have c5 := HT5.out.cell0; have l5 := HT5.out.len_run 3; have d5 := HT5.out.cell1; have z5 := HT5.out.frozen))
    go_ret2
    exact ⟨rfl, hb2.trans ((hb3.mono hb2.size).trans (hb4.mono (Nat.le_trans hb2.size hb3.size)))⟩
   | false =>
    rw [if_neg (by simp)] at he ⊢
    by_cases h3 : m = 0
    ·
     subst h3
     rw [if_neg (by simp)] at he ⊢
     by_cases h4 : 4096 ≤ T.cnt
     ·
      rw [if_pos h4]
      clear he
      have h4' : (4096 : Int) ≤ (T.cnt : Int) := by omega
      go_enter Tryz.func56, Tryz.ntmps56
      go_wp2_with (first | (go_at_call 97; refine (HD.out _ HT.out.at_).mono ?_; rintro e w2 ⟨rfl, hb2⟩; have HT2 := qh (HT.out.below hb2)) | (go_at_call 98; refine (HC.out _).mono ?_; rintro e w3 ⟨rfl, hb3⟩; have HT3 := qh (HT2.out.below hb3)) | (go_at_call 99; refine (HH.out _ HT3.out.at_).mono ?_; rintro e w4 ⟨rfl, hb4⟩; have HT4 := qh (HT3.out.below hb4)) | (go_at_call 100; refine (HM.out _).mono ?_; rintro e w5 ⟨rfl, hd5⟩; have hb5 := hd5.below; have HT5 := qh (HT4.out.below hb5); have c5 := HT5.out.cell0; have l5 := HT5.out.len_run 3; have d5 := HT5.out.cell1; have z5 := HT5.out.frozen))
      go_ret2
      exact ⟨rfl, (hb2.trans ((hb3.mono hb2.size).trans (hb4.mono (Nat.le_trans hb2.size hb3.size)))).trans (hb5.mono (Nat.le_trans hb2.size (Nat.le_trans hb3.size hb4.size)))⟩
     ·
      rw [if_neg h4] at he
      exact absurd rfl he
    ·
     rw [if_pos h3]
     clear he
     go_enter Tryz.func56, Tryz.ntmps56
     go_wp2_with (first | (go_at_call 97; refine (HD.out _ HT.out.at_).mono ?_; rintro e w2 ⟨rfl, hb2⟩; have HT2 := qh (HT.out.below hb2)) | (go_at_call 98; refine (HC.out _).mono ?_; rintro e w3 ⟨rfl, hb3⟩; have HT3 := qh (HT2.out.below hb3)) | (go_at_call 99; refine (HH.out _ HT3.out.at_).mono ?_; rintro e w4 ⟨rfl, hb4⟩; have HT4 := qh (HT3.out.below hb4)) | (go_at_call 100; refine (HM.out _).mono ?_; rintro e w5 ⟨rfl, hd5⟩; have hb5 := hd5.below; have HT5 := qh (HT4.out.below hb5); have c5 := HT5.out.cell0; have l5 := HT5.out.len_run 3; have d5 := HT5.out.cell1; have z5 := HT5.out.frozen))
     go_ret2
     exact ⟨rfl, (hb2.trans ((hb3.mono hb2.size).trans (hb4.mono (Nat.le_trans hb2.size hb3.size)))).trans (hb5.mono (Nat.le_trans hb2.size (Nat.le_trans hb3.size hb4.size)))⟩
  ·
   rw [if_pos h2]
   clear he
   go_enter Tryz.func56, Tryz.ntmps56
   go_wp2_with (first | (go_at_call 97; refine (HD.out _ HT.out.at_).mono ?_; rintro e w2 ⟨rfl, hb2⟩; have HT2 := qh (HT.out.below hb2)) | (go_at_call 98; refine (HC.out _).mono ?_; rintro e w3 ⟨rfl, hb3⟩; have HT3 := qh (HT2.out.below hb3)) | (go_at_call 99; refine (HH.out _ HT3.out.at_).mono ?_; rintro e w4 ⟨rfl, hb4⟩; have HT4 := qh (HT3.out.below hb4)) | (go_at_call 100; refine (HM.out _).mono ?_; rintro e w5 ⟨rfl, hd5⟩; have hb5 := hd5.below; have HT5 := qh (HT4.out.below hb5); have c5 := HT5.out.cell0; have l5 := HT5.out.len_run 3; have d5 := HT5.out.cell1; have z5 := HT5.out.frozen))
   go_ret2
   exact ⟨rfl, hb2.trans (hb3.mono hb2.size)⟩
 ·
  rw [if_pos h1]
  clear he
  go_enter Tryz.func56, Tryz.ntmps56
  go_wp2_with (first | (go_at_call 97; refine (HD.out _ HT.out.at_).mono ?_; rintro e w2 ⟨rfl, hb2⟩; have HT2 := qh (HT.out.below hb2)) | (go_at_call 98; refine (HC.out _).mono ?_; rintro e w3 ⟨rfl, hb3⟩; have HT3 := qh (HT2.out.below hb3)) | (go_at_call 99; refine (HH.out _ HT3.out.at_).mono ?_; rintro e w4 ⟨rfl, hb4⟩; have HT4 := qh (HT3.out.below hb4)) | (go_at_call 100; refine (HM.out _).mono ?_; rintro e w5 ⟨rfl, hd5⟩; have hb5 := hd5.below; have HT5 := qh (HT4.out.below hb5); have c5 := HT5.out.cell0; have l5 := HT5.out.len_run 3; have d5 := HT5.out.cell1; have z5 := HT5.out.frozen))
  go_ret2
  exact ⟨rfl, hb2⟩
theorem OwnE.entsAt {w : World} {base : Nat} {v : Value} {l : List En} (h : OwnE w base v l) : EntsAt w v l := by
 obtain ⟨A, c, e, hle, hC⟩ := Kd.R_reads h.toR
 exact ⟨A, c, e, hle, hC⟩
theorem putE_zero {T : Tr} {dir : Int} {s : ByteArray} {kind : Int} {data : ByteArray} (h : putE T dir s kind data = 0) :
  dirE (T.node dir).kind = 0 ∧ Sp.check s.data.toList = 0 ∧ (findE (T.node dir).ents s).2 = false ∧ mayE kind data = 0 ∧ T.cnt < 4096 := by
 unfold putE at h
 split at h
 · rename_i g; exact absurd h g
 ·
  rename_i g1
  split at h
  · rename_i g; exact absurd h g
  ·
   rename_i g2
   split at h
   · cases h
   ·
    rename_i g3
    split at h
    · rename_i g; exact absurd h g
    ·
     rename_i g4
     split at h
     · cases h
     ·
      rename_i g5
      exact ⟨Decidable.byContradiction fun e => g1 e, Decidable.byContradiction fun e => g2 e, by simpa using g3, Decidable.byContradiction fun e => g4 e, by omega⟩
theorem dirE_zero {k : Int} (h : dirE k = 0) : k = 1 := by
 unfold dirE at h
 split at h
 · cases h
 ·
  split at h
  · assumption
  · cases h
theorem wf_of {n : Int} (h : 0 ≤ n ∧ n ≤ 1000000) : wf n := by unfold wf; simp only [Lit.wf, Bool.and_eq_true, decide_eq_true_eq]; obtain ⟨a, b⟩ := h; exact ⟨Int.le_trans (by decide) a, Int.le_trans b (by decide)⟩
theorem TreeB.bump {w : World} {p B : Nat} {T : Tr} (h : TreeB w p B T) : TreeB (w.setCell ⟨p, 1, none⟩ (.int .i64 (T.last + 1))) p B T.bump ∧ Frm w (w.setCell ⟨p, 1, none⟩ (.int .i64 (T.last + 1))) p B := by
 obtain ⟨sv, D, h⟩ := h
 exact h.bump
theorem TreeB.drew {w : World} {p B : Nat} {T : Tr} (h : TreeB w p B T) : TreeB w.drew p B T := h.below (below_drew (Below.refl _ _))
theorem set_cnt_lt {T : Tr} {n : Int} {x : Nd} (h : T.cnt < 4096) : (T.bump.set n x).cnt < 1000000 := by
 have h1 : T.cnt < 1000000 := by omega
 have h2 : T.cnt + 1 < 1000000 := by omega
 show (if _ then T.cnt else T.cnt + 1) < 1000000
 split
 · exact h1
 · exact h2
theorem node_set_ne {T : Tr} {n m : Int} {x : Nd} (h : m ≠ n) : (T.set n x).node m = T.node m := by simp [Tr.node, Tr.set, h]
theorem put_ok (p B : Nat) (T : Tr) (dir : Int) (s : ByteArray) (kind : Int) (data : ByteArray) (w : World) (h : TreeB w p B T) (hn : wf dir) (hl : (T.node dir).ents.length < 4294967296) (hR : Rt (T.node dir).ents) (hs : s.size < 4294967281)
  (hla : 0 ≤ T.last ∧ T.last < 1000000) (hfr : T.get (T.last + 1) = none) (he : putE T dir s kind data = 0) :
  Calls Tryz.prog 56 #[pT p, .int .i64 dir, .string s, .int .i64 kind, .string data] w fun e w' => e = .returned (.tuple #[.int .i64 (T.last + 1), .int .i64 0]) ∧ TreeB w' p B (putT T dir s kind data) ∧ Frm w w' p B := by
 have HD := qh (fun W h => dir_calls p T dir W h hn)
 have HC := qh (fun W => name_Check.calls s (Sp.check s.data.toList) W (by rw [name_Check.f, if_pos hs]))
 have HH := qh (fun W h => has_calls p T dir s W h hn hl hR)
 have HM := qh (fun W => tree_may.calls 5 kind data (mayE kind data) W (may_f kind data))
 have HT := qh h
 obtain ⟨q1, q2, q3, q4, q5⟩ := putE_zero he
 have hdl : dir ≠ T.last + 1 := by
  intro e
  have k1 := dirE_zero q1
  rw [e, Tr.node, hfr] at k1
  cases k1
 have HSET := qh (fun (W : World) (h : TreeB W p B T.bump) => by
  obtain ⟨sv, D, h⟩ := h
  exact h.store (T.last + 1) (wf_of (by obtain ⟨a, b⟩ := hla; omega)) ⟨kind, dir, data, []⟩ (.slice none 0 0) (entsNil W) (by show T.cnt < _; omega))
 have hnode : (T.bump.set (T.last + 1) ⟨kind, dir, data, []⟩).node dir = T.node dir := node_set_ne hdl
 have HLOOK := qh (fun (W : World) (h : TreeB W p B (T.bump.set (T.last + 1) ⟨kind, dir, data, []⟩)) => by
  obtain ⟨sv, D, h⟩ := h
  have := h.look dir hn
  rw [hnode] at this
  exact this)
 have HPUT := qh (fun A c W hC hle => entsPut_calls A c (T.node dir).ents ⟨s, T.last + 1⟩ W hC hle hl hR q3)
 have HENT := qh (fun v W h hv => enter_calls p B (T.bump.set (T.last + 1) ⟨kind, dir, data, []⟩) dir v (insE (T.node dir).ents ⟨s, T.last + 1⟩) W h hn hv (set_cnt_lt q5))
 have hw1 : IntKind.i64.wrap (T.last + 1) = T.last + 1 := by obtain ⟨a, b⟩ := hla; rw [IntKind.wrap_i64]; omega
 have h4' : ¬ ((4096 : Int) ≤ (T.cnt : Int)) := by omega
 rw [q1] at HD
 rw [q2] at HC
 rw [q3] at HH
 rw [q4] at HM
 clear h hl hR hs q1 q2 q3 q4 q5 he hfr hdl hnode hla
 generalize hes : (T.node dir).ents = es at *
 have HES := qh hes
 clear hes
 go_enter Tryz.func56, Tryz.ntmps56
 go_wp2_with (first | (go_at_call 97; refine (HD.out _ HT.out.at_).mono ?_; rintro e w2 ⟨rfl, hb2⟩; have HT2 := qh (HT.out.below hb2)) | (go_at_call 98; refine (HC.out _).mono ?_; rintro e w3 ⟨rfl, hb3⟩; have HT3 := qh (HT2.out.below hb3)) | (go_at_call 99; refine (HH.out _ HT3.out.at_).mono ?_; rintro e w4 ⟨rfl, hb4⟩; have HT4 := qh (HT3.out.below hb4)) | (go_at_call 100; refine (HM.out _).mono ?_; rintro e w5 ⟨rfl, hd5⟩; have hb5 := hd5.below; have HT5 := qh (HT4.out.below hb5); have c5 := HT5.out.cell0; have l5 := HT5.out.len_run 3; have d5 := HT5.out.cell1; have z5 := HT5.out.frozen))
 have HB5 := qa (hb2.trans ((hb3.mono hb2.size).trans ((hb4.mono (Nat.le_trans hb2.size hb3.size)).trans (hb5.mono (Nat.le_trans hb2.size (Nat.le_trans hb3.size hb4.size))))))
 obtain ⟨hT6, hF6⟩ := HT5.out.bump
 clear hb2 hb3 hb4 hb5 HT HT2 HT3 HT4 HD HC HH HM c5 l5 d5 hd5 z5
 generalize w5.setCell ⟨p, 1, none⟩ (.int .i64 (T.last + 1)) = w6 at hT6 hF6 ⊢
 obtain ⟨w7, hup, hT7, hF7⟩ := HSET.out w6.drew hT6.drew
 unfold ndV at hup
 simp only [] at hup
 have c6 := hT6.drew.cell0
 have d6 : w6.drew.cell? ⟨p, 1, none⟩ = some (.int .i64 (T.last + 1)) := hT6.drew.cell1
 have HT7 := qa hT7
 have HF7 := qa ((hF6.trans (Frm.ofBelow (below_drew (Below.refl _ _)))).trans hF7)
 clear hT7 hF7 hF6 hT6 HT5
 go_region
 clear hup c6 d6
 obtain ⟨v7, hv7, hrun⟩ := HLOOK.out w7 HT7.out
 have hrun := hrun w7.drew (below_drew (Below.refl _ _))
 obtain ⟨A7, m7, rfl, hle7, hC7⟩ := hv7
 have HC7 := qa (Kd.C_drew hC7)
 have HLE := qa hle7
 have c7 : w7.drew.cell? ⟨p, 0, none⟩ = some (.map (some B)) := HT7.out.drew.cell0
 have d7 : w7.drew.cell? ⟨p, 1, none⟩ = some (.int .i64 (T.last + 1)) := HT7.out.drew.cell1
 clear hC7 hle7
 generalize T.node dir = ndd at hrun
 obtain ⟨nk, nu, nd, nl⟩ := ndd
 unfold ndV at hrun
 simp only [] at hrun
 go_wp2
 go_region_law (first | (go_simp; go_at_call 102; refine (HPUT.out _ _ _ HC7.out HLE.out).mono ?_; rintro e w8 ⟨v8, rfl, ho8, hb8⟩; obtain ⟨A8, m8, rfl, hle8, hC8⟩ := Kd.R_reads ho8.toR; have hT8 := HT7.out.drew.below hb8; have HE8 := qa (OwnE.entsAt ho8); clear hC8) | (go_simp; go_at_call 101; refine (HENT.out _ _ hT8 HE8.out).mono ?_; rintro e w9 ⟨rfl, hT9, hF9⟩; have d9 := hT9.cell1))
 all_goals go_wp2
 all_goals go_ret2
 all_goals exact ⟨rfl, by unfold putT; rw [HES.out]; exact hT9, ((Frm.ofBelow HB5.out).trans HF7.out).trans (((Frm.ofBelow (below_drew (Below.refl _ _))).trans (Frm.ofBelow hb8)).trans hF9)⟩
def Tr.del (T : Tr) (n : Int) : Tr := ⟨fun m => if m = n then none else T.get m, if (T.get n).isSome then T.cnt - 1 else T.cnt, T.last⟩
theorem TreeIs.drop {w : World} {p : Nat} {T : Tr} {B : Nat} {sv : Int → Value} {D : DataW Value} (h : TreeIs w p T B sv D) (n : Int) (hn : wf n) :
  ∃ w', (∀ ty, (Builtin.delete_ #[154, 3] ty #[.map (some B), .int .i64 n]).run Tryz.prog w = .ok (.tuple #[]) w') ∧ TreeB w' p B (T.del n) ∧ Frm w w' p B := by
 have hkey : keyOf Tryz.prog 3 (.int .i64 n) = some (.int .i64 n) := Maps.keyOf_int_mk Tryz.underlying3 hn
 obtain ⟨es, clock, hb⟩ := h.mapB
 obtain ⟨w', hrun, hown, hturn⟩ := h.map.drop keyed Tryz.underlying154 hkey 0
 have hg := hturn.grown
 have hf : Frm w w' p B := ⟨hg.os, hg.tape, hg.output, hg.size, fun k hk _ h2 => hg.block k hk (fun e => h2 (Option.some.inj e))⟩
 have hsz : Maps.size (D.del (.int .i64 n)) = (T.del n).cnt := by
  have h1 := Maps.size_del (k := .int .i64 n) (h.map.tidy keyed)
  rw [h.has n hn, h.cnt] at h1
  show _ = if (T.get n).isSome then T.cnt - 1 else T.cnt
  split at h1 <;> rename_i hs <;> simp only [hs] <;> simp <;> omega
 refine ⟨w', fun ty => hrun, ⟨sv, _, ⟨(hg.block p (blk_lt h.ptr) (fun e => h.ne (Option.some.inj e))).trans h.ptr, ownsMap_fit hown, hsz, fun m hm => ?_, fun m z hm => ?_, fun m y hm hy => ?_⟩⟩, hf⟩
 ·
  by_cases e : m = n
  ·
   subst e
   rw [Maps.has_del_same]
   simp [Tr.del]
  ·
   rw [Maps.has_del_other (by intro e2; injection e2 with _ e2; exact e e2), h.has m hm]
   simp [Tr.del, e]
 ·
  by_cases e : m = n
  ·
   subst e
   rw [Maps.atKey_del_same]
   simp [Tr.del]
  ·
   rw [Maps.atKey_del_other (by intro e2; injection e2 with _ e2; exact e e2), h.at_ m z hm]
   simp [Tr.del, e]
 ·
  by_cases e : m = n
  ·
   subst e
   simp [Tr.del] at hy
  ·
   simp [Tr.del, e] at hy
   exact EntsAt.frm (h.ents m y hm hy) h.ptr hb hf
theorem TreeB.look {w : World} {p B : Nat} {T : Tr} (h : TreeB w p B T) (n : Int) (hn : wf n) :
  ∃ A c, (T.node n).ents.length ≤ c ∧ Kd.C k162 w A (T.node n).ents.length (T.node n).ents ∧ ∀ w', Below w.heap.size w w' → (Instr.lookup 154 (.map (some B)) (.int .i64 n) false).run Tryz.prog w' = .ok (.agg #[.int .i64 (T.node n).kind, .int .i64 (T.node n).up, .string (T.node n).data, .slice A (T.node n).ents.length c]) w' := by
 obtain ⟨sv, D, h⟩ := h
 obtain ⟨s, ⟨A, c, rfl, hle, hC⟩, hrun⟩ := h.look n hn
 exact ⟨A, c, hle, hC, hrun⟩
theorem TreeB.drop {w : World} {p B : Nat} {T : Tr} (h : TreeB w p B T) (n : Int) (hn : wf n) :
  ∃ w', (∀ ty, (Builtin.delete_ #[154, 3] ty #[.map (some B), .int .i64 n]).run Tryz.prog w = .ok (.tuple #[]) w') ∧ TreeB w' p B (T.del n) ∧ Frm w w' p B := by
 obtain ⟨sv, D, h⟩ := h
 exact h.drop n hn
theorem TreeB.store {w : World} {p B : Nat} {T : Tr} (h : TreeB w p B T) (n : Int) (hn : wf n) (x : Nd) (s : Value) (hs : EntsAt w s x.ents) (hc : T.cnt < 1000000) :
  ∃ w', (Instr.mapUpdate 154 (.map (some B)) (.int .i64 n) (ndV x s)).run Tryz.prog w = .ok () w' ∧ TreeB w' p B (T.set n x) ∧ Frm w w' p B := by
 obtain ⟨sv, D, h⟩ := h
 exact h.store n hn x s hs hc
def cutE (T : Tr) (dir : Int) (s : ByteArray) : Int :=
 if dirE (T.node dir).kind ≠ 0 then dirE (T.node dir).kind else if (findE (T.node dir).ents s).2 = false then 5 else
  if 0 < (T.node (findE (T.node dir).ents s).1).ents.length then 9 else 0
def cutT (T : Tr) (dir : Int) (s : ByteArray) : Tr := (T.del (findE (T.node dir).ents s).1).enter dir (cutEn (T.node dir).ents s)
theorem cut_err (p B : Nat) (T : Tr) (dir : Int) (s : ByteArray) (w : World) (h : TreeB w p B T) (hn : wf dir) (hl : (T.node dir).ents.length < 4294967296) (hR : Rt (T.node dir).ents) (hwn : wf (findE (T.node dir).ents s).1) (he : cutE T dir s ≠ 0) :
  Calls Tryz.prog 146 #[pT p, .int .i64 dir, .string s] w fun e w' => e = .returned (.int .i64 (cutE T dir s)) ∧ Below w.heap.size w w' := by
 have HD := qh (fun W h => dir_calls p T dir W h hn)
 have HT := qh h
 have HLK := qh (fun W (h : TreeB W p B T) => h.look dir hn)
 have HLN := qh (fun W (h : TreeB W p B T) => h.look _ hwn)
 have HF := qh (fun W A c h hc => find_calls A c (T.node dir).ents s W h hc hl hR)
 clear h hl hR hn hwn
 unfold cutE at he ⊢
 generalize T.node (findE (T.node dir).ents s).1 = nn at *
 generalize hx : T.node dir = x at *
 obtain ⟨k, u, d, l⟩ := x
 simp only [] at *
 clear hx
 generalize findE l s = fe at *
 obtain ⟨n, fb⟩ := fe
 simp only [] at *
 by_cases h1 : dirE k = 0
 ·
  rw [h1] at HD
  rw [if_neg (by simpa using h1)] at he ⊢
  clear h1
  cases fb with
  | false =>
   rw [if_pos rfl]
   clear he HLN
   go_enter Tryz.func146, Tryz.ntmps146
   go_upto_region 4 with (go_at_call 97; refine (HD.out _ HT.out.at_).mono ?_; rintro e w2 ⟨rfl, hb2⟩)
   have HT2 := qh (HT.out.below hb2)
   have c2 := HT2.out.cell0
   obtain ⟨A2, m2, hle2, hC2, hrun⟩ := HLK.out _ HT2.out
   have hrun2 := hrun _ (Below.refl _ _)
   have HC2 := qh hC2
   clear hrun hC2
   go_wp2_with (go_at_call 94; refine (HF.out _ _ _ HC2.out hle2).mono ?_; rintro e w3 ⟨rfl, hb3⟩)
   go_ret
   exact ⟨rfl, hb2.trans (hb3.mono hb2.size)⟩
  | true =>
   rw [if_neg (by simp)] at he ⊢
   obtain ⟨kn, un, dn, ln⟩ := nn
   simp only [] at *
   by_cases h3 : 0 < ln.length
   ·
    rw [if_pos h3]
    clear he
    go_enter Tryz.func146, Tryz.ntmps146
    go_upto_region 4 with (go_at_call 97; refine (HD.out _ HT.out.at_).mono ?_; rintro e w2 ⟨rfl, hb2⟩)
    have HT2 := qh (HT.out.below hb2)
    have c2 := HT2.out.cell0
    obtain ⟨A2, m2, hle2, hC2, hrun⟩ := HLK.out _ HT2.out
    have hrun2 := hrun _ (Below.refl _ _)
    have HC2 := qh hC2
    clear hrun hC2
    go_upto_region 5 with (go_at_call 94; refine (HF.out _ _ _ HC2.out hle2).mono ?_; rintro e w3 ⟨rfl, hb3⟩)
    have HT3 := qh (HT2.out.below hb3)
    have c3 := HT3.out.cell0
    obtain ⟨A3, m3, hle3, hC3, hrun⟩ := HLN.out _ HT3.out
    have hrun3 := hrun _ (Below.refl _ _)
    have d3 : decide ((0 : Int) < (ln.length : Int)) = true := decide_eq_true (by omega)
    have d4 : decide (0 < ln.length) = true := decide_eq_true h3
    clear hrun hC3 hrun2 c2
    go_wp2
    go_ret
    exact ⟨rfl, hb2.trans (hb3.mono hb2.size)⟩
   ·
    rw [if_neg h3] at he
    exact absurd rfl he
 ·
  rw [if_pos (by simpa using h1)]
  clear he HLN HLK HF
  have b1 : (dirE k != 0) = true := bne_iff_ne.2 h1
  generalize dirE k = q at *
  go_enter Tryz.func146, Tryz.ntmps146
  go_wp2_with (go_at_call 97; refine (HD.out _ HT.out.at_).mono ?_; rintro e w2 ⟨rfl, hb2⟩)
  go_ret
  exact ⟨rfl, hb2⟩
theorem cutE_zero {T : Tr} {dir : Int} {s : ByteArray} (h : cutE T dir s = 0) : (T.node dir).kind = 1 ∧ (findE (T.node dir).ents s).2 = true ∧ (T.node (findE (T.node dir).ents s).1).ents = [] := by
 unfold cutE at h
 split at h
 · rename_i g; exact absurd h g
 ·
  rename_i g1
  split at h
  · cases h
  ·
   rename_i g2
   split at h
   · cases h
   ·
    rename_i g3
    exact ⟨dirE_zero (Decidable.byContradiction fun e => g1 e), by simpa using g2, List.eq_nil_of_length_eq_zero (by omega)⟩
theorem node_del_ne {T : Tr} {n m : Int} (h : m ≠ n) : (T.del n).node m = T.node m := by simp [Tr.node, Tr.del, h]
theorem del_cnt_lt {T : Tr} {n : Int} (h : T.cnt < 1000000) : (T.del n).cnt < 1000000 := by
 show (if (T.get n).isSome then T.cnt - 1 else T.cnt) < 1000000
 split
 · exact Nat.lt_of_le_of_lt (Nat.sub_le _ _) h
 · exact h
theorem cut_ok (p B : Nat) (T : Tr) (dir : Int) (s : ByteArray) (w : World) (h : TreeB w p B T) (hn : wf dir) (hl : (T.node dir).ents.length < 4294967296) (hR : Rt (T.node dir).ents) (hwn : wf (findE (T.node dir).ents s).1) (hcnt : T.cnt < 1000000) (he : cutE T dir s = 0) :
  Calls Tryz.prog 146 #[pT p, .int .i64 dir, .string s] w fun e w' => e = .returned (.int .i64 0) ∧ TreeB w' p B (cutT T dir s) ∧ Frm w w' p B := by
 obtain ⟨q1, q2, q3⟩ := cutE_zero he
 have hne : dir ≠ (findE (T.node dir).ents s).1 := by
  intro e
  rw [← e] at q3
  rw [q3] at q2
  cases q2
 have HD := qh (fun W h => dir_calls p T dir W h hn)
 rw [q1] at HD
 have HT := qh h
 have HLK := qh (fun W (h : TreeB W p B T) => h.look dir hn)
 have HLN := qh (fun W (h : TreeB W p B T) => h.look _ hwn)
 have HDEL := qh (fun W (h : TreeB W p B T) => h.drop _ hwn)
 have HLD := qh (fun W (h : TreeB W p B (T.del (findE (T.node dir).ents s).1)) => h.look dir hn)
 rw [node_del_ne hne] at HLD
 have HF := qh (fun W A c h hc => find_calls A c (T.node dir).ents s W h hc hl hR)
 rw [q2] at HF
 have HCU := qh (fun W A c h hc => entsCut_calls A c (T.node dir).ents s W h hc hl hR q2)
 have HENT := qh (fun v W h hv => enter_calls p B (T.del (findE (T.node dir).ents s).1) dir v (cutEn (T.node dir).ents s) W h hn hv (del_cnt_lt hcnt))
 have HCT := qh (show cutT T dir s = (T.del (findE (T.node dir).ents s).1).enter dir (cutEn (T.node dir).ents s) from rfl)
 clear h hl hR hn hwn he hcnt q1 q2 hne
 generalize (findE (T.node dir).ents s).1 = n at *
 generalize hx : T.node dir = x at *
 generalize hy : T.node n = y at *
 obtain ⟨k, u, d, l⟩ := x
 obtain ⟨kn, un, dn, ln⟩ := y
 simp only [] at *
 subst q3
 clear hx hy
 simp only [List.length_nil] at *
 go_enter Tryz.func146, Tryz.ntmps146
 go_upto_region 4 with (go_at_call 97; refine (HD.out _ HT.out.at_).mono ?_; rintro e w2 ⟨rfl, hb2⟩)
 have HT2 := qh (HT.out.below hb2)
 have c2 := HT2.out.cell0
 obtain ⟨A2, m2, hle2, hC2, hrun⟩ := HLK.out _ HT2.out
 have hrun2 := hrun _ (Below.refl _ _)
 have HC2 := qh hC2
 clear hrun hC2
 go_upto_region 5 with (go_at_call 94; refine (HF.out _ _ _ HC2.out hle2).mono ?_; rintro e w3 ⟨rfl, hb3⟩)
 have HT3 := qh (HT2.out.below hb3)
 have c3 := HT3.out.cell0
 obtain ⟨A3, m3, hle3, hC3, hrun⟩ := HLN.out _ HT3.out
 have hrun3 := hrun _ (Below.refl _ _)
 obtain ⟨w4, hdel, hT4, hF4⟩ := HDEL.out _ HT3.out
 have HT4 := qh hT4
 have HF4 := qh ((Frm.ofBelow (hb2.trans (hb3.mono hb2.size))).trans hF4)
 have c4 := HT4.out.cell0
 obtain ⟨A4, m4, hle4, hC4, hrun⟩ := HLD.out _ HT4.out
 have hrun4 := hrun _ (Below.refl _ _)
 have HC4 := qh hC4
 clear hrun hC3 hrun2 c2 hC4 hT4 hF4
 go_wp2_with (first | (go_at_call 149; refine (HCU.out _ _ _ HC4.out hle4).mono ?_; rintro e w5 ⟨v5, rfl, ho5, hb5⟩; have HT5 := qh (HT4.out.below hb5); have HE5 := qh (OwnE.entsAt ho5); clear ho5) | (go_at_call 101; refine (HENT.out _ _ HT5.out HE5.out).mono ?_; rintro e w6 ⟨rfl, hT6, hF6⟩))
 go_ret
 exact ⟨rfl, by rw [HCT.out]; exact hT6, (HF4.out.trans (Frm.ofBelow hb5)).trans hF6⟩
def setE (T : Tr) (n : Int) (data : ByteArray) : Int :=
 if (T.node n).kind = 0 then 5 else if (T.node n).kind = 1 then 8 else mayE (T.node n).kind data
def setT (T : Tr) (n : Int) (data : ByteArray) : Tr := T.set n { T.node n with data := data }
theorem set_err (p B : Nat) (T : Tr) (n : Int) (data : ByteArray) (w : World) (h : TreeB w p B T) (hn : wf n) (he : setE T n data ≠ 0) :
  Calls Tryz.prog 92 #[pT p, .int .i64 n, .string data] w fun e w' => e = .returned (.int .i64 (setE T n data)) ∧ Below w.heap.size w w' := by
 have HA := qh (fun W => at_calls p T n W)
 have HT := qh h
 have HN := qh hn
 clear h hn
 unfold setE at he ⊢
 generalize hx : T.node n = x at *
 obtain ⟨k, u, d, l⟩ := x
 clear hx
 unfold ndV at HA
 simp only [] at *
 have HM := qh (fun W => tree_may.calls 5 k data (mayE k data) W (may_f k data))
 by_cases h0 : k = 0
 ·
  subst h0
  rw [if_pos rfl]
  clear he
  go_enter Tryz.func92, Tryz.ntmps92
  go_wp2_with (go_at_call 116; refine (HA.out _ HT.out.at_ HN.out).mono ?_; rintro e w2 ⟨v2, rfl, ⟨A2, c2, rfl, hle2, hC2⟩, hb2⟩; clear hC2)
  go_ret
  exact ⟨rfl, hb2.alloc hb2.size _⟩
 ·
  rw [if_neg h0] at he ⊢
  have b0 : (k == 0) = false := beq_eq_false_iff_ne.2 h0
  by_cases h1 : k = 1
  ·
   subst h1
   rw [if_pos rfl]
   clear he
   go_enter Tryz.func92, Tryz.ntmps92
   go_wp2_with (go_at_call 116; refine (HA.out _ HT.out.at_ HN.out).mono ?_; rintro e w2 ⟨v2, rfl, ⟨A2, c2, rfl, hle2, hC2⟩, hb2⟩; clear hC2)
   go_ret
   exact ⟨rfl, hb2.alloc hb2.size _⟩
  ·
   rw [if_neg h1] at he ⊢
   have b1 : (k == 1) = false := beq_eq_false_iff_ne.2 h1
   have b2 : (mayE k data != 0) = true := bne_iff_ne.2 he
   generalize mayE k data = q at *
   clear he
   go_enter Tryz.func92, Tryz.ntmps92
   go_wp2_with (first | (go_at_call 116; refine (HA.out _ HT.out.at_ HN.out).mono ?_; rintro e w2 ⟨v2, rfl, ⟨A2, c2, rfl, hle2, hC2⟩, hb2⟩; clear hC2; have hb3 := hb2.alloc hb2.size (.cells #[.int .i64 k, .int .i64 u, .string d, .slice A2 l.length c2] 153)) | (go_at_call 100; refine (HM.out _).mono ?_; rintro e w5 ⟨rfl, hd5⟩; have hb5 := hd5.below))
   go_ret
   exact ⟨rfl, hb3.trans (hb5.mono hb3.size)⟩
theorem setE_zero {T : Tr} {n : Int} {data : ByteArray} (h : setE T n data = 0) : (T.node n).kind ≠ 0 ∧ (T.node n).kind ≠ 1 ∧ mayE (T.node n).kind data = 0 := by
 unfold setE at h
 split at h
 · cases h
 ·
  split at h
  · cases h
  · exact ⟨by assumption, by assumption, h⟩
theorem set_ok (p B : Nat) (T : Tr) (n : Int) (data : ByteArray) (w : World) (h : TreeB w p B T) (hn : wf n) (hcnt : T.cnt < 1000000) (he : setE T n data = 0) :
  Calls Tryz.prog 92 #[pT p, .int .i64 n, .string data] w fun e w' => e = .returned (.int .i64 0) ∧ TreeB w' p B (setT T n data) ∧ Frm w w' p B := by
 obtain ⟨q1, q2, q3⟩ := setE_zero he
 have HA := qh (fun W => at_calls p T n W)
 have HT := qh h
 have HN := qh hn
 have HST := qh (fun W s (h : TreeB W p B T) (hs : EntsAt W s (T.node n).ents) => h.store n hn { T.node n with data := data } s hs hcnt)
 have HM := qh (fun W => tree_may.calls 5 (T.node n).kind data _ W (may_f (T.node n).kind data))
 have HCT := qh (show setT T n data = T.set n { T.node n with data := data } from rfl)
 rw [q3] at HM
 clear h hn he q3 hcnt
 generalize hx : T.node n = x at *
 obtain ⟨k, u, d, l⟩ := x
 clear hx
 unfold ndV at HA HST
 simp only [] at *
 have b0 : (k == 0) = false := beq_eq_false_iff_ne.2 q1
 have b1 : (k == 1) = false := beq_eq_false_iff_ne.2 q2
 clear q1 q2
 go_enter Tryz.func92, Tryz.ntmps92
 go_upto_region 2 with (go_at_call 116; refine (HA.out _ HT.out.at_ HN.out).mono ?_; rintro e w2 ⟨v2, rfl, ⟨A2, c2, rfl, hle2, hC2⟩, hb2⟩; have HE2 := qh (show EntsAt w2 (.slice A2 l.length c2) l from ⟨A2, c2, rfl, hle2, hC2⟩); clear hC2)
 have h3 := heap_alloc_new w2 (.cells #[.int .i64 k, .int .i64 u, .string d, .slice A2 l.length c2] 153)
 have hb3 := (Below.refl _ w2).alloc (Nat.le_refl _) (.cells #[.int .i64 k, .int .i64 u, .string d, .slice A2 l.length c2] 153)
 have HG := qh (show w2.heap.size = w2.heap.size from rfl)
 generalize w2.alloc (.cells #[.int .i64 k, .int .i64 u, .string d, .slice A2 l.length c2] 153) = w3 at h3 hb3 ⊢
 generalize hge : w2.heap.size = g at h3 ⊢
 have hgs : w2.heap.size ≤ g := by omega
 have HT2 := qh (HT.out.below hb2)
 have HB2 := qh hb2
 have HB3 := qh hb3
 have HGS := qh hgs
 clear hgs hb2
 have x0 : w3.cell? ⟨g, 0, none⟩ = some (.int .i64 k) := by rw [blk_cell h3]; rfl
 have H3 := qh h3
 have hgl := blk_lt h3
 clear h3 hge hb3
 go_upto_region 9 with (go_at_call 100; refine (HM.out _).mono ?_; rintro e w5 ⟨rfl, hd5⟩; have hb5 := hd5.below)
 have h5 := (hb5.block g hgl).trans H3.out
 have HB5 := qh (HB3.out.trans (hb5.mono HB3.out.size))
 have H5 := qh h5
 have f2 := blk_frozen h5 2
 have y2 : w5.cell? ⟨g, 2, none⟩ = some (.string d) := by rw [blk_cell h5]; rfl
 clear h5 x0 hb5 hd5
 go_upto_region 12 with (fail)
 have h6 := blk_set H5.out 2 (.string data)
 have hb6 : Below w2.heap.size w2 (w5.setCell ⟨g, 2, none⟩ (.string data)) := HB5.out.setCell HGS.out _
 generalize w5.setCell ⟨g, 2, none⟩ (.string data) = w6 at h6 hb6 ⊢
 have hT6 := HT2.out.below (below_drew hb6)
 have hE6 := HE2.out.below (below_drew hb6)
 obtain ⟨w7, hup, hT7, hF7⟩ := HST.out w6.drew _ hT6 hE6
 have h6' : w6.drew.heap[g]? = some (.cells #[.int .i64 k, .int .i64 u, .string data, .slice A2 l.length c2] 153 (0, 0)) := h6
 have x0 : w6.drew.cell? ⟨g, 0, none⟩ = some (.int .i64 k) := by rw [blk_cell h6']; rfl
 have x1 : w6.drew.cell? ⟨g, 1, none⟩ = some (.int .i64 u) := by rw [blk_cell h6']; rfl
 have x2 : w6.drew.cell? ⟨g, 2, none⟩ = some (.string data) := by rw [blk_cell h6']; rfl
 have x3 : w6.drew.cell? ⟨g, 3, none⟩ = some (.slice A2 l.length c2) := by rw [blk_cell h6']; rfl
 have d0 : w6.drew.cell? ⟨p, 0, none⟩ = some (.map (some B)) := hT6.cell0
 have HTT := qh hT7
 have HFF := qh (((Frm.ofBelow HB2.out).trans (Frm.ofBelow (below_drew hb6))).trans hF7)
 clear hT7 hF7 hT6 hE6 h6 h6' hb6 y2 f2
 go_region
 go_wp2
 go_ret
 exact ⟨rfl, by rw [HCT.out]; exact HTT.out, HFF.out⟩
def beginE (s : ByteArray) : Int := if s.toList = [] then 5 else if s.size > 1024 then 11 else 0
theorem begin_calls (p : Nat) (s : ByteArray) (w : World) : Calls Tryz.prog 134 #[pT p, .string s] w fun e w' => e = .returned (.int .i64 (beginE s)) ∧ w = w' := by
 obtain ⟨r, hr⟩ : ∃ r, r = beginE s := ⟨_, rfl⟩
 rw [← hr]
 unfold beginE at hr
 by_cases h : s.toList = []
 ·
  rw [if_pos h] at hr
  have HR := qh hr
  have b1 : (s.toList == []) = true := by rw [h]; rfl
  clear hr h
  go_enter Tryz.func134, Tryz.ntmps134
  go_wp2
  go_ret
  exact ⟨by rw [HR.out]; rfl, rfl⟩
 ·
  rw [if_neg h] at hr
  have b1 : (s.toList == []) = false := by simpa using h
  have b2 : s.toList.isEmpty = false := by simpa using h
  by_cases h2 : s.size > 1024
  ·
   rw [if_pos h2] at hr
   have HR := qh hr
   have d1 : decide (1024 < (s.size : Int)) = true := decide_eq_true (by omega)
   have d2 : decide (1024 < s.size) = true := decide_eq_true (by omega)
   clear hr h h2
   go_enter Tryz.func134, Tryz.ntmps134
   go_wp2
   go_ret
   exact ⟨by rw [HR.out]; rfl, rfl⟩
  ·
   rw [if_neg h2] at hr
   have HR := qh hr
   have d1 : decide (1024 < (s.size : Int)) = false := decide_eq_false (by omega)
   have d2 : decide (1024 < s.size) = false := decide_eq_false (by omega)
   clear hr h h2
   go_enter Tryz.func134, Tryz.ntmps134
   go_wp2
   go_ret
   exact ⟨by rw [HR.out]; rfl, rfl⟩
structure Wk (w : World) (g p : Nat) (at_ hops : Int) (l : List ByteArray) (A : Option Addr) (c : Nat) : Prop where
 blk : w.heap[g]? = some (.cells #[pT p, .int .i64 at_, .int .i64 hops, .slice A l.length c] 191 (0, 0))
 row : Kd.C Kd.string w A l.length l
 cap : l.length ≤ c
theorem Wk.below {w w' : World} {g p : Nat} {a h : Int} {l : List ByteArray} {A : Option Addr} {c : Nat} (k : Wk w g p a h l A c) (hb : Below w.heap.size w w') : Wk w' g p a h l A c :=
 ⟨(hb.block _ (blk_lt k.blk)).trans k.blk, Kd.C_below k.row hb, k.cap⟩
theorem Wk.cells {w : World} {g p : Nat} {a h : Int} {l : List ByteArray} {A : Option Addr} {c : Nat} (k : Wk w g p a h l A c) :
  w.cell? ⟨g, 0, none⟩ = some (pT p) ∧ w.cell? ⟨g, 1, none⟩ = some (.int .i64 a) ∧ w.cell? ⟨g, 2, none⟩ = some (.int .i64 h) ∧ w.cell? ⟨g, 3, none⟩ = some (.slice A l.length c) := by
 refine ⟨?_, ?_, ?_, ?_⟩ <;> (rw [blk_cell k.blk]; rfl)
def small (T : Tr) : Prop := ∀ n x, T.get n = some x → x.ents.length < 4294967296
def sorted (T : Tr) : Prop := ∀ n x, T.get n = some x → Rt x.ents
theorem small.node {T : Tr} (h : small T) (n : Int) : (T.node n).ents.length < 4294967296 := by
 unfold Tr.node; cases hx : T.get n with
 | none => exact (by decide : (0 : Nat) < 4294967296)
 | some x => exact h n x hx
theorem sorted.node {T : Tr} (h : sorted T) (n : Int) : Rt (T.node n).ents := by
 unfold Tr.node; cases hx : T.get n with
 | none => exact List.Pairwise.nil
 | some x => exact h n x hx
def downT (T : Tr) (at_ : Int) (s : ByteArray) : Int × Int :=
 if Sp.check s.data.toList = 0 then (if (findE (T.node at_).ents s).2 = true then ((findE (T.node at_).ents s).1, 0) else (0, 5)) else (0, Sp.check s.data.toList)
theorem TreeAt.drewN {w : World} {p : Nat} {T : Tr} (h : TreeAt w p T) (n : Nat) : TreeAt (w.drewN n) p T := h.below (pw_below_drewN (Below.refl _ _) n)
theorem TreeAt.drew {w : World} {p : Nat} {T : Tr} (h : TreeAt w p T) : TreeAt w.drew p T := h.below (below_drew (Below.refl _ _))
theorem down_calls (g p : Nat) (T : Tr) (a h : Int) (l : List ByteArray) (A : Option Addr) (c : Nat) (s : ByteArray) (w : World) (hT : TreeAt w p T) (hk : Wk w g p a h l A c) (hs : small T) (hR : sorted T) (hn : wf a) (hz : s.size < 4294967281) :
  Calls Tryz.prog 158 #[.pointer (some ⟨g, 0, none⟩), .string s] w fun e w' => e = .returned (.tuple #[.int .i64 (downT T a s).1, .int .i64 (downT T a s).2]) ∧ Below w.heap.size w w' := by
 obtain ⟨c0, c1, -, -⟩ := hk.cells
 have hlt := blk_lt hk.blk
 have HT := qh hT
 have HC := qh (fun W => name_Check.calls s (Sp.check s.data.toList) W (by rw [name_Check.f, if_pos hz]))
 have HL := qh (fun W (h : TreeAt W p T) => list_calls p T a W h hn (hs.node a))
 have HF := qh (fun W A c h hc => find_calls A c (T.node a).ents s W h hc (hs.node a) (hR.node a))
 unfold downT
 generalize (T.node a).ents = es at HL HF ⊢
 generalize hck : Sp.check s.data.toList = ck at HC ⊢
 by_cases h0 : ck = 0
 ·
  subst h0
  rw [if_pos rfl]
  clear hck hT hk
  generalize hfe : findE es s = fe at HF ⊢
  obtain ⟨fn, fb⟩ := fe
  clear hfe
  go_enter Tryz.func158, Tryz.ntmps158
  go_upto_region 4 with (go_at_call 98; refine (HC.out _).mono ?_; rintro e w2 ⟨rfl, hb⟩)
  have TT := qh (HT.out.below hb)
  have d0 := pw_cell_below hb c0
  have d1 := pw_cell_below hb c1
  have g2 : g < w2.heap.size := Nat.lt_of_lt_of_le hlt hb.size
  have HB := qh hb
  clear hb c0 c1
  go_region_held3 (fun w' => w'.cell? ⟨g, 0, none⟩ = some (pT p) ∧ w'.cell? ⟨g, 1, none⟩ = some (.int .i64 a)) (first | (go_keep; done) | (exact ⟨(hb3.cell (p := ⟨g, 0, none⟩) g2).trans d0, (hb3.cell (p := ⟨g, 1, none⟩) g2).trans d1⟩) | (exact ⟨(hb4.cell (p := ⟨g, 0, none⟩) g3).trans e0, (hb4.cell (p := ⟨g, 1, none⟩) g3).trans e1⟩))
   (first | (go_at_call 74; refine (HL.out _ (by first | exact TT.out | exact TT.out.drew | exact TT.out.drewN _)).mono ?_; rintro e w3 ⟨v, rfl, ho, hb3⟩; obtain ⟨A3, c3, rfl, hl3, hC3⟩ := Kd.R_reads ho; have HC3 := qh hC3; have g3 : g < w3.heap.size := Nat.lt_of_lt_of_le g2 hb3.size; have e0 := (hb3.cell (p := ⟨g, 0, none⟩) g2).trans d0; have e1 := (hb3.cell (p := ⟨g, 1, none⟩) g2).trans d1; clear ho hC3) | (go_at_call 94; refine (HF.out _ _ _ (by first | exact HC3.out) hl3).mono ?_; rintro e w4 ⟨rfl, hb4⟩))
  have HZ := qh (((below_drew HB.out).trans (hb3.mono HB.out.size)).trans (hb4.mono (Nat.le_trans HB.out.size hb3.size)))
  clear hb3 hb4 e0 e1 d0 d1
  cases fb with
  | false =>
   go_wp2
   go_ret2
   exact ⟨rfl, HZ.out⟩
  | true =>
   go_wp2
   go_ret2
   exact ⟨rfl, HZ.out⟩
 ·
  rw [if_neg h0]
  have b1 : (ck != 0) = true := bne_iff_ne.2 h0
  clear hck hT hk HL HF HT c0 c1
  go_enter Tryz.func158, Tryz.ntmps158
  go_wp2_with (go_at_call 98; refine (HC.out _).mono ?_; rintro e w2 ⟨rfl, hb⟩)
  go_ret2
  exact ⟨rfl, hb⟩
def slashB (s : ByteArray) : Bool := Lib.hasPrefix s.data.toList [47]
def partsB (s : ByteArray) : List ByteArray := bs (Sp.parts s.data.toList)
theorem room_len (l : List (List UInt8)) : l.length ≤ Sp.room l := by
 induction l with
 | nil => simp
 | cons x l ih => rw [Sp.room_cons, List.length_cons]; omega
theorem partsB_len (s : ByteArray) (hz : s.size < 4294967281) : (partsB s).length ≤ 4294967282 := by
 have h1 := Sp.parts_room s.data.toList
 have h2 := room_len (Sp.parts s.data.toList)
 unfold partsB
 rw [bs_len]
 rw [← Sp.size_eq] at h1
 omega
theorem infoS : (Tryz.prog.info? 9).map (fun i => (i.zero, i.size, i.bytes)) = some (some (.string ⟨#[]⟩), 1, 16) := by kernel_rfl
theorem row_keep {w : World} {g p n c' : Nat} {a h : Int} {l : List ByteArray} {A A' : Option Addr} (kb : w.heap[g]? = some (.cells #[pT p, .int .i64 a, .int .i64 h, .slice A' n c'] 191 (0, 0))) (row : Kd.C Kd.string w A l.length l) (W : World) (hr : ∀ i, i ≠ g → W.heap[i]? = w.heap[i]?) : Kd.C Kd.string W A l.length l := by
 refine ⟨row.1, row.2.1, fun hn => ?_⟩
 obtain ⟨ad, e, hc⟩ := row.2.2 hn
 refine ⟨ad, e, fun j x hj => ?_⟩
 obtain ⟨cs, h1, h2, h3⟩ := hc j x hj
 refine ⟨cs, h1, h2, fun i u hu => ?_⟩
 have h4 := h3 i u hu
 have hs : u = .string x := by
  have h2' : cs = [Value.string x] := h2
  rw [h2'] at hu
  cases i with
  | zero => simpa using hu.symm
  | succ i => simp at hu
 have hne : (ad.add (j * Kd.string.sz + i)).block ≠ g := by
  intro eg
  unfold World.cell? at h4
  rw [eg, kb] at h4
  simp only [] at h4
  split at h4
  · cases h4
  ·
   subst hs
   have := List.mem_of_getElem? (l := [pT p, .int .i64 a, .int .i64 h, .slice A' n c']) (by simpa using h4)
   simp at this
 unfold World.cell? at h4 ⊢
 rw [hr _ hne]
 exact h4
theorem Wk.set1 {w : World} {g p : Nat} {a h : Int} {l : List ByteArray} {A : Option Addr} {c : Nat} (k : Wk w g p a h l A c) (a' : Int) : Wk (w.setCell ⟨g, 1, none⟩ (.int .i64 a')) g p a' h l A c :=
 ⟨blk_set k.blk 1 _, row_keep k.blk k.row _ (fun i hi => Below.heap_setCell w ⟨g, 1, none⟩ _ i (fun e => hi e)), k.cap⟩
theorem Wk.set2 {w : World} {g p : Nat} {a h : Int} {l : List ByteArray} {A : Option Addr} {c : Nat} (k : Wk w g p a h l A c) (h' : Int) : Wk (w.setCell ⟨g, 2, none⟩ (.int .i64 h')) g p a h' l A c :=
 ⟨blk_set k.blk 2 _, row_keep k.blk k.row _ (fun i hi => Below.heap_setCell w ⟨g, 2, none⟩ _ i (fun e => hi e)), k.cap⟩
theorem Wk.drew {w : World} {g p : Nat} {a h : Int} {l : List ByteArray} {A : Option Addr} {c : Nat} (k : Wk w g p a h l A c) : Wk w.drew g p a h l A c := k.below (below_drew (Below.refl _ _))
theorem follow_yes (B : Nat) (w0 : World) (g p : Nat) (a h : Int) (l : List ByteArray) (A : Option Addr) (c : Nat) (s : ByteArray) (w : World) (hk : Wk w g p a h l A c) (hB : Below B w0 w) (hg : B ≤ g) (hz : s.size < 4294967281) (hl : l.length < 4294967281) (h0 : 0 ≤ h) (h40 : h < 40) (hsl : slashB s = false) :
  Calls Tryz.prog 159 #[.pointer (some ⟨g, 0, none⟩), .string s] w fun e w' => e = .returned (.int .i64 0) ∧ (∃ A' c', Wk w' g p a (h + 1) (partsB s ++ l) A' c') ∧ Below B w0 w' := by
 obtain ⟨c0, c1, c2, c3⟩ := hk.cells
 have f2 := blk_frozen hk.blk 2
 have f3 := blk_frozen hk.blk 3
 have hlt := blk_lt hk.blk
 have HP := qh (fun W => path_Parts.calls s (partsB s) W (by rw [path_Parts.f, if_pos hz]; rfl))
 have HH := qh (fun W => Tryz.strings_HasPrefix s ⟨#[47]⟩ W)
 have hsl' : Lib.hasPrefix s.data.toList (⟨#[47]⟩ : ByteArray).data.toList = false := hsl
 rw [hsl'] at HH
 clear hsl hsl'
 have HPL := qh (partsB_len s hz)
 have d1 : decide (40 < h + 1) = false := decide_eq_false (by omega)
 have e1 : IntKind.i64.wrap (h + 1) = h + 1 := IntWalk.i64_in _ (by omega)
 go_enter Tryz.func159, Tryz.ntmps159
 go_upto_region 6 with (go_at_call 173; refine (HH.out _).mono ?_; rintro e w2 ⟨rfl, hw⟩; rw [hw]; clear hw)
 have hk2 := hk.set2 (h + 1)
 have hB2 : Below B w0 (w.setCell ⟨g, 2, none⟩ (.int .i64 (h + 1))) := hB.setCell hg _
 generalize w.setCell ⟨g, 2, none⟩ (.int .i64 (h + 1)) = w2 at hk2 hB2 ⊢
 obtain ⟨-, -, -, d3⟩ := hk2.cells
 have g3 := blk_frozen hk2.blk 3
 have g2 := blk_lt hk2.blk
 have HK := qh hk2
 have HB := qh hB2
 clear hk hB hk2 hB2 c0 c1 c2 c3 f2 f3 HH d1 e1
 go_region_law (first | (refine Kd.R_append_rows_step Kd.string (w0 := w3) w2.heap.size (by simp [Region.wanted]) (.tmp 24) (.tmp 28) 186 9 (.string ⟨#[]⟩) 16 rfl Tryz.underlying186 infoS rfl (by decide) (by omega) v (partsB s) l A l.length c (fun _ => True) (fun _ => False) (by rfl) (by rfl) HO.out HK3.out.row (fun _ _ h => h) (fun _ h => h.elim) (fun _ _ => trivial) (Below.refl _ _) hw3 (by have := HPL.out; omega) ?_; intro v1 w4 ho4 hb4 hg4 hat4; obtain ⟨A1, c1, rfl, hl1, hC1⟩ := Kd.R_reads ho4; have k4 := blk_grown HK3.out.blk hg4 HNE.out; have x4 : w4.cell? ⟨g, 3, none⟩ = some (.slice A l.length c) := (by rw [blk_cell k4]; rfl); have f4 := blk_frozen k4 3; have HK4 := qh k4; have HC1 := qh hC1; have HG4 := qh hg4; clear k4 ho4 hC1 hg4 hat4) | (go_simp; go_at_call 135; refine (HP.out _).mono ?_; rintro e w3 ⟨v, rfl, ho, hb3⟩; have hw3 : w2.heap.size ≤ w3.heap.size := hb3.size; have HK3 := qh (HK.out.drew.below hb3); have HB3 := qh ((below_drew HB.out).trans (hb3.mono (Nat.le_of_lt (Nat.lt_of_le_of_lt hg g2)))); have HO := qh ho; have HNE := qh (show some g ≠ v.ownBlock from fun e => by have := (Kd.R_bound ho).1 g e.symm; have := this.2.1; simp at this; omega); have x3 : w3.cell? ⟨g, 3, none⟩ = some (.slice A l.length c) := (hb3.cell (p := ⟨g, 3, none⟩) g2).trans d3; have y3 : w3.frozen? ⟨g, 3, none⟩ = false := blk_frozen HK3.out.blk 3; clear ho))
 all_goals
  have hW : Wk (w4.setCell ⟨g, 3, none⟩ (.slice A1 ((partsB s).length + l.length) c1)) g p a (h + 1) (partsB s ++ l) A1 c1 :=
   ⟨by rw [List.length_append]; exact blk_set HK4.out 3 _, row_keep HK4.out HC1.out _ (fun i hi => Below.heap_setCell w4 ⟨g, 3, none⟩ _ i (fun e => hi e)), hl1⟩
  have hZ : Below B w0 (w4.setCell ⟨g, 3, none⟩ (.slice A1 ((partsB s).length + l.length) c1)) := (HB3.out.trans (hb4.mono (Nat.le_of_lt (Nat.lt_of_le_of_lt hg g2)))).setCell hg _
  generalize w4.setCell ⟨g, 3, none⟩ (.slice A1 ((partsB s).length + l.length) c1) = w5 at hW hZ ⊢
  have HW := qh hW
  clear hW x4 f4 x3 y3 hl1 d3 g3
  go_simp
  go_wp2
  go_ret
  exact ⟨rfl, ⟨A1, c1, HW.out⟩, hZ⟩
theorem follow_root (B : Nat) (w0 : World) (g p : Nat) (a h : Int) (l : List ByteArray) (A : Option Addr) (c : Nat) (s : ByteArray) (w : World) (hk : Wk w g p a h l A c) (hB : Below B w0 w) (hg : B ≤ g) (hz : s.size < 4294967281) (hl : l.length < 4294967281) (h0 : 0 ≤ h) (h40 : h < 40) (hsl : slashB s = true) :
  Calls Tryz.prog 159 #[.pointer (some ⟨g, 0, none⟩), .string s] w fun e w' => e = .returned (.int .i64 0) ∧ (∃ A' c', Wk w' g p 1 (h + 1) (partsB s ++ l) A' c') ∧ Below B w0 w' := by
 obtain ⟨c0, c1, c2, c3⟩ := hk.cells
 have f2 := blk_frozen hk.blk 2
 have f3 := blk_frozen hk.blk 3
 have f1 := blk_frozen hk.blk 1
 have hlt := blk_lt hk.blk
 have HP := qh (fun W => path_Parts.calls s (partsB s) W (by rw [path_Parts.f, if_pos hz]; rfl))
 have HH := qh (fun W => Tryz.strings_HasPrefix s ⟨#[47]⟩ W)
 have hsl' : Lib.hasPrefix s.data.toList (⟨#[47]⟩ : ByteArray).data.toList = true := hsl
 rw [hsl'] at HH
 clear hsl hsl'
 have HPL := qh (partsB_len s hz)
 have d1 : decide (40 < h + 1) = false := decide_eq_false (by omega)
 have e1 : IntKind.i64.wrap (h + 1) = h + 1 := IntWalk.i64_in _ (by omega)
 go_enter Tryz.func159, Tryz.ntmps159
 go_upto_region 6 with (go_at_call 173; refine (HH.out _).mono ?_; rintro e w2 ⟨rfl, hw⟩; rw [hw]; clear hw)
 have hk2 := (hk.set2 (h + 1)).set1 1
 have hB2 : Below B w0 ((w.setCell ⟨g, 2, none⟩ (.int .i64 (h + 1))).setCell ⟨g, 1, none⟩ (.int .i64 1)) := (hB.setCell (p := ⟨g, 2, none⟩) hg _).setCell (p := ⟨g, 1, none⟩) hg _
 generalize (w.setCell ⟨g, 2, none⟩ (.int .i64 (h + 1))).setCell ⟨g, 1, none⟩ (.int .i64 1) = w2 at hk2 hB2 ⊢
 obtain ⟨-, -, -, d3⟩ := hk2.cells
 have g3 := blk_frozen hk2.blk 3
 have g2 := blk_lt hk2.blk
 have HK := qh hk2
 have HB := qh hB2
 clear hk hB hk2 hB2 c0 c1 c2 c3 f1 f2 f3 HH d1 e1
 go_region_law (first | (refine Kd.R_append_rows_step Kd.string (w0 := w3) w2.heap.size (by simp [Region.wanted]) (.tmp 24) (.tmp 28) 186 9 (.string ⟨#[]⟩) 16 rfl Tryz.underlying186 infoS rfl (by decide) (by omega) v (partsB s) l A l.length c (fun _ => True) (fun _ => False) (by rfl) (by rfl) HO.out HK3.out.row (fun _ _ h => h) (fun _ h => h.elim) (fun _ _ => trivial) (Below.refl _ _) hw3 (by have := HPL.out; omega) ?_; intro v1 w4 ho4 hb4 hg4 hat4; obtain ⟨A1, c1, rfl, hl1, hC1⟩ := Kd.R_reads ho4; have k4 := blk_grown HK3.out.blk hg4 HNE.out; have x4 : w4.cell? ⟨g, 3, none⟩ = some (.slice A l.length c) := (by rw [blk_cell k4]; rfl); have f4 := blk_frozen k4 3; have HK4 := qh k4; have HC1 := qh hC1; have HG4 := qh hg4; clear k4 ho4 hC1 hg4 hat4) | (go_simp; go_at_call 135; refine (HP.out _).mono ?_; rintro e w3 ⟨v, rfl, ho, hb3⟩; have hw3 : w2.heap.size ≤ w3.heap.size := hb3.size; have HK3 := qh (HK.out.drew.below hb3); have HB3 := qh ((below_drew HB.out).trans (hb3.mono (Nat.le_of_lt (Nat.lt_of_le_of_lt hg g2)))); have HO := qh ho; have HNE := qh (show some g ≠ v.ownBlock from fun e => by have := (Kd.R_bound ho).1 g e.symm; have := this.2.1; simp at this; omega); have x3 : w3.cell? ⟨g, 3, none⟩ = some (.slice A l.length c) := (hb3.cell (p := ⟨g, 3, none⟩) g2).trans d3; have y3 : w3.frozen? ⟨g, 3, none⟩ = false := blk_frozen HK3.out.blk 3; clear ho))
 all_goals
  have hW : Wk (w4.setCell ⟨g, 3, none⟩ (.slice A1 ((partsB s).length + l.length) c1)) g p 1 (h + 1) (partsB s ++ l) A1 c1 :=
   ⟨by rw [List.length_append]; exact blk_set HK4.out 3 _, row_keep HK4.out HC1.out _ (fun i hi => Below.heap_setCell w4 ⟨g, 3, none⟩ _ i (fun e => hi e)), hl1⟩
  have hZ : Below B w0 (w4.setCell ⟨g, 3, none⟩ (.slice A1 ((partsB s).length + l.length) c1)) := (HB3.out.trans (hb4.mono (Nat.le_of_lt (Nat.lt_of_le_of_lt hg g2)))).setCell hg _
  generalize w4.setCell ⟨g, 3, none⟩ (.slice A1 ((partsB s).length + l.length) c1) = w5 at hW hZ ⊢
  have HW := qh hW
  clear hW x4 f4 x3 y3 hl1 d3 g3
  go_simp
  go_wp2
  go_ret
  exact ⟨rfl, ⟨A1, c1, HW.out⟩, hZ⟩
theorem follow_no (B : Nat) (w0 : World) (g p : Nat) (a h : Int) (l : List ByteArray) (A : Option Addr) (c : Nat) (s : ByteArray) (w : World) (hk : Wk w g p a h l A c) (hB : Below B w0 w) (hg : B ≤ g) (h0 : 40 ≤ h) (h40 : h < 100) :
  Calls Tryz.prog 159 #[.pointer (some ⟨g, 0, none⟩), .string s] w fun e w' => e = .returned (.int .i64 10) ∧ Below B w0 w' := by
 obtain ⟨c0, c1, c2, c3⟩ := hk.cells
 have f2 := blk_frozen hk.blk 2
 have d1 : decide (40 < h + 1) = true := decide_eq_true (by omega)
 have e1 : IntKind.i64.wrap (h + 1) = h + 1 := IntWalk.i64_in _ (by omega)
 go_enter Tryz.func159, Tryz.ntmps159
 go_wp2
 go_ret
 exact ⟨rfl, hB.setCell hg _⟩
def FPost (B : Nat) (w0 : World) (g p : Nat) (a h : Int) (l : List ByteArray) (s : ByteArray) (w' : World) : Prop := (h < 40 → ∃ A' c', Wk w' g p (if slashB s = true then 1 else a) (h + 1) (partsB s ++ l) A' c') ∧ Below B w0 w'
theorem follow_calls (B : Nat) (w0 : World) (g p : Nat) (a h : Int) (l : List ByteArray) (A : Option Addr) (c : Nat) (s : ByteArray) (w : World) (hk : Wk w g p a h l A c) (hB : Below B w0 w) (hg : B ≤ g) (hz : s.size < 4294967281) (hl : l.length < 4294967281) (h0 : 0 ≤ h) (h40 : h ≤ 40) :
  Calls Tryz.prog 159 #[.pointer (some ⟨g, 0, none⟩), .string s] w fun e w' => e = .returned (.int .i64 (if 40 ≤ h then 10 else 0)) ∧ FPost B w0 g p a h l s w' := by
 by_cases h4 : 40 ≤ h
 ·
  rw [if_pos h4]
  refine (follow_no B w0 g p a h l A c s w hk hB hg h4 (by omega)).mono ?_
  rintro e w' ⟨rfl, hb⟩
  exact ⟨rfl, fun h => absurd h (by omega), hb⟩
 ·
  rw [if_neg h4]
  cases hs : slashB s with
  | false =>
   refine (follow_yes B w0 g p a h l A c s w hk hB hg hz hl h0 (by omega) hs).mono ?_
   rintro e w' ⟨rfl, hw, hb⟩
   exact ⟨rfl, fun _ => by rw [hs, if_neg (by simp)]; exact hw, hb⟩
  | true =>
   refine (follow_root B w0 g p a h l A c s w hk hB hg hz hl h0 (by omega) hs).mono ?_
   rintro e w' ⟨rfl, hw, hb⟩
   exact ⟨rfl, fun _ => by rw [hs, if_pos rfl]; exact hw, hb⟩
structure TrOK (T : Tr) : Prop where
 sorted : sorted T
 small : small T
 up : ∀ n x, T.get n = some x → wf x.up
 num : ∀ n x, T.get n = some x → ∀ e ∈ x.ents, wf e.f1
 data : ∀ n x, T.get n = some x → x.data.size ≤ 65536
theorem wf0 : wf 0 := rfl
theorem wf1 : wf 1 := rfl
theorem TrOK.wf_up {T : Tr} (h : TrOK T) (n : Int) : wf (T.node n).up := by
 unfold Tr.node; cases hx : T.get n with
 | none => exact wf0
 | some x => exact h.up n x hx
theorem TrOK.sz {T : Tr} (h : TrOK T) (n : Int) : (T.node n).data.size ≤ 65536 := by
 unfold Tr.node; cases hx : T.get n with
 | none => exact (by decide : (0 : Nat) ≤ 65536)
 | some x => exact h.data n x hx
theorem TrOK.wf_find {T : Tr} (h : TrOK T) (n : Int) (s : ByteArray) : wf (findE (T.node n).ents s).1 := by
 unfold findE
 split
 ·
  rename_i e he
  have hm := List.mem_of_find?_eq_some he
  unfold Tr.node at hm
  cases hx : T.get n with
  | none => rw [hx] at hm; cases hm
  | some x => rw [hx] at hm; exact h.num n x hx e hm
 · exact wf0
theorem TrOK.wf_down {T : Tr} (h : TrOK T) (n : Int) (s : ByteArray) : wf (downT T n s).1 := by
 unfold downT
 split
 ·
  split
  · exact h.wf_find n s
  · exact wf0
 · exact wf0
theorem partsB_len' (s : ByteArray) : (partsB s).length ≤ s.size + 1 := by
 have h1 := Sp.parts_room s.data.toList
 have h2 := room_len (Sp.parts s.data.toList)
 unfold partsB
 rw [bs_len]
 rw [← Sp.size_eq] at h1
 omega
theorem room_mem {x : List UInt8} : ∀ {l : List (List UInt8)}, x ∈ l → x.length + 1 ≤ Sp.room l
 | y :: l, h => by
  rw [Sp.room_cons]
  rcases List.mem_cons.1 h with rfl | h
  · omega
  · have := room_mem h; omega
theorem partsB_sz (s : ByteArray) : ∀ x ∈ partsB s, x.size ≤ s.size := by
 intro x hx
 obtain ⟨y, hy, rfl⟩ := List.mem_map.1 hx
 have h1 := Sp.parts_room s.data.toList
 have h2 := room_mem hy
 rw [← Sp.size_eq] at h1
 rw [Sp.mk_size]
 omega
def walkF (T : Tr) (last : Bool) : Nat → Int → Int → List ByteArray → Option (Int × Int)
 | 0, _, _, _ => none
 | _ + 1, a, _, [] => some (a, 0)
 | k + 1, a, h, s :: l =>
  if (T.node a).kind ≠ 1 then some (a, 7)
  else if s.toList = [46, 46] then walkF T last k (T.node a).up h l
  else if (downT T a s).2 ≠ 0 then some (a, (downT T a s).2)
  else if (T.node (downT T a s).1).kind ≠ 3 ∨ (l = [] ∧ last = false) then walkF T last k (downT T a s).1 h l
  else if 40 ≤ h then some (a, 10)
  else walkF T last k (if slashB (T.node (downT T a s).1).data = true then 1 else a) (h + 1) (partsB (T.node (downT T a s).1).data ++ l)
theorem cut1 (A : Option Addr) (c : Nat) (l : List ByteArray) (h1 : 1 ≤ l.length) (hc : l.length ≤ c) :
  ∃ A' : Option Addr, (∀ W : World, (Instr.slice 186 (.slice A l.length c) (some (.int .i64 1)) none none).run Tryz.prog W = .ok (.slice A' (l.length - 1) (c - 1)) W) ∧ ∀ w : World, Kd.C Kd.string w A l.length l → Kd.C Kd.string w A' (l.drop 1).length (l.drop 1) := by
 refine ⟨if c = 1 then A else A.map (·.add (1 * Kd.string.sz)), fun W => ?_, fun w h => Kd.C_drop h h1 hc⟩
 obtain ⟨i0, hi, hz0, hz1, hz2⟩ := info_parts infoS
 have ht := Tryz.underlying186
 have hel : Tryz.prog.elem 186 = 9 := by simp [Program.elem, ht]
 have hu : Tryz.prog.underlying 186 = some (.slice (Tryz.prog.elem 186)) := by rw [hel]; exact ht
 rw [run_slice_l W 186 A l.length c hu .i64 1 (by omega) (by omega), hel]
 simp [sizeOf, typeInfo, hi, hz1, sliced, Result.andThen, Kd.string, Kd.scalar]
def WPost (w0 : World) (g p : Nat) (R : Int × Int) (w' : World) : Prop := (R.2 = 0 → ∃ h l A c, Wk w' g p R.1 h l A c) ∧ Below w0.heap.size w0 w'
theorem Wk.cutL {w : World} {g p : Nat} {a h : Int} {s : ByteArray} {l : List ByteArray} {A A' : Option Addr} {c : Nat} (k : Wk w g p a h (s :: l) A c) (hA : ∀ w : World, Kd.C Kd.string w A (s :: l).length (s :: l) → Kd.C Kd.string w A' ((s :: l).drop 1).length ((s :: l).drop 1)) :
  Wk (w.setCell ⟨g, 3, none⟩ (.slice A' l.length (c - 1))) g p a h l A' (c - 1) :=
 ⟨blk_set k.blk 3 _, hA _ (row_keep k.blk k.row _ (fun i hi => Below.heap_setCell w ⟨g, 3, none⟩ _ i (fun e => hi e))), by have := k.cap; simp at this; omega⟩
theorem walk_calls (B : Nat) (w0 : World) (g p : Nat) (T : Tr) (hT : TreeAt w0 p T) (hO : TrOK T) (last : Bool) (k : Nat) (a : Int) (l : List ByteArray) (A : Option Addr) (c : Nat) (R : Int × Int) (w : World) (hk : Wk w g p a 0 l A c) (hB : Below w0.heap.size w0 w) (hg : w0.heap.size ≤ g) (hn : wf a)
  (hl : l.length ≤ 100000) (hz : ∀ s ∈ l, s.size ≤ 65536) (hR : walkF T last k a 0 l = some R) :
  Calls Tryz.prog 137 #[.pointer (some ⟨g, 0, none⟩), .bool last] w fun e w' => e = .returned (.int .i64 R.2) ∧ WPost w0 g p R w' := by
 have HR := qa hR
 have HK := qa hk
 have HB := qa hB
 have HT := qa hT
 have HL := qa hl
 have HZ := qa hz
 have HN := qa hn
 clear hR hk hB hT hl hz hn
 go_enter Tryz.func137, Tryz.ntmps137
 go_wp2
 go_step3
 go_wp2
 go_step3
 go_wp2
 go_loopg [5] k (fun kq v5 wr => ∃ (a h : Int) (l : List ByteArray) (A : Option Addr) (c : Nat), Aside0 (walkF T last kq a h l = some R) ∧ Aside0 (Wk wr g p a h l A c) ∧ Aside0 (Below w0.heap.size w0 wr) ∧ Aside0 (wf a) ∧ Aside0 (0 ≤ h ∧ h ≤ 40 ∧ (l.length : Int) ≤ 100000 + 70000 * h) ∧ Aside0 (∀ s ∈ l, s.size ≤ 65536))
 case atStart => exact ⟨a, 0, l, A, c, HR, HK, HB, HN, ⟨by omega, by omega, by have := HL.out; omega⟩, HZ⟩
 case round =>
  clear HR HK HB HN HL HZ
  obtain ⟨a, h, l, A, c, HR, HK, HB, HN, HH, HZ⟩ := hrel
  cases gk with
  | zero => exact absurd HR.out (by simp [walkF])
  | succ k1 =>
  obtain ⟨c0, c1, c2, c3⟩ := HK.out.cells
  have f3 := blk_frozen HK.out.blk 3
  cases l with
  | nil =>
   have hR := HR.out
   simp only [walkF, Option.some.injEq] at hR
   subst hR
   go_wp2
   rw [Exit.noGoto_ret]
   go_ret
   exact ⟨rfl, fun _ => ⟨_, _, _, _, HK.out⟩, HB.out⟩
  | cons s l =>
   obtain ⟨ad, eA, x0⟩ := Kd.at_string HK.out.row 0 (by omega) (by simp)
   have e0 : rdOf ByteArray.empty (s :: l) 0 = s := rfl
   rw [e0, show ad.add (0 : Int).toNat = ad from rfl] at x0
   subst eA
   obtain ⟨A', hcut, hA'⟩ := cut1 (some ad) c (s :: l) (by simp) HK.out.cap
   have HA := qa hA'
   clear hA' e0
   simp only [List.length_cons, Nat.add_sub_cancel] at hcut
   go_upto_region 4 with (fail)
   have hk1 := HK.out.cutL HA.out
   have hB1 : Below w0.heap.size w0 (wr.setCell ⟨g, 3, none⟩ (.slice A' l.length (c - 1))) := HB.out.setCell hg _
   generalize wr.setCell ⟨g, 3, none⟩ (.slice A' l.length (c - 1)) = w1 at hk1 hB1 ⊢
   clear HK HB HA hcut x0 c0 c1 c2 c3 f3
   generalize c - 1 = c' at hk1 ⊢
   obtain ⟨c0, c1, c2, c3⟩ := hk1.cells
   have f1 := blk_frozen hk1.blk 1
   have g1 := blk_lt hk1.blk
   have TT := qa (HT.out.below hB1)
   have HK := qa hk1
   have HB := qa hB1
   clear hk1 hB1
   have hR := HR.out
   clear HR
   simp only [walkF] at hR
   by_cases hkd : (T.node a).kind = 1
   ·
    rw [if_neg (by simpa using hkd)] at hR
    have HR := qa hR
    have HKD := qh (fun W (h : TreeAt W p T) => kind_calls p T a W h HN.out)
    rw [hkd] at HKD
    clear hR hkd
    go_region_held3 (fun w' => w'.cell? ⟨g, 0, none⟩ = some (pT p) ∧ w'.cell? ⟨g, 1, none⟩ = some (.int .i64 a)) (first | (go_keep; done) | (exact ⟨(hb3.cell (p := ⟨g, 0, none⟩) g1).trans c0, (hb3.cell (p := ⟨g, 1, none⟩) g1).trans c1⟩))
     (first | (go_at_call 69; refine (HKD.out _ (by first | exact TT.out | exact TT.out.drew | exact TT.out.drewN _)).mono ?_; rintro e w3 ⟨rfl, hb3⟩))
    have hk3 := HK.out.drew.below hb3
    have hB3 := (below_drew HB.out).trans (hb3.mono HB.out.size)
    have TT3 := qa (HT.out.below hB3)
    clear HK HB TT HKD hb3 c0 c1 c2 c3 f1 g1
    obtain ⟨c0, c1, c2, c3⟩ := hk3.cells
    have f1 := blk_frozen hk3.blk 1
    have g1 := blk_lt hk3.blk
    have HK := qa hk3
    have HB := qa hB3
    clear hk3 hB3
    have hR := HR.out
    clear HR
    by_cases hdd : s.toList = [46, 46]
    ·
     rw [if_pos hdd] at hR
     have HR := qa hR
     have b2 : (s.toList == [46, 46]) = true := by rw [hdd]; rfl
     have HUP := qh (fun W (h : TreeAt W p T) => up_calls p T a W h HN.out)
     have HNU := qa (hO.wf_up a)
     generalize (T.node a).up = u at HR HUP HNU
     clear hR hdd
     go_upto_region 7 with (fail)
     go_region_law (first | (go_simp; go_at_call 71; refine (HUP.out _ (by first | exact TT3.out | exact TT3.out.drew | exact TT3.out.drewN _)).mono ?_; rintro e w4 ⟨rfl, hb4⟩; have HK4 := qa (HK.out.drew.below hb4); have x0 := HK4.out.cells.1; have x1 := HK4.out.cells.2.1; have y1 := blk_frozen HK4.out.blk 1))
     all_goals
      have hk5 := HK4.out.set1 u
      have hB5 : Below w0.heap.size w0 (w4.setCell ⟨g, 1, none⟩ (.int .i64 u)) := ((below_drew HB.out).trans (hb4.mono HB.out.size)).setCell hg _
      generalize w4.setCell ⟨g, 1, none⟩ (.int .i64 u) = w5 at hk5 hB5 ⊢
      have HK5 := qa hk5
      have HB5 := qa hB5
      clear hk5 hB5 x0 x1 y1 c0 c1 c2 c3 f1 hb4 HK4 TT3
      go_simp
      go_wp2
      go_roundg k1
      case measure => omega
      case rel => exact ⟨u, h, l, A', c', HR, HK5, HB5, HNU, ⟨HH.out.1, HH.out.2.1, by have := HH.out.2.2; simp at this; omega⟩, ⟨fun x hx => HZ.out x (List.mem_cons_of_mem _ hx)⟩⟩
    ·
     rw [if_neg hdd] at hR
     have HR := qa hR
     have b2 : (s.toList == [46, 46]) = false := by simpa using hdd
     have hsz : s.size ≤ 65536 := HZ.out s (by simp)
     have HD := qh (fun W h1 h2 => down_calls g p T a h l A' c' s W h1 h2 hO.small hO.sorted HN.out (by omega))
     have HND := qa (hO.wf_down a s)
     generalize hdw : downT T a s = dw at HR HD HND
     obtain ⟨n, e⟩ := dw
     clear hR hdd hdw
     simp only [] at HR HD HND
     by_cases he : e = 0
     ·
      subst he
      rw [if_neg (by simp)] at HR
      go_upto_region 11 with (go_at_call 158; refine (HD.out _ TT3.out HK.out).mono ?_; rintro ee w4 ⟨rfl, hb4⟩)
      have hk4 := HK.out.below hb4
      have hB4 := HB.out.trans (hb4.mono HB.out.size)
      have TT4 := qa (HT.out.below hB4)
      clear HK HB TT3 HD hb4 c0 c1 c2 c3 f1 g1
      obtain ⟨c0, c1, c2, c3⟩ := hk4.cells
      have f1 := blk_frozen hk4.blk 1
      have HK := qa hk4
      have HB := qa hB4
      clear hk4 hB4
      have HKD := qh (fun W (h : TreeAt W p T) => kind_calls p T n W h HND.out)
      have HDA := qh (fun W (h : TreeAt W p T) => data_calls p T n W h HND.out)
      have HSZ := qa (hO.sz n)
      generalize (T.node n).kind = kd at HR HKD
      generalize (T.node n).data = dt at HR HDA HSZ
      by_cases hk : kd = 3
      ·
       have b4 : (kd != 3) = false := bne_eq_false_iff_eq.2 hk
       by_cases hlast : l = [] ∧ last = false
       ·
        rw [if_pos (.inr hlast)] at HR
        obtain ⟨rfl, rfl⟩ := hlast
        clear hk
        go_wp2_with (go_at_call 69; refine (HKD.out _ TT4.out).mono ?_; rintro ee w5 ⟨rfl, hb5⟩; have HK5 := qa (HK.out.below hb5); have HB5 := qa (HB.out.trans (hb5.mono HB.out.size)); have x3 := HK5.out.cells.2.2.2; have x1 := HK5.out.cells.2.1; have x0 := HK5.out.cells.1; have y1 := blk_frozen HK5.out.blk 1)
        have hk6 := HK5.out.set1 n
        have hB6 : Below w0.heap.size w0 (w5.setCell ⟨g, 1, none⟩ (.int .i64 n)) := HB5.out.setCell hg _
        generalize w5.setCell ⟨g, 1, none⟩ (.int .i64 n) = w6 at hk6 hB6 ⊢
        have HK6 := qa hk6
        have HB6 := qa hB6
        clear hk6 hB6 x0 x1 x3 y1 hb5
        go_roundg k1
        case measure => omega
        case rel => exact ⟨n, h, _, A', c', HR, HK6, HB6, HND, ⟨HH.out.1, HH.out.2.1, by have := HH.out.2.2; simp at this ⊢; omega⟩, ⟨fun x hx => HZ.out x (List.mem_cons_of_mem _ hx)⟩⟩
       ·
        rw [if_neg (by rintro (hh | hh); exact hh hk; exact hlast hh)] at HR
        clear hk
        cases l with
        | nil =>
         cases last with
         | false => exact absurd ⟨rfl, rfl⟩ hlast
         | true =>
          clear hlast
          have HF := qh (fun W h1 h2 => follow_calls w0.heap.size w0 g p a h ([] : List ByteArray) A' c' dt W h1 h2 hg (by have := HSZ.out; omega) (by have q := HH.out.2; simp only [List.length_cons, List.length_nil] at q ⊢; omega) HH.out.1 HH.out.2.1)
          by_cases h4 : 40 ≤ h
          ·
           rw [if_pos h4] at HR HF
           have hR := Option.some.inj HR.out
           subst hR
           clear h4
           go_wp2_with (first | (go_at_call 69; refine (HKD.out _ TT4.out).mono ?_; rintro ee w5 ⟨rfl, hb5⟩; have HK5 := qa (HK.out.below hb5); have HB5 := qa (HB.out.trans (hb5.mono HB.out.size)); have TT5 := qa (HT.out.below HB5.out); have x3 := HK5.out.cells.2.2.2; have x1 := HK5.out.cells.2.1; have x0 := HK5.out.cells.1; have y1 := blk_frozen HK5.out.blk 1) | (go_at_call 70; refine (HDA.out _ TT5.out).mono ?_; rintro ee w6 ⟨rfl, hb6⟩; have HK6 := qa (HK5.out.below hb6); have HB6 := qa (HB5.out.trans (hb6.mono HB5.out.size))) | (go_at_call 159; refine (HF.out _ HK6.out HB6.out).mono ?_; rintro ee w7 ⟨rfl, hf7⟩))
           rw [Exit.noGoto_ret]
           go_ret
           exact ⟨rfl, fun h => absurd h (by simp), hf7.2⟩
          ·
           rw [if_neg h4] at HR HF
           have HH4 := qh h4
           clear h4
           go_wp2_with (first | (go_at_call 69; refine (HKD.out _ TT4.out).mono ?_; rintro ee w5 ⟨rfl, hb5⟩; have HK5 := qa (HK.out.below hb5); have HB5 := qa (HB.out.trans (hb5.mono HB.out.size)); have TT5 := qa (HT.out.below HB5.out); have x3 := HK5.out.cells.2.2.2; have x1 := HK5.out.cells.2.1; have x0 := HK5.out.cells.1; have y1 := blk_frozen HK5.out.blk 1) | (go_at_call 70; refine (HDA.out _ TT5.out).mono ?_; rintro ee w6 ⟨rfl, hb6⟩; have HK6 := qa (HK5.out.below hb6); have HB6 := qa (HB5.out.trans (hb6.mono HB5.out.size))) | (go_at_call 159; refine (HF.out _ HK6.out HB6.out).mono ?_; rintro ee w7 ⟨rfl, hf7⟩))
           clear x0 x1 x3 y1 hb5 hb6
           have HF7 := qh hf7
           clear hf7
           go_roundg k1
           case measure => omega
           case rel =>
            obtain ⟨A7, c7, hk7⟩ := HF7.out.1 (by have := HH4.out; omega)
            have hpl := partsB_len' dt
            have hn1 : wf (if slashB dt = true then 1 else a) := by
             by_cases hsl : slashB dt = true
             · rw [if_pos hsl]; exact wf1
             · rw [if_neg hsl]; exact HN.out
            exact ⟨_, h + 1, _, A7, c7, HR, ⟨hk7⟩, ⟨HF7.out.2⟩, ⟨hn1⟩, ⟨by have := HH.out; omega, by have := HH.out; have := HH4.out; omega, by have q := HH.out.2.2; have z := HSZ.out; rw [List.length_append]; simp only [List.length_cons, List.length_nil] at q ⊢; omega⟩, ⟨fun x hx => by
             rcases List.mem_append.1 hx with hx | hx
             · exact Nat.le_trans (partsB_sz dt x hx) HSZ.out
             · exact HZ.out x (List.mem_cons_of_mem _ hx)⟩⟩
        | cons x r =>
         clear hlast
         have b5 : ((r.length : Int) + 1 == 0) = false := beq_eq_false_iff_ne.2 (by omega)
         have HF := qh (fun W h1 h2 => follow_calls w0.heap.size w0 g p a h (x :: r) A' c' dt W h1 h2 hg (by have := HSZ.out; omega) (by have q := HH.out.2; simp only [List.length_cons, List.length_nil] at q ⊢; omega) HH.out.1 HH.out.2.1)
         by_cases h4 : 40 ≤ h
         ·
          rw [if_pos h4] at HR HF
          have hR := Option.some.inj HR.out
          subst hR
          clear h4
          go_wp2_with (first | (go_at_call 69; refine (HKD.out _ TT4.out).mono ?_; rintro ee w5 ⟨rfl, hb5⟩; have HK5 := qa (HK.out.below hb5); have HB5 := qa (HB.out.trans (hb5.mono HB.out.size)); have TT5 := qa (HT.out.below HB5.out); have x3 := HK5.out.cells.2.2.2; have x1 := HK5.out.cells.2.1; have x0 := HK5.out.cells.1; have y1 := blk_frozen HK5.out.blk 1) | (go_at_call 70; refine (HDA.out _ TT5.out).mono ?_; rintro ee w6 ⟨rfl, hb6⟩; have HK6 := qa (HK5.out.below hb6); have HB6 := qa (HB5.out.trans (hb6.mono HB5.out.size))) | (go_at_call 159; refine (HF.out _ HK6.out HB6.out).mono ?_; rintro ee w7 ⟨rfl, hf7⟩))
          rw [Exit.noGoto_ret]
          go_ret
          exact ⟨rfl, fun h => absurd h (by simp), hf7.2⟩
         ·
          rw [if_neg h4] at HR HF
          have HH4 := qh h4
          clear h4
          go_wp2_with (first | (go_at_call 69; refine (HKD.out _ TT4.out).mono ?_; rintro ee w5 ⟨rfl, hb5⟩; have HK5 := qa (HK.out.below hb5); have HB5 := qa (HB.out.trans (hb5.mono HB.out.size)); have TT5 := qa (HT.out.below HB5.out); have x3 := HK5.out.cells.2.2.2; have x1 := HK5.out.cells.2.1; have x0 := HK5.out.cells.1; have y1 := blk_frozen HK5.out.blk 1) | (go_at_call 70; refine (HDA.out _ TT5.out).mono ?_; rintro ee w6 ⟨rfl, hb6⟩; have HK6 := qa (HK5.out.below hb6); have HB6 := qa (HB5.out.trans (hb6.mono HB5.out.size))) | (go_at_call 159; refine (HF.out _ HK6.out HB6.out).mono ?_; rintro ee w7 ⟨rfl, hf7⟩))
          clear x0 x1 x3 y1 hb5 hb6
          have HF7 := qh hf7
          clear hf7
          go_roundg k1
          case measure => omega
          case rel =>
           obtain ⟨A7, c7, hk7⟩ := HF7.out.1 (by have := HH4.out; omega)
           have hpl := partsB_len' dt
           have hn1 : wf (if slashB dt = true then 1 else a) := by
            by_cases hsl : slashB dt = true
            · rw [if_pos hsl]; exact wf1
            · rw [if_neg hsl]; exact HN.out
           exact ⟨_, h + 1, _, A7, c7, HR, ⟨hk7⟩, ⟨HF7.out.2⟩, ⟨hn1⟩, ⟨by have := HH.out; omega, by have := HH.out; have := HH4.out; omega, by have q := HH.out.2.2; have z := HSZ.out; rw [List.length_append]; simp only [List.length_cons, List.length_nil] at q ⊢; omega⟩, ⟨fun x hx => by
            rcases List.mem_append.1 hx with hx | hx
            · exact Nat.le_trans (partsB_sz dt x hx) HSZ.out
            · exact HZ.out x (List.mem_cons_of_mem _ hx)⟩⟩
      ·
       have b4 : (kd != 3) = true := bne_iff_ne.2 hk
       rw [if_pos (.inl hk)] at HR
       clear hk
       go_wp2_with (go_at_call 69; refine (HKD.out _ TT4.out).mono ?_; rintro ee w5 ⟨rfl, hb5⟩; have HK5 := qa (HK.out.below hb5); have HB5 := qa (HB.out.trans (hb5.mono HB.out.size)); have x3 := HK5.out.cells.2.2.2; have x1 := HK5.out.cells.2.1; have x0 := HK5.out.cells.1; have y1 := blk_frozen HK5.out.blk 1)
       have hk6 := HK5.out.set1 n
       have hB6 : Below w0.heap.size w0 (w5.setCell ⟨g, 1, none⟩ (.int .i64 n)) := HB5.out.setCell hg _
       generalize w5.setCell ⟨g, 1, none⟩ (.int .i64 n) = w6 at hk6 hB6 ⊢
       have HK6 := qa hk6
       have HB6 := qa hB6
       clear hk6 hB6 x0 x1 x3 y1 hb5
       go_roundg k1
       case measure => omega
       case rel => exact ⟨n, h, _, A', c', HR, HK6, HB6, HND, ⟨HH.out.1, HH.out.2.1, by have := HH.out.2.2; simp at this ⊢; omega⟩, ⟨fun x hx => HZ.out x (List.mem_cons_of_mem _ hx)⟩⟩
     ·
      rw [if_pos (by simpa using he)] at HR
      have hR := Option.some.inj HR.out
      subst hR
      have b3 : (e != 0) = true := bne_iff_ne.2 he
      go_wp2_with (go_at_call 158; refine (HD.out _ TT3.out HK.out).mono ?_; rintro ee w4 ⟨rfl, hb4⟩)
      rw [Exit.noGoto_ret]
      go_ret
      exact ⟨rfl, fun h => absurd h he, HB.out.trans (hb4.mono HB.out.size)⟩
   ·
    rw [if_pos (by simpa using hkd)] at hR
    have hR := Option.some.inj hR
    subst hR
    have HKD := qh (fun W (h : TreeAt W p T) => kind_calls p T a W h HN.out)
    have b1 : ((T.node a).kind != 1) = true := bne_iff_ne.2 hkd
    clear hkd
    go_region_held3 (fun w' => w'.cell? ⟨g, 0, none⟩ = some (pT p) ∧ w'.cell? ⟨g, 1, none⟩ = some (.int .i64 a)) (first | (go_keep; done) | (exact ⟨(hb3.cell (p := ⟨g, 0, none⟩) g1).trans c0, (hb3.cell (p := ⟨g, 1, none⟩) g1).trans c1⟩))
     (first | (go_at_call 69; refine (HKD.out _ (by first | exact TT.out | exact TT.out.drew | exact TT.out.drewN _)).mono ?_; rintro e w3 ⟨rfl, hb3⟩))
    go_wp2
    rw [Exit.noGoto_ret]
    go_ret
    exact ⟨rfl, fun h => absurd h (by simp), (below_drew HB.out).trans (hb3.mono (HB.out.size))⟩
def insF (T : Tr) : Nat → Int → Int → Option Bool
 | 0, _, _ => none
 | k + 1, n, d => if n = d then some true else if n = 1 then some false else insF T k (T.node n).up d
theorem inside_calls (p B : Nat) (T : Tr) (n d : Int) (k : Nat) (r : Bool) (w : World) (h : TreeB w p B T) (hO : TrOK T) (hn : wf n) (hr : insF T k n d = some r) :
  Calls Tryz.prog 147 #[pT p, .int .i64 n, .int .i64 d] w fun e w' => e = .returned (.bool r) ∧ w = w' := by
 have c0 := h.cell0
 have HL := qh (fun m hm => h.look m hm)
 have HU := qh (fun m => hO.wf_up m)
 have HN := qa hn
 have HR := qa hr
 clear h hO hn hr
 go_enter Tryz.func147, Tryz.ntmps147
 go_wp2
 go_loopg [1] k (fun kq v1 wr => ∃ m : Int, v1 = .int .i64 m ∧ Aside0 (wf m) ∧ Aside0 (insF T kq m d = some r) ∧ wr = w)
 case atStart => exact ⟨n, rfl, HN, HR, rfl⟩
 case round =>
  obtain ⟨m, rfl, HM, HQ, rfl⟩ := hrel
  clear HN HR
  cases gk with
  | zero => exact absurd HQ.out (by simp [insF])
  | succ k1 =>
  have hq := HQ.out
  unfold insF at hq
  by_cases h1 : m = d
  ·
   subst h1
   rw [if_pos rfl] at hq
   have hq := Option.some.inj hq
   subst hq
   clear HQ
   go_wp2
   go_ret
   exact ⟨rfl, rfl⟩
  ·
   rw [if_neg h1] at hq
   have b1 : (m != d) = true := bne_iff_ne.2 h1
   have b2 : (m == d) = false := beq_eq_false_iff_ne.2 h1
   by_cases h2 : m = 1
   ·
    subst h2
    rw [if_pos rfl] at hq
    have hq := Option.some.inj hq
    subst hq
    clear HQ
    go_wp2
    go_ret
    exact ⟨rfl, rfl⟩
   ·
    rw [if_neg h2] at hq
    have b3 : (m != 1) = true := bne_iff_ne.2 h2
    obtain ⟨A, c, -, -, hrun⟩ := HL.out m HM.out
    have hrun := hrun _ (Below.refl _ _)
    have HQ2 := qa hq
    have HU2 := qa (HU.out m)
    clear HQ hq h1 h2
    generalize (T.node m).up = u at *
    go_wp2
    go_roundg k1
    case rel => exact ⟨u, rfl, HU2, HQ2, rfl⟩
    case measure => exact Nat.lt_succ_self _
def roomE (T : Tr) (n td : Int) (s : ByteArray) : Bool × Int :=
 if (findE (T.node td).ents s).2 = false then (false, 0) else if (findE (T.node td).ents s).1 = n then (true, 0) else
  if (T.node (findE (T.node td).ents s).1).kind = 1 ∧ (T.node n).kind ≠ 1 then (false, 8) else
   if (T.node n).kind = 1 ∧ (T.node (findE (T.node td).ents s).1).kind ≠ 1 then (false, 7) else (false, cutE T td s)
def roomT (T : Tr) (td : Int) (s : ByteArray) : Tr := if (findE (T.node td).ents s).2 = false then T else cutT T td s
theorem room_stay (p B : Nat) (T : Tr) (n td : Int) (s : ByteArray) (w : World) (h : TreeB w p B T) (hn : wf n) (ht : wf td) (hl : (T.node td).ents.length < 4294967296) (hR : Rt (T.node td).ents) (hwn : wf (findE (T.node td).ents s).1) (he : roomE T n td s ≠ (false, 0) ∨ (findE (T.node td).ents s).2 = false) :
  Calls Tryz.prog 148 #[pT p, .int .i64 n, .int .i64 td, .string s] w fun e w' => e = .returned (.tuple #[.bool (roomE T n td s).1, .int .i64 (roomE T n td s).2]) ∧ Below w.heap.size w w' := by
 have HT := qh h
 have HLT := qh (fun W (h : TreeB W p B T) => h.look td ht)
 have HLN := qh (fun W (h : TreeB W p B T) => h.look n hn)
 have HLO := qh (fun W (h : TreeB W p B T) => h.look _ hwn)
 have HF := qh (fun W A c h hc => find_calls A c (T.node td).ents s W h hc hl hR)
 have HCE := qh (fun W h => cut_err p B T td s W h ht hl hR hwn)
 clear h hl hR hn hwn ht
 unfold roomE at he ⊢
 generalize cutE T td s = ce at *
 generalize T.node (findE (T.node td).ents s).1 = yo at *
 generalize T.node n = yn at *
 generalize hx : T.node td = x at *
 obtain ⟨k, u, d, l⟩ := x
 simp only [] at *
 clear hx
 generalize findE l s = fe at *
 obtain ⟨o, fb⟩ := fe
 obtain ⟨ko, uo, dd, lo⟩ := yo
 obtain ⟨kn, un, dn, ln⟩ := yn
 simp only [] at *
 have c0 := HT.out.cell0
 obtain ⟨A0, m0, hle0, hC0, hrun⟩ := HLT.out _ HT.out
 have hrun0 := hrun _ (Below.refl _ _)
 have HC0 := qh hC0
 clear hrun hC0
 cases fb with
 | false =>
  rw [if_pos rfl]
  clear he HCE
  go_enter Tryz.func148, Tryz.ntmps148
  go_upto_region 2 with (go_at_call 94; refine (HF.out _ _ _ HC0.out hle0).mono ?_; rintro e w3 ⟨rfl, hb3⟩)
  have HT3 := qh (HT.out.below (below_drew hb3))
  have c3 := HT3.out.cell0
  obtain ⟨A3, m3, -, -, hrun⟩ := HLN.out _ HT3.out
  have hrun3 := hrun _ (Below.refl _ _)
  obtain ⟨A4, m4, -, -, hrun⟩ := HLO.out _ HT3.out
  have hrun4 := hrun _ (Below.refl _ _)
  clear hrun hrun0 c0
  go_region
  all_goals go_wp2
  all_goals go_ret2
  all_goals exact ⟨rfl, below_drew hb3⟩
 | true =>
  rw [if_neg (by simp)] at he ⊢
  by_cases h1 : o = n
  ·
   subst h1
   rw [if_pos rfl]
   clear he HCE
   go_enter Tryz.func148, Tryz.ntmps148
   go_upto_region 2 with (go_at_call 94; refine (HF.out _ _ _ HC0.out hle0).mono ?_; rintro e w3 ⟨rfl, hb3⟩)
   have HT3 := qh (HT.out.below (below_drew hb3))
   have c3 := HT3.out.cell0
   obtain ⟨A3, m3, -, -, hrun⟩ := HLN.out _ HT3.out
   have hrun3 := hrun _ (Below.refl _ _)
   obtain ⟨A4, m4, -, -, hrun⟩ := HLO.out _ HT3.out
   have hrun4 := hrun _ (Below.refl _ _)
   clear hrun hrun0 c0
   go_region
   all_goals go_wp2
   all_goals go_ret2
   all_goals exact ⟨rfl, below_drew hb3⟩
  ·
   rw [if_neg h1] at he ⊢
   have b1 : (o == n) = false := beq_eq_false_iff_ne.2 h1
   by_cases ko1 : ko = 1
   ·
    subst ko1
    by_cases kn1 : kn = 1
    ·
     subst kn1
     rw [if_neg (by simp), if_neg (by simp)] at he ⊢
     have he : ce ≠ 0 := by
      rcases he with he | he
      · intro e; exact he (by rw [e])
      · cases he
     clear h1
     go_enter Tryz.func148, Tryz.ntmps148
     go_upto_region 2 with (go_at_call 94; refine (HF.out _ _ _ HC0.out hle0).mono ?_; rintro e w3 ⟨rfl, hb3⟩)
     have HT3 := qh (HT.out.below (below_drew hb3))
     have c3 := HT3.out.cell0
     obtain ⟨A3, m3, -, -, hrun⟩ := HLN.out _ HT3.out
     have hrun3 := hrun _ (Below.refl _ _)
     obtain ⟨A4, m4, -, -, hrun⟩ := HLO.out _ HT3.out
     have hrun4 := hrun _ (Below.refl _ _)
     clear hrun hrun0 c0
     go_region
     all_goals go_wp2_with (go_at_call 146; refine (HCE.out _ HT3.out he).mono ?_; rintro e w4 ⟨rfl, hb4⟩)
     all_goals go_ret2
     all_goals exact ⟨rfl, (below_drew hb3).trans (hb4.mono (below_drew hb3).size)⟩
    ·
     rw [if_pos ⟨rfl, kn1⟩]
     have b2 : (kn == 1) = false := beq_eq_false_iff_ne.2 kn1
     clear he HCE h1 kn1
     go_enter Tryz.func148, Tryz.ntmps148
     go_upto_region 2 with (go_at_call 94; refine (HF.out _ _ _ HC0.out hle0).mono ?_; rintro e w3 ⟨rfl, hb3⟩)
     have HT3 := qh (HT.out.below (below_drew hb3))
     have c3 := HT3.out.cell0
     obtain ⟨A3, m3, -, -, hrun⟩ := HLN.out _ HT3.out
     have hrun3 := hrun _ (Below.refl _ _)
     obtain ⟨A4, m4, -, -, hrun⟩ := HLO.out _ HT3.out
     have hrun4 := hrun _ (Below.refl _ _)
     clear hrun hrun0 c0
     go_region
     all_goals go_wp2
     all_goals go_ret2
     all_goals exact ⟨rfl, below_drew hb3⟩
   ·
    have b3 : (ko == 1) = false := beq_eq_false_iff_ne.2 ko1
    rw [if_neg (fun h => ko1 h.1)] at he ⊢
    by_cases kn1 : kn = 1
    ·
     subst kn1
     rw [if_pos ⟨rfl, ko1⟩]
     clear he HCE h1 ko1
     go_enter Tryz.func148, Tryz.ntmps148
     go_upto_region 2 with (go_at_call 94; refine (HF.out _ _ _ HC0.out hle0).mono ?_; rintro e w3 ⟨rfl, hb3⟩)
     have HT3 := qh (HT.out.below (below_drew hb3))
     have c3 := HT3.out.cell0
     obtain ⟨A3, m3, -, -, hrun⟩ := HLN.out _ HT3.out
     have hrun3 := hrun _ (Below.refl _ _)
     obtain ⟨A4, m4, -, -, hrun⟩ := HLO.out _ HT3.out
     have hrun4 := hrun _ (Below.refl _ _)
     clear hrun hrun0 c0
     go_region
     all_goals go_wp2
     all_goals go_ret2
     all_goals exact ⟨rfl, below_drew hb3⟩
    ·
     have b2 : (kn == 1) = false := beq_eq_false_iff_ne.2 kn1
     rw [if_neg (fun h => kn1 h.1)] at he ⊢
     have he : ce ≠ 0 := by
      rcases he with he | he
      · intro e; exact he (by rw [e])
      · cases he
     clear h1 ko1 kn1
     go_enter Tryz.func148, Tryz.ntmps148
     go_upto_region 2 with (go_at_call 94; refine (HF.out _ _ _ HC0.out hle0).mono ?_; rintro e w3 ⟨rfl, hb3⟩)
     have HT3 := qh (HT.out.below (below_drew hb3))
     have c3 := HT3.out.cell0
     obtain ⟨A3, m3, -, -, hrun⟩ := HLN.out _ HT3.out
     have hrun3 := hrun _ (Below.refl _ _)
     obtain ⟨A4, m4, -, -, hrun⟩ := HLO.out _ HT3.out
     have hrun4 := hrun _ (Below.refl _ _)
     clear hrun hrun0 c0
     go_region
     all_goals go_wp2_with (go_at_call 146; refine (HCE.out _ HT3.out he).mono ?_; rintro e w4 ⟨rfl, hb4⟩)
     all_goals go_ret2
     all_goals exact ⟨rfl, (below_drew hb3).trans (hb4.mono (below_drew hb3).size)⟩
theorem room_cut (p B : Nat) (T : Tr) (n td : Int) (s : ByteArray) (w : World) (h : TreeB w p B T) (hn : wf n) (ht : wf td) (hl : (T.node td).ents.length < 4294967296) (hR : Rt (T.node td).ents) (hwn : wf (findE (T.node td).ents s).1) (hcnt : T.cnt < 1000000) (he : roomE T n td s = (false, 0)) (hin : (findE (T.node td).ents s).2 = true) :
  Calls Tryz.prog 148 #[pT p, .int .i64 n, .int .i64 td, .string s] w fun e w' => e = .returned (.tuple #[.bool false, .int .i64 0]) ∧ TreeB w' p B (cutT T td s) ∧ Frm w w' p B := by
 have HT := qh h
 have HLT := qh (fun W (h : TreeB W p B T) => h.look td ht)
 have HLN := qh (fun W (h : TreeB W p B T) => h.look n hn)
 have HLO := qh (fun W (h : TreeB W p B T) => h.look _ hwn)
 have HF := qh (fun W A c h hc => find_calls A c (T.node td).ents s W h hc hl hR)
 have HCO := qh (fun W h (hz : cutE T td s = 0) => cut_ok p B T td s W h ht hl hR hwn hcnt hz)
 clear h hl hR hn hwn ht hcnt
 unfold roomE at he
 generalize cutE T td s = ce at *
 generalize cutT T td s = cT at *
 generalize T.node (findE (T.node td).ents s).1 = yo at *
 generalize T.node n = yn at *
 generalize hx : T.node td = x at *
 obtain ⟨k, u, d, l⟩ := x
 simp only [] at *
 clear hx
 generalize findE l s = fe at *
 obtain ⟨o, fb⟩ := fe
 obtain ⟨ko, uo, dd, lo⟩ := yo
 obtain ⟨kn, un, dn, ln⟩ := yn
 simp only [] at *
 subst hin
 rw [if_neg (by simp)] at he
 have c0 := HT.out.cell0
 obtain ⟨A0, m0, hle0, hC0, hrun⟩ := HLT.out _ HT.out
 have hrun0 := hrun _ (Below.refl _ _)
 have HC0 := qh hC0
 clear hrun hC0
 by_cases h1 : o = n
 ·
  rw [if_pos h1] at he
  cases he
 rw [if_neg h1] at he
 have b1 : (o == n) = false := beq_eq_false_iff_ne.2 h1
 by_cases ko1 : ko = 1
 ·
  subst ko1
  by_cases kn1 : kn = 1
  ·
   subst kn1
   rw [if_neg (by simp), if_neg (by simp)] at he
   have he : ce = 0 := (Prod.mk.inj he).2
   have HHE := qh he
   clear h1 he
   go_enter Tryz.func148, Tryz.ntmps148
   go_upto_region 2 with (go_at_call 94; refine (HF.out _ _ _ HC0.out hle0).mono ?_; rintro e w3 ⟨rfl, hb3⟩)
   have HT3 := qh (HT.out.below (below_drew hb3))
   have c3 := HT3.out.cell0
   obtain ⟨A3, m3, -, -, hrun⟩ := HLN.out _ HT3.out
   have hrun3 := hrun _ (Below.refl _ _)
   obtain ⟨A4, m4, -, -, hrun⟩ := HLO.out _ HT3.out
   have hrun4 := hrun _ (Below.refl _ _)
   clear hrun hrun0 c0
   go_region
   all_goals go_wp2_with (go_at_call 146; refine (HCO.out _ HT3.out HHE.out).mono ?_; rintro e w4 ⟨rfl, hT4, hF4⟩)
   all_goals go_ret2
   all_goals exact ⟨rfl, hT4, (Frm.ofBelow (below_drew hb3)).trans hF4⟩
  ·
   rw [if_pos ⟨rfl, kn1⟩] at he
   cases he
 ·
  have b3 : (ko == 1) = false := beq_eq_false_iff_ne.2 ko1
  rw [if_neg (fun h => ko1 h.1)] at he
  by_cases kn1 : kn = 1
  ·
   rw [if_pos ⟨kn1, ko1⟩] at he
   cases he
  ·
   have b2 : (kn == 1) = false := beq_eq_false_iff_ne.2 kn1
   rw [if_neg (fun h => kn1 h.1)] at he
   have he : ce = 0 := (Prod.mk.inj he).2
   have HHE := qh he
   clear h1 ko1 kn1 he
   go_enter Tryz.func148, Tryz.ntmps148
   go_upto_region 2 with (go_at_call 94; refine (HF.out _ _ _ HC0.out hle0).mono ?_; rintro e w3 ⟨rfl, hb3⟩)
   have HT3 := qh (HT.out.below (below_drew hb3))
   have c3 := HT3.out.cell0
   obtain ⟨A3, m3, -, -, hrun⟩ := HLN.out _ HT3.out
   have hrun3 := hrun _ (Below.refl _ _)
   obtain ⟨A4, m4, -, -, hrun⟩ := HLO.out _ HT3.out
   have hrun4 := hrun _ (Below.refl _ _)
   clear hrun hrun0 c0
   go_region
   all_goals go_wp2_with (go_at_call 146; refine (HCO.out _ HT3.out HHE.out).mono ?_; rintro e w4 ⟨rfl, hT4, hF4⟩)
   all_goals go_ret2
   all_goals exact ⟨rfl, hT4, (Frm.ofBelow (below_drew hb3)).trans hF4⟩
end Go.Proofs.YtnpeeiikdcankaaGreat.Tw
