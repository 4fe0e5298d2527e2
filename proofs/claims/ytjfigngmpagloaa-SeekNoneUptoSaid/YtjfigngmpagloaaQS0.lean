/- Texts of this session, merged: Range, Spec, Shelf, PathA, PathB, AnyB, PathC, ExtPath, X0, Cmp, X12, Tree, Pure0, Ents, Insert, EntPut, Enter. -/
import Derived.RangeFuncNested
import Derived.RangeFuncBound
import Derived.RangeFuncCalls
import Derived.RangeFuncLeaves
import Derived.Lib.IndexLaws
import Derived.Lib.Bytes
import Derived.Lib.Join
import Derived.Lib.IndexAny
import Derived.Shelf.Strings.Builder1
import Derived.Shelf.Strings.Builder2
import Derived.Shelf.Strings.OnBuilder
import Derived.Shelf.Small.Utf8
import Derived.Shelf.Small.Strs
import Derived.Shelf.Strings.BuilderF
import Derived.Shelf.Strings.BuilderK
import Derived.Shelf.Strings.Builder2Cap
import Derived.Shelf.Strings.Search1
import Derived.Shelf.Strings.Search2
import Derived.Shelf.Strings.Cut
import Derived.Shelf.LaysM
import Derived.Shelf.Strings.Shaped
import Derived.Shelf.Strings.Prefix
import Derived.Shelf.Strings.Runes
import Derived.Shelf.Strings.IndexAny
import Derived.Shelf.Strings.AsciiSet
import Derived.Shelf.Strings.IndexAnyAll
import Derived.Shelf.Strings.BuilderCap
import Derived.Ground.Names2Prog
import Derived.Shelf.Slices.ReverseS
import Derived.Shelf.Slices.Clone
import Derived.Shelf.Slices.Cells
import Derived.Test.YtjfigngmpagloaaProg
import Derived.RangeFuncBox
import Derived.Shelf.Abstract
import Derived.WalkKit
import Derived.WalkSpells
import Derived.OwnWalkIn
import Derived.TacticsInMore
import Derived.LoopNIn
import Derived.LoopIn
import Derived.Maps.AppendAt
import Derived.Deep.QuietTactic
import Derived.BigQuiet
import Derived.OpenShut
import Derived.Lib.Hide
import Derived.Test.YtjfigngmpagloaaWWords
import Derived.WalkSmall
import Derived.Lib.OthersKept
import Derived.Lib.TrimU
import Derived.Deep.LoopGhost
import Derived.Laws.Runes
import Derived.IntWalk
import Derived.WalkMore
import Derived.WalkLawsBesides
import Derived.Below
import Derived.Deep.Draws
import Derived.Deep.AppendLies
import Derived.OwnWalk
import Derived.Laws.BytesArg
import Derived.Laws.MakeOwn
import Derived.Laws.OwnMore
import Derived.Deep.OwnRows
import Derived.Tactics
import Derived.Lib.ConvBytes
import Derived.Laws.Slices
import Derived.KernelRfl
import Derived.RowKit3
import Derived.WideLaws
import Derived.Deep.DeepCutAuto
import Derived.Deep.CutBlock
import Derived.Deep.RegionHeld3
import Derived.Laws.Rows
import Derived.Lib.AppendStr
import Derived.ArgAppend
import Derived.Laws.IdiomCopy
import Derived.OrdersHeld
import Derived.Laws.BitsLemmas
import Derived.RowKit
import Derived.Test.YtjfigngmpagloaaWLast
import Derived.Test.YtjfigngmpagloaaWTab
import Derived.Test.YtjfigngmpagloaaWQPut
import Derived.Test.YtjfigngmpagloaaWApart
import Derived.Test.YtjfigngmpagloaaWArr
import Derived.Test.YtjfigngmpagloaaWZeros
import Derived.Test.YtjfigngmpagloaaWFoot
import Derived.Test.YtjfigngmpagloaaWKept
import Derived.Test.YtjfigngmpagloaaWShare
import Derived.Test.YtjfigngmpagloaaWN
import Derived.Test.YtjfigngmpagloaaWEqStruct
import Derived.Test.YtjfigngmpagloaaWRepsOne
import Derived.Test.YtjfigngmpagloaaWGuard
import Derived.Test.YtjfigngmpagloaaWNEv
import Derived.Test.YtjfigngmpagloaaWMore
import Derived.LoopTactic
import Derived.Outline
import Derived.Maps.OwnSet
import Derived.Lib.Overlaps
import Derived.Lib.AppendZerosOnto
import Derived.Laws.CopyOwn
import Derived.Laws.Externs
import Derived.Maps.Views

namespace Go.Proofs.Ytjfigngmpagloaa.Rg
open Go Go.RowKit

variable {F : Fence} {n : Nat} {P : Program}

/-- The iterator may store into its own variable Bs; a round that goes on keeps that variable. -/
def Iter {α : Type} (F : Fence) (n : Nat) (P : Program) (g : Nat) (lb : Array Value) (encs : α → Array Value) (Bs : Nat) (t : TypeId) (xs : List α) (w : World) : Prop :=
  ∀ (l : Nat) (J Jx : List α → World → Prop) (W : World), Below w.heap.size w W → AbidesFrom W.heap.size J → AbidesFrom W.heap.size Jx →
    (∀ pre W1 v, J pre W1 → J pre (W1.setCell ⟨Bs, 0, none⟩ v)) →
    (∀ pre x W1, J pre W1 → pre ++ [x] <+: xs → YieldAt F (n - 1) P l (encs x) W1 fun e W' =>
      (e = .returned (.bool true) ∧ J (pre ++ [x]) W' ∧ (∀ v, Boxed W1 Bs t v → Boxed W' Bs t v)) ∨ (e = .returned (.bool false) ∧ Jx (pre ++ [x]) W')) →
    J [] W →
    CallsIn F n P g (#[.func (.yield l) #[] #[]] ++ lb) W fun e W' => (∃ v, e = .returned v) ∧ (J xs W' ∨ (∃ pre, pre <+: xs ∧ Jx pre W'))

/-- How the body of a round may be left. -/
def post {α : Type} (Bs : Nat) (t : TypeId) (I : List α → World → Prop) (Ix : Code → List α → World → Prop) (xs : List α) (W : World) : Exit → Act → World → Prop
  | .normal, _, W' => KeepsOthers W W' ∧ (∀ v, Boxed W Bs t v → Boxed W' Bs t v) ∧ I xs W'
  | .ret, _, W' => KeepsOthers W W' ∧ Ix .ret xs W'
  | .exit id, _, W' => KeepsOthers W W' ∧ Ix (.exit id) xs W'
  | .goto t, _, W' => KeepsOthers W W' ∧ Ix (.goto t) xs W'
  | .panic _, _, _ => False
  | .outgrown, _, _ => False

theorem boxed_putObj {W : World} {B l : Nat} {t : TypeId} {v : Value} (h : Boxed W B t v) (o : Obj) (hne : B ≠ l) : Boxed (W.putObj l o) B t v := (World.putObj_heap_other hne).trans h
theorem heap_setCell_other {W : World} {B k : Nat} {v : Value} (hne : k ≠ B) : (W.setCell ⟨B, 0, none⟩ v).heap[k]? = W.heap[k]? := Below.heap_setCell W ⟨B, 0, none⟩ v k hne

theorem wpIn_range {α : Type} {g : Operand} {ps : Array Tmp} {assign body : Code} {Q : Exit → Act → World → Prop} {a : Act} {w : World}
    (hro : F.round = none) (h1 : 1 ≤ n) {gf : Nat} {lb : Array Value} (hg : a.eval g = .func (.func gf) #[] lb) (hFg : F.fn gf) (eg : ∀ args w, (callFunc gf args).run P w = .ok (.enter gf args) w)
    {encs : α → Array Value} {Bs : Nat} {t : TypeId} {xs : List α} {w0 : World} (hseq : Iter F (n - 1) P gf lb encs Bs t xs w0) (hBs : Bs < w.heap.size)
    (hb0 : Below w0.heap.size w0 w) (hps : ∀ x, (encs x).size = ps.size)
    (I : List α → World → Prop) (Ix : Code → List α → World → Prop) (hI : OwnFrom w.heap.size I) (hIx : ∀ c, OwnFrom w.heap.size (Ix c))
    (hIs : ∀ pre W v, I pre W → I pre (W.setCell ⟨Bs, 0, none⟩ v)) (h0 : I [] w) (a₁ : α → Act)
    (hassign : ∀ (l : Nat) (x : α) (W : World) (K : Act → World → Prop), K (a₁ x) W →
      assign.wpIn (F.inRound l) (n - 1 - 1) P (Exit.then K (fun _ _ _ => False)) { tmps := (ps.zip (encs x)).foldl (fun t (p, v) => t.setIfInBounds p v) a.tmps, defers := [] } W)
    (hbody : ∀ (l : Nat) (pre : List α) (x : α) (W : World), I pre W → pre ++ [x] <+: xs → body.wpIn (F.inRound l) (n - 1 - 1) P (post Bs t I Ix (pre ++ [x]) W) (a₁ x) W)
    (hdone : ∀ (D : Nat) (W : World), w.heap.size ≤ D → I xs W → W.heap[D]? = some (.deferred (some [])) → Q .normal { a with defers := { target := .collected D, args := #[] } :: a.defers } W)
    (hstop : ∀ (D : Nat) (c : Code) (pre : List α) (W : World), w.heap.size ≤ D → pre <+: xs → Ix c pre W → W.heap[D]? = some (.deferred (some [])) → c.wpIn F n P Q { a with defers := { target := .collected D, args := #[] } :: a.defers } W) :
    (Code.rangeFunc g ps assign body).wpIn F n P Q a w := by
  refine wpIn_rangeFunc fun fn hfn => ?_
  rw [hro]
  obtain ⟨L, hL⟩ : ∃ L : LoopState → Option Code → Loop, L = fun st pe => { state := st, pending := pe, fn, tmps := a.tmps, params := ps, assign, body, defers := w.heap.size } := ⟨_, rfl⟩
  obtain ⟨W1, hW1⟩ : ∃ W1, (w.alloc (.deferred (some []))).alloc (.loop (L .ready none)) = W1 := ⟨_, rfl⟩
  have lay1 : W1.heap[w.heap.size + 1]? = some (.loop (L .ready none)) := by
    rw [← hW1]; have := World.alloc_heap_new (w.alloc (.deferred (some []))) (.loop (L .ready none)); rwa [World.size_alloc] at this
  have lay0 : W1.heap[w.heap.size]? = some (.deferred (some [])) := by
    rw [← hW1]; exact (Below.heap_alloc _ _ _ (by simp)).trans (World.alloc_heap_new w _)
  have inv1 : I [] W1 := by rw [← hW1]; exact hI.alloc _ (hI.alloc _ h0)
  have below1 : Below w0.heap.size w0 W1 := by
    rw [← hW1]; exact hb0.trans ((((Below.refl _ w).alloc (Nat.le_refl _) _).alloc (by simp) _).mono hb0.size)
  refine ⟨w.heap.size + 1, [{ target := .collected w.heap.size, args := #[] }], W1, { target := .fn (.func gf) lb, args := #[.func (.yield (w.heap.size + 1)) #[] #[]] }, W1, gf,
    #[.func (.yield (w.heap.size + 1)) #[] #[]] ++ lb, W1, ?_, ?_, ?_, ?_, fun _ => h1, ?_⟩
  · rw [← hW1, hL]; exact run_enterLoop_outer _ _ _ _ _
  · simp only [resolve, hg]
    simp [go_sem]
  · intro f' hf'; simp [Target.leads] at hf'; subst hf'; exact hFg
  · simp [invoke, go_sem, eg]
  · have walk : ∀ {A B : World} {row : Option Nat}, (∀ r, row = some r → W1.heap.size ≤ r ∧ ∃ o : Obj, A.heap[r]? = some o ∧ o.isWalk = true) → (∀ r, row = some r → w.heap.size ≤ r ∧ ∃ o : Obj, A.heap[r]? = some o ∧ o.isCells = false) :=
      fun hr r e => by obtain ⟨hB, o, ho, hw⟩ := hr r e; exact ⟨by rw [← hW1] at hB; simp at hB; omega, o, ho, Obj.not_cells_of_walk hw⟩
    refine (hseq (w.heap.size + 1)
      (fun pre W => I pre W ∧ W.heap[w.heap.size + 1]? = some (.loop (L .ready none)) ∧ W.heap[w.heap.size]? = some (.deferred (some [])))
      (fun pre W => ∃ c, Ix c pre W ∧ W.heap[w.heap.size + 1]? = some (.loop (L .done (some c))) ∧ W.heap[w.heap.size]? = some (.deferred (some [])))
      W1 below1
      (fun s A B row hs hg' hr => ⟨hI s A B row hs.1 hg' (walk (B := B) hr), (grownBy_keeps hg' (fun r e => (hr r e).2) hs.2.1 rfl).trans hs.2.1, (grownBy_keeps hg' (fun r e => (hr r e).2) hs.2.2 rfl).trans hs.2.2⟩)
      (fun s A B row ⟨c, hc, hl, hk⟩ hg' hr => ⟨c, hIx c s A B row hc hg' (walk (B := B) hr), (grownBy_keeps hg' (fun r e => (hr r e).2) hl rfl).trans hl, (grownBy_keeps hg' (fun r e => (hr r e).2) hk rfl).trans hk⟩)
      (fun pre W v hs => ⟨hIs pre W v hs.1, (heap_setCell_other (by omega)).trans hs.2.1, (heap_setCell_other (by omega)).trans hs.2.2⟩)
      ?_ ⟨inv1, lay1, lay0⟩).mono ?_
    · rintro pre x W ⟨hi, hl, hk⟩ hpx
      have hlt : w.heap.size + 1 < W.heap.size := (Array.getElem?_eq_some_iff.1 hl).1
      have hy := run_yield (P := P) (args := encs x) hl (by rw [hL]; exact hps x)
      rw [hL] at hy
      refine ⟨fn, _, assign, body, hy, roundIn_of_wpIn hfn (hassign _ x W _ ⟨_, run_beginRound hl (by rw [hL]), ?_⟩)⟩
      have hl2 : (W.putObj (w.heap.size + 1) (.loop { L .ready none with state := .busy })).heap[w.heap.size + 1]? = some (.loop { L .ready none with state := .busy }) := World.putObj_heap_same hlt
      have hk2 : (W.putObj (w.heap.size + 1) (.loop { L .ready none with state := .busy })).heap[w.heap.size]? = some (.deferred (some [])) := (World.putObj_heap_other (by omega)).trans hk
      refine wpIn_mono (hbody _ pre x _ (hI.putObj _ hi (by omega) hl rfl) hpx) ?_
      have fin : ∀ (jump : Option Code) (W3 : World), KeepsOthers (W.putObj (w.heap.size + 1) (.loop { L .ready none with state := .busy })) W3 →
          (Instr.endRound (w.heap.size + 1) jump).run P W3 = .ok (.bool jump.isNone) (W3.putObj (w.heap.size + 1) (.loop (L (if jump.isNone then .ready else .done) jump))) ∧
          W3.heap[w.heap.size + 1]? = some (.loop { L .ready none with state := .busy }) ∧
          (W3.putObj (w.heap.size + 1) (.loop (L (if jump.isNone then .ready else .done) jump))).heap[w.heap.size + 1]? = some (.loop (L (if jump.isNone then .ready else .done) jump)) ∧
          (W3.putObj (w.heap.size + 1) (.loop (L (if jump.isNone then .ready else .done) jump))).heap[w.heap.size]? = some (.deferred (some [])) := fun jump W3 hk3 => by
        have hl3 := hk3.same _ _ hl2 rfl
        have := run_endRound (P := P) jump hl3
        rw [hL] at this ⊢
        exact ⟨this, by rw [hL] at hl3; exact hl3, World.putObj_heap_same (Array.getElem?_eq_some_iff.1 hl3).1, (World.putObj_heap_other (by omega)).trans (hk3.same _ _ hk2 rfl)⟩
      rintro e a3 W3 hp
      cases e with
      | normal =>
        obtain ⟨hk3, hkp3, hi3⟩ := hp
        obtain ⟨hr, hl3, hl4, hk4⟩ := fin none W3 hk3
        exact ⟨_, _, hr, .inl ⟨rfl, ⟨hI.putObj _ hi3 (by omega) hl3 rfl, hl4, hk4⟩, fun v hv => boxed_putObj (hkp3 v (boxed_putObj hv _ (by omega))) _ (by omega)⟩⟩
      | ret =>
        obtain ⟨hk3, hi3⟩ := hp
        obtain ⟨hr, hl3, hl4, hk4⟩ := fin (some .ret) W3 hk3
        exact ⟨_, _, hr, .inr ⟨rfl, .ret, (hIx _).putObj _ hi3 (by omega) hl3 rfl, hl4, hk4⟩⟩
      | exit id =>
        obtain ⟨hk3, hi3⟩ := hp
        obtain ⟨hr, hl3, hl4, hk4⟩ := fin (some (.exit id)) W3 hk3
        exact ⟨_, _, hr, .inr ⟨rfl, .exit id, (hIx _).putObj _ hi3 (by omega) hl3 rfl, hl4, hk4⟩⟩
      | goto t =>
        obtain ⟨hk3, hi3⟩ := hp
        obtain ⟨hr, hl3, hl4, hk4⟩ := fin (some (.goto t)) W3 hk3
        exact ⟨_, _, hr, .inr ⟨rfl, .goto t, (hIx _).putObj _ hi3 (by omega) hl3 rfl, hl4, hk4⟩⟩
      | panic ch => exact hp.elim
      | outgrown => exact hp.elim
    · rintro e W2 ⟨⟨v, rfl⟩, (⟨hi, hl, hk⟩ | ⟨pre, hSp, c, hi, hl, hk⟩)⟩
      · exact ⟨none, _, by have := run_endLoop (P := P) hl (by rw [hL]; simp); rw [hL] at this; exact this, hdone _ _ (Nat.le_refl _) (hI.putObj _ hi (by omega) hl rfl) ((World.putObj_heap_other (by omega)).trans hk)⟩
      · exact ⟨some c, _, by have := run_endLoop (P := P) hl (by rw [hL]; simp); rw [hL] at this; exact this, hstop _ c pre _ (Nat.le_refl _) hSp ((hIx c).putObj _ hi (by omega) hl rfl) ((World.putObj_heap_other (by omega)).trans hk)⟩

end Go.Proofs.Ytjfigngmpagloaa.Rg

namespace Go.Proofs.Ytjfigngmpagloaa.Sp
open Go Go.Lib

def mk (l : List UInt8) : ByteArray := ⟨l.toArray⟩
@[simp] theorem mk_data (l : List UInt8) : (mk l).data.toList = l := by simp [mk]
theorem mk_toList (l : List UInt8) : (mk l).toList = l := by rw [toList_data, mk_data]
theorem mk_of (s : ByteArray) : mk s.data.toList = s := by
  apply ByteArray.ext
  simp [mk]
theorem mk_size (l : List UInt8) : (mk l).size = l.length := by simp [mk, ByteArray.size]
theorem size_eq (s : ByteArray) : s.size = s.data.toList.length := by rw [Array.length_toList]; rfl
theorem mk_cons (c : UInt8) (l : List UInt8) : mk (c :: l) = ⟨#[c]⟩ ++ mk l := by
  apply ByteArray.ext
  simp [mk]
theorem mk_append (a b : List UInt8) : mk (a ++ b) = mk a ++ mk b := by
  apply ByteArray.ext
  simp [mk]
theorem mk_inj {a b : List UInt8} (h : mk a = mk b) : a = b := by
  have := congrArg (fun x : ByteArray => x.data.toList) h
  simpa using this

/-- A part that counts is kept. -/
def keep (now : List UInt8) (r : List (List UInt8)) : List (List UInt8) := if now = [] ∨ now = [46] then r else now :: r
def go (now : List UInt8) : List UInt8 → List (List UInt8)
  | [] => keep now []
  | c :: l => if c = 47 then keep now (go [] l) else go (now ++ [c]) l
def parts (s : List UInt8) : List (List UInt8) := go [] s
def climb (out : List (List UInt8)) (p : List UInt8) : List (List UInt8) := if p = [46, 46] then out.dropLast else out ++ [p]
def climbs (l : List (List UInt8)) : List (List UInt8) := l.foldl climb []
def text (l : List (List UInt8)) : List UInt8 := 47 :: Lib.join l [47]
def clean (s : List UInt8) : List UInt8 := text (climbs (parts s))

theorem go_none (now l : List UInt8) (h : ∀ k : Nat, l[k]? ≠ some (47 : UInt8)) : go now l = keep (now ++ l) [] := by
  induction l generalizing now with
  | nil => simp [go]
  | cons c l ih =>
    have hc : c ≠ 47 := fun e => h 0 (by simp [e])
    rw [go, if_neg hc, ih _ (fun k => by simpa using h (k + 1))]
    simp
theorem go_at (now : List UInt8) (o : Nat) (l : List UInt8) (h : l[o]? = some (47 : UInt8)) (hb : ∀ k : Nat, k < o → l[k]? ≠ some (47 : UInt8)) : go now l = keep (now ++ l.take o) (go [] (l.drop (o + 1))) := by
  induction o generalizing now l with
  | zero =>
    cases l with
    | nil => simp at h
    | cons c l =>
      obtain rfl : c = 47 := by simpa using h
      rw [go, if_pos rfl]
      simp
  | succ o ih =>
    cases l with
    | nil => simp at h
    | cons c l =>
      have hc : c ≠ 47 := fun e => hb 0 (by omega) (by simp [e])
      rw [go, if_neg hc, ih _ _ (by simpa using h) (fun k hk => by simpa using hb (k + 1) (by omega))]
      simp
theorem parts_none (s : List UInt8) (h : indexByte s 47 = -1) : parts s = keep s [] := by
  rw [parts, go_none _ _ (indexByte_none h), List.nil_append]
theorem parts_at (s : List UInt8) (o : Nat) (h : indexByte s 47 = o) : parts s = keep (s.take o) (parts (s.drop (o + 1))) := by
  obtain ⟨h1, h2⟩ := indexByte_some h
  rw [parts, go_at _ o _ h1 h2, List.nil_append, parts]
@[simp] theorem parts_nil : parts [] = [] := by simp [parts, go, keep]
theorem keep_app (now : List UInt8) (r : List (List UInt8)) : keep now r = keep now [] ++ r := by unfold keep; split <;> simp
theorem keep_one (now : List UInt8) : (keep now []).length ≤ 1 := by unfold keep; split <;> simp
theorem keep_len (now : List UInt8) (r : List (List UInt8)) : (keep now r).length ≤ now.length + r.length := by
  unfold keep
  split
  · omega
  · rename_i h
    cases now with
    | nil => simp at h
    | cons c l => simp; omega
theorem go_len (now l : List UInt8) : (go now l).length ≤ now.length + l.length := by
  induction l generalizing now with
  | nil => rw [go]; have := keep_len now []; simpa using this
  | cons c l ih =>
    rw [go]
    split
    · have h1 := keep_len now (go [] l)
      have h2 := ih []
      simp at h2 ⊢
      omega
    · have := ih (now ++ [c])
      simp at this ⊢
      omega
theorem parts_len (s : List UInt8) : (parts s).length ≤ s.length := by have := go_len [] s; simpa [parts] using this

/-- How much room parts take, each with a slash. -/
def room (l : List (List UInt8)) : Nat := (l.map fun x => x.length + 1).sum
@[simp] theorem room_nil : room [] = 0 := rfl
@[simp] theorem room_cons (x : List UInt8) (l : List (List UInt8)) : room (x :: l) = x.length + 1 + room l := by simp [room]
theorem room_append (l m : List (List UInt8)) : room (l ++ m) = room l + room m := by simp [room]
theorem keep_room (now : List UInt8) (r : List (List UInt8)) : room (keep now r) ≤ now.length + 1 + room r := by
  unfold keep
  split
  · omega
  · simp
theorem go_room (now l : List UInt8) : room (go now l) ≤ now.length + l.length + 1 := by
  induction l generalizing now with
  | nil => rw [go]; have := keep_room now []; simpa using this
  | cons c l ih =>
    rw [go]
    split
    · have h1 := keep_room now (go [] l)
      have h2 := ih []
      simp at h2 ⊢
      omega
    · have := ih (now ++ [c])
      simp at this ⊢
      omega
theorem parts_room (s : List UInt8) : room (parts s) ≤ s.length + 1 := by have := go_room [] s; simpa [parts] using this
theorem dropLast_room (l : List (List UInt8)) : room l.dropLast ≤ room l := by
  rcases List.eq_nil_or_concat l with h | ⟨a, b, rfl⟩
  · subst h; simp
  · rw [List.concat_eq_append, List.dropLast_concat, room_append]; omega
theorem climb_room (out : List (List UInt8)) (p : List UInt8) : room (climb out p) ≤ room out + (p.length + 1) := by
  unfold climb
  split
  · have := dropLast_room out; omega
  · rw [room_append]; simp
theorem foldl_room (l out : List (List UInt8)) : room (l.foldl climb out) ≤ room out + room l := by
  induction l generalizing out with
  | nil => simp
  | cons p l ih =>
    have h1 := ih (climb out p)
    have h2 := climb_room out p
    simp at h1 ⊢
    omega
theorem climbs_room (l : List (List UInt8)) : room (climbs l) ≤ room l := by have := foldl_room l []; simpa [climbs] using this
theorem climbs_snoc (l : List (List UInt8)) (p : List UInt8) : climbs (l ++ [p]) = climb (climbs l) p := by simp [climbs]
theorem climb_len (out : List (List UInt8)) (p : List UInt8) : (climb out p).length ≤ out.length + 1 := by
  unfold climb
  split <;> simp
  omega
theorem foldl_len (l out : List (List UInt8)) : (l.foldl climb out).length ≤ out.length + l.length := by
  induction l generalizing out with
  | nil => simp
  | cons p l ih =>
    have h1 := ih (climb out p)
    have h2 := climb_len out p
    simp at h1 ⊢
    omega
theorem climbs_len (l : List (List UInt8)) : (climbs l).length ≤ l.length := by have := foldl_len l []; simpa [climbs] using this
theorem tail_room (l : List (List UInt8)) : (Lib.joinTail [47] l).length = room l := by
  induction l with
  | nil => rfl
  | cons x l ih => simp [Lib.joinTail] at ih ⊢; rw [ih]; omega
theorem join_room (l : List (List UInt8)) : (Lib.join l [47]).length ≤ room l := by
  cases l with
  | nil => simp [Lib.join_nil]
  | cons x l =>
    rw [Lib.join_cons, List.length_append, tail_room, room_cons]
    omega

theorem mem_room {x : List UInt8} {l : List (List UInt8)} (h : x ∈ l) : x.length + 1 ≤ room l := by
  induction l with
  | nil => cases h
  | cons y l ih =>
    rw [room_cons]
    rcases List.mem_cons.1 h with rfl | h
    · omega
    · have := ih h; omega
theorem len_room (l : List (List UInt8)) : l.length ≤ room l := by
  induction l with
  | nil => simp
  | cons y l ih => rw [room_cons, List.length_cons]; omega
/-- What is wrong with a name. -/
def check (s : List UInt8) : Int := if s = [] then 5 else if 64 < s.length ∨ (47 ∈ s ∨ 0 ∈ s) then 11 else if s = [46] ∨ s = [46, 46] then 6 else 0
def right (s : List UInt8) : Bool := decide (check s = 0)
theorem containsAny_iff (s chars : List UInt8) : Lib.containsAny s chars = true ↔ ∃ b ∈ s, b ∈ chars := by
  rw [Lib.containsAny, decide_eq_true_eq]
  induction s with
  | nil => simp [Lib.indexAny]
  | cons b l ih =>
    have hge := Lib.indexAny_ge chars l
    unfold Lib.indexAny
    by_cases h : chars.contains b = true
    · rw [if_pos h]
      exact ⟨fun _ => ⟨b, by simp, by simpa using h⟩, fun _ => Int.le_refl _⟩
    · rw [if_neg h]
      have hb : b ∉ chars := by simpa using h
      by_cases h2 : (Lib.indexAny l chars == -1) = true
      · rw [if_pos h2]
        have h3 : Lib.indexAny l chars = -1 := by simpa using h2
        constructor
        · intro h4; omega
        · rintro ⟨x, hx, hc⟩
          rcases List.mem_cons.1 hx with rfl | hx
          · exact absurd hc hb
          · have := ih.2 ⟨x, hx, hc⟩; omega
      · rw [if_neg h2]
        have h3 : Lib.indexAny l chars ≠ -1 := by simpa using h2
        constructor
        · intro _
          obtain ⟨x, hx, hc⟩ := ih.1 (by omega)
          exact ⟨x, List.mem_cons_of_mem _ hx, hc⟩
        · intro _; omega

end Go.Proofs.Ytjfigngmpagloaa.Sp

namespace Go.Proofs
open Go.Shelf
def Try.lays156_ren : Go.Shelf.Ren := ⟨fun | 156 => 68 | 165 => 100 | 166 => 101 | 169 => 102 | 240 => 119 | 241 => 120 | 276 => 133 | 277 => 134 | n => n, fun | 31 => 42 | 9 => 9 | 3 => 3 | 4 => 4 | 0 => 0 | 20 => 20 | 72 => 153 | 76 => 157 | 70 => 150 | 37 => 151 | 75 => 156 | 127 => 173 | 164 => 184 | 5 => 5 | 80 => 159 | n => n, fun | n => n⟩
theorem Try.lays156 : Go.Proofs.Lays.n156 Try.prog Try.lays156_ren := {
  mixed := by kernel_rfl
  f156 := Try.func68.trans (congrArg some (by kernel_rfl))
  f165 := Try.func100.trans (congrArg some (by kernel_rfl))
  f166 := Try.func101.trans (congrArg some (by kernel_rfl))
  f169 := Try.func102.trans (congrArg some (by kernel_rfl))
  f240 := Try.func119.trans (congrArg some (by kernel_rfl))
  f241 := Try.func120.trans (congrArg some (by kernel_rfl))
  f276 := Try.func133.trans (congrArg some (by kernel_rfl))
  f277 := Try.func134.trans (congrArg some (by kernel_rfl))
  t0 := Try.underlying0
  a0 := Try.isAgg0
  z0 := Try.sizeOf0
  v0 := Try.zeroValue0
  t3 := Try.underlying3
  a3 := Try.isAgg3
  z3 := Try.sizeOf3
  v3 := Try.zeroValue3
  t4 := Try.underlying4
  a4 := Try.isAgg4
  z4 := Try.sizeOf4
  v4 := Try.zeroValue4
  t9 := Try.underlying9
  a9 := Try.isAgg9
  z9 := Try.sizeOf9
  v9 := Try.zeroValue9
  t20 := Try.underlying20
  a20 := Try.isAgg20
  z20 := Try.sizeOf20
  v20 := Try.zeroValue20
  t31 := Try.underlying42
  a31 := Try.isAgg42
  z31 := Try.sizeOf42
  v31 := Try.zeroValue42
  t37 := Try.underlying151
  a37 := Try.isAgg151
  z37 := Try.sizeOf151
  v37 := Try.zeroValue151
  t70 := Try.underlying150
  a70 := Try.isAgg150
  z70 := Try.sizeOf150
  v70 := Try.zeroValue150
  t72 := Try.underlying153
  a72 := Try.isAgg153
  z72 := Try.sizeOf153
  v72 := Try.zeroValue153
  t75 := Try.underlying156
  a75 := Try.isAgg156
  z75 := Try.sizeOf156
  v75 := Try.zeroValue156
  t76 := Try.underlying157
  a76 := Try.isAgg157
  z76 := Try.sizeOf157
  v76 := Try.zeroValue157
  t127 := Try.underlying173
  a127 := Try.isAgg173
  z127 := Try.sizeOf173
  v127 := Try.zeroValue173
  t164 := Try.underlying184
  a164 := Try.isAgg184
  z164 := Try.sizeOf184
  v164 := Try.zeroValue184 }
theorem Try.Builder_Extra_156 : Builder.Extra Try.prog Try.lays156_ren := {
  sizeBuilder := by kernel_rfl
  liesBuilder := by kernel_rfl
  t5 := Try.underlying5
  a5 := Try.isAgg5
  z5 := Try.sizeOf5
  v5 := Try.zeroValue5
  infoByte := by kernel_rfl
  cellsByte := by kernel_rfl
  sizeByte := by kernel_rfl
  neB5 := by decide }
open Go.RowKit in
theorem Try.strings_Join_none (a : Option Addr) (c : Nat) (sep : ByteArray) (w : World) :
    Calls Try.prog 68 #[.slice a 0 c, .string sep] w fun e w' => e = .returned (.string ⟨#[]⟩) ∧ w' = w := Any.strings_Join_none Try.lays156 Try.Builder_Extra_156 a c sep w
open Go.RowKit in
theorem Try.strings_Join (bk o c : Nat) (xs : List ByteArray) (sep : ByteArray) (w : World) (hcells : ∀ (j : Nat) x, xs[j]? = some x → w.cell? ⟨bk, o + j, none⟩ = some (.string x)) (hbk : bk < w.heap.size) (hN : xs.length ≤ 140737488355328) (hcap : xs.length ≤ c) (hlen : (Lib.join (xs.map (·.data.toList)) sep.data.toList).length ≤ 140737488355328) :
    Calls Try.prog 68 #[.slice (some ⟨bk, o, none⟩) xs.length c, .string sep] w fun e w' => e = .returned (.string ⟨(Lib.join (xs.map (·.data.toList)) sep.data.toList).toArray⟩) ∧ Below w.heap.size w w' := Any.strings_Join Try.lays156 Try.Builder_Extra_156 bk o c xs sep w hcells hbk hN hcap hlen
def Try.lays119_ren : Go.Shelf.Ren := ⟨fun | 119 => 139 | n => n, fun | 21 => 21 | 4 => 4 | n => n, fun | n => n⟩
theorem Try.lays119 : Go.Proofs.Lays.n119 Try.prog Try.lays119_ren := {
  mixed := by kernel_rfl
  f119 := Try.func139.trans (congrArg some (by kernel_rfl))
  t4 := Try.underlying4
  a4 := Try.isAgg4
  z4 := Try.sizeOf4
  v4 := Try.zeroValue4
  t21 := Try.underlying21
  a21 := Try.isAgg21
  z21 := Try.sizeOf21
  v21 := Try.zeroValue21 }
theorem Try.utf8_ValidRune (r : Int) (w : World) :
    Calls Try.prog 139 #[.int .i32 r] w fun e w' => e = .returned (.bool (Lib.validRune r)) ∧ w' = w := Any.utf8_ValidRune Try.lays119 r w
def Try.lays137_ren : Go.Shelf.Ren := ⟨fun | 137 => 138 | 217 => 142 | 266 => 145 | n => n, fun | 9 => 9 | 5 => 5 | 3 => 3 | n => n, fun | n => n⟩
theorem Try.lays137 : Go.Proofs.Lays.n137 Try.prog Try.lays137_ren := {
  mixed := by kernel_rfl
  f137 := Try.func138.trans (congrArg some (by kernel_rfl))
  f217 := Try.func142.trans (congrArg some (by kernel_rfl))
  f266 := Try.func145.trans (congrArg some (by kernel_rfl))
  t3 := Try.underlying3
  a3 := Try.isAgg3
  z3 := Try.sizeOf3
  v3 := Try.zeroValue3
  t5 := Try.underlying5
  a5 := Try.isAgg5
  z5 := Try.sizeOf5
  v5 := Try.zeroValue5
  t9 := Try.underlying9
  a9 := Try.isAgg9
  z9 := Try.sizeOf9
  v9 := Try.zeroValue9 }
open Go.RowKit in
theorem Try.strings_IndexByte (s : ByteArray) (c : Int) (w : World) :
    Calls Try.prog 138 #[.string s, .int .u8 c] w fun e w' => e = .returned (.int .i64 (Lib.indexByte s.data.toList c.toNat.toUInt8)) ∧ w' = w := Any.strings_IndexByte Try.lays137 s c w
def Try.lays219_ren : Go.Shelf.Ren := ⟨fun | 219 => 135 | 217 => 142 | 225 => 141 | 224 => 140 | 267 => 143 | 266 => 145 | 314 => 146 | n => n, fun | 9 => 9 | 3 => 3 | 4 => 4 | 5 => 5 | 46 => 175 | 146 => 192 | 51 => 191 | n => n, fun | 1 => 0 | n => n⟩
theorem Try.lays219 : Go.Proofs.Lays.n219 Try.prog Try.lays219_ren := {
  mixed := by kernel_rfl
  f217 := Try.func142.trans (congrArg some (by kernel_rfl))
  f219 := Try.func135.trans (congrArg some (by kernel_rfl))
  f224 := Try.func140.trans (congrArg some (by kernel_rfl))
  f225 := Try.func141.trans (congrArg some (by kernel_rfl))
  f266 := Try.func145.trans (congrArg some (by kernel_rfl))
  f267 := Try.func143.trans (congrArg some (by kernel_rfl))
  f314 := Try.func146.trans (congrArg some (by kernel_rfl))
  t3 := Try.underlying3
  a3 := Try.isAgg3
  z3 := Try.sizeOf3
  v3 := Try.zeroValue3
  t4 := Try.underlying4
  a4 := Try.isAgg4
  z4 := Try.sizeOf4
  v4 := Try.zeroValue4
  t5 := Try.underlying5
  a5 := Try.isAgg5
  z5 := Try.sizeOf5
  v5 := Try.zeroValue5
  t9 := Try.underlying9
  a9 := Try.isAgg9
  z9 := Try.sizeOf9
  v9 := Try.zeroValue9
  t46 := Try.underlying175
  a46 := Try.isAgg175
  z46 := Try.sizeOf175
  v46 := Try.zeroValue175
  t51 := Try.underlying191
  a51 := Try.isAgg191
  z51 := Try.sizeOf191
  v51 := Try.zeroValue191
  t146 := Try.underlying192
  a146 := Try.isAgg192
  z146 := Try.sizeOf192
  v146 := Try.zeroValue192
  g1 := by kernel_rfl }
open Go.RowKit Go.Lib in
theorem Try.stringslite_Index_one (s : ByteArray) (c : UInt8) (w : World) :
    Calls Try.prog 135 #[.string s, .string ⟨#[c]⟩] w fun e w' => e = .returned (.int .i64 (Lib.indexByte s.data.toList c)) ∧ w' = w := Any.stringslite_Index_one Try.lays219 s c w
def Try.lays99_ren : Go.Shelf.Ren := ⟨fun | 99 => 105 | 206 => 122 | n => n, fun | 9 => 9 | 4 => 4 | 3 => 3 | n => n, fun | n => n⟩
theorem Try.lays99 : Go.Proofs.Lays.n99 Try.prog Try.lays99_ren := {
  mixed := by kernel_rfl
  f99 := Try.func105.trans (congrArg some (by kernel_rfl))
  f206 := Try.func122.trans (congrArg some (by kernel_rfl))
  t3 := Try.underlying3
  a3 := Try.isAgg3
  z3 := Try.sizeOf3
  v3 := Try.zeroValue3
  t4 := Try.underlying4
  a4 := Try.isAgg4
  z4 := Try.sizeOf4
  v4 := Try.zeroValue4
  t9 := Try.underlying9
  a9 := Try.isAgg9
  z9 := Try.sizeOf9
  v9 := Try.zeroValue9 }
open Go.RowKit Go.Lib in
theorem Try.strings_HasPrefix (s p : ByteArray) (w : World) :
    Calls Try.prog 105 #[.string s, .string p] w fun e w' => e = .returned (.bool (Lib.hasPrefix s.data.toList p.data.toList)) ∧ w' = w := Any.strings_HasPrefix Try.lays99 s p w
def Try.lays152_ren : Go.Shelf.Ren := ⟨fun | 152 => 129 | 137 => 138 | 119 => 139 | 224 => 140 | 225 => 141 | 217 => 142 | 266 => 145 | n => n, fun | 9 => 9 | 21 => 21 | 3 => 3 | 4 => 4 | 5 => 5 | 0 => 0 | 46 => 175 | n => n, fun | n => n⟩
theorem Try.lays152 : Go.Proofs.Lays.n152 Try.prog Try.lays152_ren := {
  mixed := by kernel_rfl
  f119 := Try.func139.trans (congrArg some (by kernel_rfl))
  f137 := Try.func138.trans (congrArg some (by kernel_rfl))
  f152 := Try.func129.trans (congrArg some (by kernel_rfl))
  f217 := Try.func142.trans (congrArg some (by kernel_rfl))
  f224 := Try.func140.trans (congrArg some (by kernel_rfl))
  f225 := Try.func141.trans (congrArg some (by kernel_rfl))
  f266 := Try.func145.trans (congrArg some (by kernel_rfl))
  t0 := Try.underlying0
  a0 := Try.isAgg0
  z0 := Try.sizeOf0
  v0 := Try.zeroValue0
  t3 := Try.underlying3
  a3 := Try.isAgg3
  z3 := Try.sizeOf3
  v3 := Try.zeroValue3
  t4 := Try.underlying4
  a4 := Try.isAgg4
  z4 := Try.sizeOf4
  v4 := Try.zeroValue4
  t5 := Try.underlying5
  a5 := Try.isAgg5
  z5 := Try.sizeOf5
  v5 := Try.zeroValue5
  t9 := Try.underlying9
  a9 := Try.isAgg9
  z9 := Try.sizeOf9
  v9 := Try.zeroValue9
  t21 := Try.underlying21
  a21 := Try.isAgg21
  z21 := Try.sizeOf21
  v21 := Try.zeroValue21
  t46 := Try.underlying175
  a46 := Try.isAgg175
  z46 := Try.sizeOf175
  v46 := Try.zeroValue175 }
open Go.RowKit Go.Lib in
theorem Try.strings_IndexRune_ascii (s : ByteArray) (r : Int) (w : World) (h0 : 0 ≤ r) (h1 : r < 128) :
    Calls Try.prog 129 #[.string s, .int .i32 r] w fun e w' => e = .returned (.int .i64 (Lib.indexByte s.data.toList r.toNat.toUInt8)) ∧ w' = w := Any.strings_IndexRune_ascii Try.lays152 s r w h0 h1
def Try.lays226_ren : Go.Shelf.Ren := ⟨fun | 226 => 130 | n => n, fun | 3 => 3 | 4 => 4 | n => n, fun | n => n⟩
theorem Try.lays226 : Go.Proofs.Lays.n226 Try.prog Try.lays226_ren := {
  mixed := by kernel_rfl
  f226 := Try.func130.trans (congrArg some (by kernel_rfl))
  t3 := Try.underlying3
  a3 := Try.isAgg3
  z3 := Try.sizeOf3
  v3 := Try.zeroValue3
  t4 := Try.underlying4
  a4 := Try.isAgg4
  z4 := Try.sizeOf4
  v4 := Try.zeroValue4 }
open Go.RowKit Go.Lib in
theorem Try.strings_shouldUseASCIISet (n : Int) (w : World) :
    Calls Try.prog 130 #[.int .i64 n] w fun e w' => e = .returned (.bool (decide (8 < n))) ∧ w' = w := Any.strings_shouldUseASCIISet Try.lays226 n w
def Try.lays153_ren : Go.Shelf.Ren := ⟨fun | 153 => 118 | 152 => 129 | 226 => 130 | 227 => 131 | 228 => 132 | 137 => 138 | 119 => 139 | 224 => 140 | 225 => 141 | 217 => 142 | 266 => 145 | n => n, fun | 9 => 9 | 3 => 3 | 4 => 4 | 5 => 5 | 21 => 21 | 117 => 181 | 116 => 180 | 0 => 0 | 46 => 175 | 124 => 189 | n => n, fun | n => n⟩
theorem Try.lays153 : Go.Proofs.Lays.n153 Try.prog Try.lays153_ren := {
  mixed := by kernel_rfl
  f119 := Try.func139.trans (congrArg some (by kernel_rfl))
  f137 := Try.func138.trans (congrArg some (by kernel_rfl))
  f152 := Try.func129.trans (congrArg some (by kernel_rfl))
  f153 := Try.func118.trans (congrArg some (by kernel_rfl))
  f217 := Try.func142.trans (congrArg some (by kernel_rfl))
  f224 := Try.func140.trans (congrArg some (by kernel_rfl))
  f225 := Try.func141.trans (congrArg some (by kernel_rfl))
  f226 := Try.func130.trans (congrArg some (by kernel_rfl))
  f227 := Try.func131.trans (congrArg some (by kernel_rfl))
  f228 := Try.func132.trans (congrArg some (by kernel_rfl))
  f266 := Try.func145.trans (congrArg some (by kernel_rfl))
  t0 := Try.underlying0
  a0 := Try.isAgg0
  z0 := Try.sizeOf0
  v0 := Try.zeroValue0
  t3 := Try.underlying3
  a3 := Try.isAgg3
  z3 := Try.sizeOf3
  v3 := Try.zeroValue3
  t4 := Try.underlying4
  a4 := Try.isAgg4
  z4 := Try.sizeOf4
  v4 := Try.zeroValue4
  t5 := Try.underlying5
  a5 := Try.isAgg5
  z5 := Try.sizeOf5
  v5 := Try.zeroValue5
  t9 := Try.underlying9
  a9 := Try.isAgg9
  z9 := Try.sizeOf9
  v9 := Try.zeroValue9
  t21 := Try.underlying21
  a21 := Try.isAgg21
  z21 := Try.sizeOf21
  v21 := Try.zeroValue21
  t46 := Try.underlying175
  a46 := Try.isAgg175
  z46 := Try.sizeOf175
  v46 := Try.zeroValue175
  t116 := Try.underlying180
  a116 := Try.isAgg180
  z116 := Try.sizeOf180
  t117 := Try.underlying181
  a117 := Try.isAgg181
  z117 := Try.sizeOf181
  v117 := Try.zeroValue181
  t124 := Try.underlying189
  a124 := Try.isAgg189
  z124 := Try.sizeOf189
  v124 := Try.zeroValue189 }
open Go.RowKit Go.Lib in
theorem Try.strings_IndexAny_long (hv116 : ∀ w, (zeroValue 180).run Try.prog w = .ok (.agg (Array.replicate 256 (.bool false))) w) (s chars : ByteArray) (w : World) (h2 : 2 ≤ chars.size) (h8 : 8 < s.size) (hs : s.size < 4294967281) (hcs : chars.size < 4294967281) (hascii : ∀ (j : Nat) b, chars.data.toList[j]? = some b → b.toNat < 128) :
    Calls Try.prog 118 #[.string s, .string chars] w fun e w' => e = .returned (.int .i64 (Lib.indexAny s.data.toList chars.data.toList)) ∧ w' = ((w.alloc (.cells (Lib.setCells chars.data.toList) 180)).alloc (.cells (Lib.setCells chars.data.toList) 180)) := Any.strings_IndexAny_long Try.lays153 hv116 (by kernel_rfl) s chars w h2 h8 hs hcs hascii
def Try.laysNm217_ren : Go.Shelf.Ren := ⟨fun | 17 => 67 | n => n, fun | 24 => 42 | 9 => 9 | 3 => 3 | 4 => 4 | 0 => 0 | n => n, fun | n => n⟩
theorem Try.laysNm217 : Go.Proofs.Lays2.n17 Try.prog Try.laysNm217_ren := {
  mixed := by kernel_rfl
  f17 := Try.func67.trans (congrArg some (by kernel_rfl))
  t0 := Try.underlying0
  a0 := Try.isAgg0
  z0 := Try.sizeOf0
  v0 := Try.zeroValue0
  t3 := Try.underlying3
  a3 := Try.isAgg3
  z3 := Try.sizeOf3
  v3 := Try.zeroValue3
  t4 := Try.underlying4
  a4 := Try.isAgg4
  z4 := Try.sizeOf4
  v4 := Try.zeroValue4
  t9 := Try.underlying9
  a9 := Try.isAgg9
  z9 := Try.sizeOf9
  v9 := Try.zeroValue9
  t24 := Try.underlying42
  a24 := Try.isAgg42
  z24 := Try.sizeOf42
  v24 := Try.zeroValue42 }
open Go.RowKit Go.Lib Go.Sort in
theorem Try.slices_Reverse_string (blk off cap : Nat) (zs : List (List UInt8)) (w : World) (hH : Holds encStr w blk off zs.toArray) (hsz : zs.length ≤ 9223372036854775807) :
    Calls Try.prog 67 #[.slice (some ⟨blk, off, none⟩) zs.length cap] w fun e w' => e = .returned (.tuple #[]) ∧ ∃ n, w' = putRow encStr (Sort.ahead w n) blk off zs.reverse.toArray := Any.slices_Reverse_string Try.laysNm217 blk off cap zs w hH hsz
open Go.RowKit Go.Lib Go.Sort in
theorem Try.slices_Reverse_string_empty (a : Option Addr) (cap : Nat) (w : World) :
    Calls Try.prog 67 #[.slice a 0 cap] w fun e w' => e = .returned (.tuple #[]) ∧ w' = w := Any.slices_Reverse_string_empty Try.laysNm217 a cap w
end Go.Proofs

namespace Go.Proofs.Ytjfigngmpagloaa.Pa
open Go Go.RowKit Go.Shelf Go.Proofs Go.Proofs.Ytjfigngmpagloaa
set_option linter.unusedVariables false
set_option linter.unusedSimpArgs false

def cutOne (s : ByteArray) (c : UInt8) : ByteArray := if 0 ≤ Lib.indexByte s.data.toList c then Sp.mk (s.data.toList.take (Lib.indexByte s.data.toList c).toNat) else s
def cutRest (s : ByteArray) (c : UInt8) : ByteArray := if 0 ≤ Lib.indexByte s.data.toList c then Sp.mk (s.data.toList.drop ((Lib.indexByte s.data.toList c).toNat + 1)) else Sp.mk []

set_option maxHeartbeats 1000000 in
theorem cut_yes (s : ByteArray) (c : UInt8) (w : World) (o : Nat) (ho : Lib.indexByte s.data.toList c = o) (hlt : o < s.size) (hs : s.size < 4294967295) :
    Calls Try.prog 121 #[.string s, .string ⟨#[c]⟩] w fun e w' => e = .returned (.tuple #[.string (s.extract 0 o), .string (s.extract (o + 1) s.size), .bool true]) ∧ ∃ n, w' = w.drewN n := by
  have h1 := Try.stringslite_Index_one s c w
  rw [ho] at h1
  have H1 := Lib.hid h1
  clear h1 ho
  go_enter Try.func121, Try.ntmps121
  go_wp2_with (go_at_call 135; refine H1.out.mono ?_; rintro e w' ⟨rfl, rfl⟩)
  go_quiet (fail)
  go_wp2
  go_ret3
  exact ⟨by simp, _, rfl⟩
set_option maxHeartbeats 1000000 in
theorem cut_no (s : ByteArray) (c : UInt8) (w : World) (ho : Lib.indexByte s.data.toList c = -1) :
    Calls Try.prog 121 #[.string s, .string ⟨#[c]⟩] w fun e w' => e = .returned (.tuple #[.string s, .string ⟨#[]⟩, .bool false]) ∧ ∃ n, w' = w.drewN n := by
  have h1 := Try.stringslite_Index_one s c w
  rw [ho] at h1
  have H1 := Lib.hid h1
  clear h1 ho
  go_enter Try.func121, Try.ntmps121
  go_wp2_with (go_at_call 135; refine H1.out.mono ?_; rintro e w' ⟨rfl, rfl⟩)
  go_ret3
  exact ⟨by simp, 0, rfl⟩
theorem index_lt {l : List UInt8} {c : UInt8} {o : Nat} (h : Lib.indexByte l c = o) : o < l.length := by
  have h1 := (Lib.indexByte_some h).1
  exact (List.getElem?_eq_some_iff.1 h1).1
theorem lite_cut (s : ByteArray) (c : UInt8) (w : World) (hs : s.size < 4294967295) :
    Calls Try.prog 121 #[.string s, .string ⟨#[c]⟩] w fun e w' => e = .returned (.tuple #[.string (cutOne s c), .string (cutRest s c), .bool (decide (0 ≤ Lib.indexByte s.data.toList c))]) ∧ ∃ n, w' = w.drewN n := by
  have hge := Lib.indexByte_ge s.data.toList c
  by_cases h : 0 ≤ Lib.indexByte s.data.toList c
  · obtain ⟨o, ho⟩ := Int.eq_ofNat_of_zero_le h
    have hlt := index_lt ho
    rw [← Sp.size_eq] at hlt
    refine (cut_yes s c w o ho hlt hs).mono ?_
    rintro e w' ⟨rfl, hw⟩
    refine ⟨?_, hw⟩
    rw [cutOne, cutRest, if_pos h, if_pos h, ho]
    have e1 : s.extract 0 o = Sp.mk (s.data.toList.take o) := by
      rw [← Sp.mk_of (s.extract 0 o), Lib.extract_data]; simp
    have e2 : s.extract (o + 1) s.size = Sp.mk (s.data.toList.drop (o + 1)) := by
      rw [← Sp.mk_of (s.extract (o + 1) s.size), Lib.extract_data]
      congr 1
      rw [List.take_of_length_le]
      rw [List.length_drop, ← Sp.size_eq]
      omega
    rw [e1, e2]
    simp
  · have ho : Lib.indexByte s.data.toList c = -1 := by omega
    refine (cut_no s c w ho).mono ?_
    rintro e w' ⟨rfl, hw⟩
    refine ⟨?_, hw⟩
    rw [cutOne, cutRest, if_neg h, if_neg h]
    simp [Sp.mk, h]
set_option maxHeartbeats 1000000 in
theorem cut_calls (s : ByteArray) (c : UInt8) (w : World) (hs : s.size < 4294967295) :
    Calls Try.prog 104 #[.string s, .string ⟨#[c]⟩] w fun e w' => e = .returned (.tuple #[.string (cutOne s c), .string (cutRest s c), .bool (decide (0 ≤ Lib.indexByte s.data.toList c))]) ∧ ∃ n, w' = w.drewN n := by
  have h1 := lite_cut s c w hs
  generalize cutOne s c = x at *
  generalize cutRest s c = y at *
  generalize decide (0 ≤ Lib.indexByte s.data.toList c) = z at *
  have H1 := Lib.hid h1
  clear h1
  go_enter Try.func104, Try.ntmps104
  go_wp2_with (go_at_call 121; refine H1.out.mono ?_; rintro e w' ⟨rfl, ⟨nn, rfl⟩⟩)
  go_ret3
  exact ⟨rfl, nn, rfl⟩

theorem cut_parts (rest : List UInt8) (h : rest ≠ []) : Sp.parts rest = Sp.keep (cutOne (Sp.mk rest) 47).data.toList (Sp.parts (cutRest (Sp.mk rest) 47).data.toList) ∧ (cutRest (Sp.mk rest) 47).size < (Sp.mk rest).size := by
  have hge := Lib.indexByte_ge rest 47
  have hpos : 0 < rest.length := List.length_pos_iff.2 h
  rw [cutOne, cutRest, Sp.mk_data]
  by_cases h0 : 0 ≤ Lib.indexByte rest 47
  · obtain ⟨o, ho⟩ := Int.eq_ofNat_of_zero_le h0
    have hlt := index_lt ho
    rw [if_pos h0, if_pos h0, ho]
    refine ⟨by simpa using Sp.parts_at rest o ho, ?_⟩
    rw [Sp.mk_size, Sp.mk_size]
    simp
    omega
  · have ho : Lib.indexByte rest 47 = -1 := by omega
    rw [if_neg h0, if_neg h0]
    refine ⟨by simpa using Sp.parts_none rest ho, ?_⟩
    rw [Sp.mk_size, Sp.mk_size]
    simpa using hpos
theorem grown_drewN (w : World) (n : Nat) : w.grownBy (w.drewN n) none := ⟨rfl, rfl, rfl, Nat.le_refl _, fun _ _ _ => rfl⟩

/-- How long the text is that lies in block B. -/
def boxLen (W : World) (B : Nat) : Nat := match W.cell? ⟨B, 0, none⟩ with | some (.string s) => s.size | _ => 0
theorem boxLen_eq {W : World} {B : Nat} {t : TypeId} {s : ByteArray} (h : Boxed W B t (.string s)) : boxLen W B = s.size := by rw [boxLen, h.cell]

set_option maxRecDepth 100000 in
set_option maxHeartbeats 2000000 in
theorem iter (n : Nat) (hn : 1 ≤ n) (Bs : Nat) (s : List UInt8) (w : World) (hs : s.length < 4294967295) (hb0 : Boxed w Bs 9 (.string (Sp.mk s))) :
    Rg.Iter Fence.wide n Try.prog 103 #[.pointer (some ⟨Bs, 0, none⟩)] (fun x : List UInt8 => #[Value.string (Sp.mk x)]) Bs 9 (Sp.parts s) w := by
  intro l J Jx W hW hJ _ hS hY h0
  have hbW : Boxed W Bs 9 (.string (Sp.mk s)) := (hW.block Bs hb0.lt).trans hb0
  clear hb0
  refine callsIn_of_wp Try.func103 rfl trivial ?_ rfl
  simp only [Try.ntmps103, List.size_toArray, List.length_cons, List.length_nil, Nat.reduceAdd, Nat.reduceSub, Array.replicate_succ, Array.replicate_zero, List.push_toArray, List.append_toArray, List.nil_append, List.cons_append]
  gi_wp2
  gi_loopw [3] (fun p wr => ∃ (pre : List (List UInt8)) (rest : List UInt8), Sp.parts s = pre ++ Sp.parts rest ∧ rest.length ≤ s.length ∧ Boxed wr Bs 9 (.string (Sp.mk rest)) ∧ J pre wr) (fun p wr => boxLen wr Bs)
  case atStart => exact ⟨[], s, rfl, Nat.le_refl _, hbW, h0⟩
  case round =>
    obtain ⟨pre, rest, hx, hle, hbr, hJs⟩ := hrel
    have hc := hbr.cell
    have HX := Lib.hid hx
    clear hx
    have hfz := hbr.frozen
    by_cases h0 : rest = []
    · subst h0
      have h1 : (Sp.mk []).toList = [] := Sp.mk_toList _
      generalize Sp.mk [] = r at *
      gi_wp2
      go_end0
      have hp : pre = Sp.parts s := by rw [HX.out]; simp
      exact ⟨⟨_, rfl⟩, .inl (hp ▸ hJs)⟩
    · have h1 : ((Sp.mk rest).toList == []) = false := by rw [Sp.mk_toList]; simpa using h0
      have h2 : (!(Sp.mk rest).toList.isEmpty) = true := by rw [Sp.mk_toList]; simpa using h0
      have hlr : (Sp.mk rest).size < 4294967295 := by rw [Sp.mk_size]; omega
      obtain ⟨hk, hlt⟩ := cut_parts rest h0
      obtain ⟨r, hr⟩ : ∃ r, r = Sp.mk rest := ⟨_, rfl⟩
      rw [← hr] at hc h1 h2 hlr hk hlt hbr
      have hC := cut_calls r 47
      generalize decide (0 ≤ Lib.indexByte r.data.toList 47) = z at *
      obtain ⟨a, ha⟩ : ∃ a, a = cutOne r 47 := ⟨_, rfl⟩
      obtain ⟨b, hb⟩ : ∃ b, b = cutRest r 47 := ⟨_, rfl⟩
      rw [← ha, ← hb] at hC
      rw [← ha, ← hb] at hk
      rw [← hb] at hlt
      have HR := Lib.hid hr
      have HB := Lib.hid hbr
      have HK := Lib.hid hk
      have HC := Lib.hid hC
      have hlen : (b.data.toList).length ≤ s.length := by
        have e1 := HR.out
        have e2 : r.size = rest.length := by rw [e1, Sp.mk_size]
        rw [← Sp.size_eq]; omega
      clear hr hbr hk hC ha hb
      have hJd : ∀ nn, J pre (wr.drewN nn) := fun nn => hJ pre wr _ none hJs (grown_drewN wr nn) (fun r e => by cases e)
      have hBd : ∀ nn, Boxed (wr.drewN nn) Bs 9 (.string r) := fun nn => HB.out
      have HJ := Lib.hid hJd
      have HD := Lib.hid hBd
      clear hJd hBd
      by_cases ha : a.data.toList = [] ∨ a.data.toList = [46]
      · have hk2 : Sp.parts rest = Sp.parts b.data.toList := by rw [HK.out, Sp.keep, if_pos ha]
        have HK2 := Lib.hid hk2
        clear hk2
        have hz : a.toList = [] ∨ a.toList = [46] := by rw [Lib.toList_data]; exact ha
        clear ha
        rcases hz with hz | hz
        all_goals
          gi_wp2_with (refine ⟨trivial, ?_⟩; gi_at_call 104; refine (callsIn_wide.2 (HC.out _ hlr)).mono ?_; rintro e w' ⟨rfl, ⟨nn, rfl⟩⟩)
          refine ⟨fun _ h => (by cases h), ?_⟩
          gi_wp2
          go_roundw
          case rel => exact ⟨pre, b.data.toList, by rw [HX.out, HK2.out], hlen, by rw [Sp.mk_of]; exact (HD.out nn).set _, hS _ _ _ (HJ.out nn)⟩
          case measure => rw [boxLen_eq ((HD.out nn).set _), boxLen_eq HB.out]; exact hlt
      · have hk2 : Sp.parts rest = a.data.toList :: Sp.parts b.data.toList := by rw [HK.out, Sp.keep, if_neg ha]
        have HK2 := Lib.hid hk2
        clear hk2
        have ha1 : (a.toList == []) = false := by rw [Lib.toList_data]; simpa using fun h => ha (.inl h)
        have ha2 : (a.toList == [46]) = false := by rw [Lib.toList_data]; simpa using fun h => ha (.inr h)
        have ha3 : ¬ a.toList = [] := by rw [Lib.toList_data]; exact fun h => ha (.inl h)
        have ha4 : ¬ a.toList = [46] := by rw [Lib.toList_data]; exact fun h => ha (.inr h)
        clear ha
        have hYd : ∀ nn, YieldAt Fence.wide (n - 1) Try.prog l #[.string a] (wr.drewN nn) _ := fun nn => (by have h := hY pre a.data.toList (wr.drewN nn) (HJ.out nn) ⟨Sp.parts b.data.toList, by rw [HX.out, HK2.out]; simp⟩; rw [Sp.mk_of] at h; exact h)
        have HY := Lib.hid hYd
        clear hYd
        gi_wp2_with (refine ⟨trivial, ?_⟩; gi_at_call 104; refine (callsIn_wide.2 (HC.out _ hlr)).mono ?_; rintro e w' ⟨rfl, ⟨nn, rfl⟩⟩; obtain ⟨fn, tm, asg, bd, hy, hR⟩ := HY.out nn)
        refine hR.mono ?_
        rintro e W3 (⟨rfl, hJ3, hk3⟩ | ⟨rfl, hJx3⟩)
        · have hb3 := hk3 _ (HD.out nn)
          have hc3 := hb3.cell
          have hf3 := hb3.frozen
          gi_wp2
          go_roundw
          case rel => exact ⟨pre ++ [a.data.toList], b.data.toList, by rw [HX.out, HK2.out]; simp, hlen, by rw [Sp.mk_of]; exact hb3.set _, hS _ _ _ hJ3⟩
          case measure => rw [boxLen_eq (hb3.set _), boxLen_eq HB.out]; exact hlt
        · gi_wp2
          refine bodyPost_ret (results_none rfl _ _ _) rfl ?_
          exact ⟨⟨_, rfl⟩, .inr ⟨pre ++ [a.data.toList], ⟨Sp.parts b.data.toList, by rw [HX.out, HK2.out]; simp⟩, hJx3⟩⟩
end Go.Proofs.Ytjfigngmpagloaa.Pa

namespace Go.Proofs.Ytjfigngmpagloaa.Pa
open Go.Proofs.YtjfigngmpagloaaW.PrintWords (own_weaken)
open Go Go.RowKit Go.Shelf Go.Proofs Go.Proofs.Ytjfigngmpagloaa
attribute [local go_sem] Oper.semAt_some
set_option linter.unusedVariables false
set_option linter.unusedSimpArgs false

theorem infoS : (Try.prog.info? 9).map (fun i => (i.zero, i.size, i.bytes)) = some (some (.string ⟨#[]⟩), 1, 16) := by kernel_rfl
def encP (l : List (List UInt8)) : List Value := l.map fun x => Value.string (Sp.mk x)

theorem parts_maker (n : Nat) (s : ByteArray) (w : World) :
    CallsIn Fence.wide n Try.prog 72 #[.string s] w fun e w' => e = .returned (.func (.func 103) #[] #[.pointer (some ⟨w.heap.size, 0, none⟩)]) ∧ w' = w.alloc (.cells #[.string s] 9) := by
  refine callsIn_of_wp Try.func72 rfl trivial ?_ rfl
  simp only [Try.ntmps72, List.size_toArray, List.length_cons, List.length_nil, Nat.reduceAdd, Nat.reduceSub, Array.replicate_succ, Array.replicate_zero, List.push_toArray, List.append_toArray, List.nil_append, List.cons_append]
  gi_wp2
  go_ret
  exact ⟨rfl, rfl⟩

/-- What a loop over the parts keeps: a box of a row that the call owns; nothing below has turned. -/
def Inv (w : World) (f : List (List UInt8) → List (List UInt8)) (pre : List (List UInt8)) (W : World) : Prop :=
  (∃ v, Boxed W w.heap.size 42 v ∧ W.ownsRow (w.heap.size + 2) 9 1 v (f pre).length (encP (f pre)) ∧ True) ∧ Below w.heap.size w W ∧ w.heap.size + 2 ≤ W.heap.size
theorem inv_own (w : World) (B : Nat) (hB : w.heap.size ≤ B) (f : List (List UInt8) → List (List UInt8)) : OwnFrom B (Inv w f) :=
  OwnFrom.and (Own.from (holdsRow_own (w.heap.size + 2) w.heap.size 42 9 1 (fun pre => (f pre).length) (fun pre => encP (f pre)) (fun _ _ => True)) _) (OwnFrom.and (ownFrom_below (Nat.le_refl _) hB) (fun s W W' row h hg _ => Nat.le_trans h hg.size))
theorem block_ge {W : World} {b e sz n : Nat} {v : Value} {xs : List Value} (h : W.ownsRow b e sz v n xs) : ∀ k, v.ownBlock = some k → b ≤ k := Go.Proofs.YtjfigngmpagloaaW.PrintWords.own_base h
theorem inv_set (w : World) (f : List (List UInt8) → List (List UInt8)) (pre : List (List UInt8)) (W : World) (v : Value) (h : Inv w f pre W) : Inv w f pre (W.setCell ⟨w.heap.size + 1, 0, none⟩ v) := by
  obtain ⟨⟨u, hb, hr, _⟩, hB, hz⟩ := h
  refine ⟨⟨u, hb.other (by omega) _, hr.kept (grownBy_setCell' W _ v) (.inr ?_), trivial⟩, hB.setCell (p := ⟨w.heap.size + 1, 0, none⟩) (by simp) v, by simpa using hz⟩
  intro e
  have := block_ge hr _ e
  omega

set_option maxRecDepth 100000 in
set_option maxHeartbeats 2000000 in
theorem parts_in (n : Nat) (hn : 3 ≤ n) (s : ByteArray) (w : World) (hs : s.size < 4294967295) :
    CallsIn Fence.wide n Try.prog 58 #[.string s] w fun e W' => ∃ v, e = .returned v ∧ W'.ownsRow w.heap.size 9 1 v (Sp.parts s.data.toList).length (encP (Sp.parts s.data.toList)) ∧ Below w.heap.size w W' := by
  have h1 : 1 ≤ n := by omega
  obtain ⟨i0, hi, hz0, hz1, hz2⟩ := info_parts infoS
  refine callsIn_of_wp_marks Try.func58 rfl trivial ?_ rfl
  simp only [Try.ntmps58, List.size_toArray, List.length_cons, List.length_nil, Nat.reduceAdd, Nat.reduceSub, Array.replicate_succ, Array.replicate_zero, List.push_toArray, List.append_toArray, List.nil_append, List.cons_append]
  gi_wp2_with (refine ⟨trivial, ?_⟩; gi_at_call 72; refine (parts_maker (n - 1) _ _).mono ?_; rintro e w' ⟨rfl, rfl⟩)
  have bO := Boxed.new w 42 (.slice none 0 0)
  have bN := Boxed.new (w.alloc (.cells #[.slice none 0 0] 42)) 9 (.string s)
  rw [World.size_alloc] at bN
  have hB0 : Below w.heap.size w ((w.alloc (.cells #[.slice none 0 0] 42)).alloc (.cells #[.string s] 9)) := ((Below.refl _ w).alloc (Nat.le_refl _) _).alloc (by simp) _
  have bN2 : Boxed ((w.alloc (.cells #[.slice none 0 0] 42)).alloc (.cells #[.string s] 9)) (w.heap.size + 1) 9 (.string (Sp.mk s.data.toList)) := by rw [Sp.mk_of]; exact bN
  have hpl := Sp.parts_len s.data.toList
  rw [← Sp.size_eq] at hpl
  refine Rg.wpIn_range rfl h1 (gf := 103) (lb := #[.pointer (some ⟨w.heap.size + 1, 0, none⟩)]) rfl trivial (enters_of Try.func103 (by kernel_rfl) rfl)
    (iter (n - 1) (by omega) (w.heap.size + 1) s.data.toList _ (by rw [← Sp.size_eq]; omega) bN2) (by simp) (Below.refl _ _) (fun _ => rfl)
    (Inv w (fun pre => pre)) (fun _ _ _ => False) (inv_own w _ (by simp; omega) _) (fun _ _ _ _ _ hs _ _ => hs) (inv_set w _)
    ⟨⟨_, bO.alloc _, World.ownsRow_nil _ _ _ _, trivial⟩, hB0, by simp⟩
    (fun x => { tmps := #[.string s, undef, .slice none 0 0, .pointer (some ⟨w.heap.size, 0, none⟩), .string (Sp.mk x), .string s, .func (.func 103) #[] #[.pointer (some ⟨w.heap.size + 1, 0, none⟩)], .string (Sp.mk x), undef, undef, undef, undef, undef], defers := [] }) ?assign ?body ?done ?stop
  case assign =>
    intro l x W K hK
    gi_wp2
    exact hK
  case body =>
    rintro l pre x W ⟨⟨v, hv, hrow, _⟩, hB, hz⟩ hpx
    have hrow : W.ownsRow (w.heap.size + 2) 9 1 v pre.length (encP pre) := hrow
    have hle := hpx.length_le
    simp only [List.length_append, List.length_singleton] at hle
    have hc := hv.cell
    have hsz := hB.size
    gi_wp2_with (gi_at_builtin; go_must (refine wpListIn_append_own _ rfl _ _ 42 rfl (w.heap.size + 2) 9 i0 (.string ⟨#[]⟩) 1 16 Try.underlying42 hi hz0 hz1 hz2 rfl (by decide) _ _ _ rfl (hrow.alloc _) ⟨W.heap.size, 0, none⟩ 1 1 [.string (Sp.mk x)] rfl rfl (cell_one_new _ _ _) (by simp [Value.oneCell']) (by unfold maxLen; omega) (by omega) (by simp; omega) ?_); intro v' w1 hown' hgrow _; obtain ⟨g', cap', rfl⟩ := ownsRow_succ hown'; obtain ⟨hv1, hv2, hr2, hk2, hb2⟩ := hv.appended (by decide) (own_weaken hrow (by omega)) hB.size (Nat.le_refl _) (own_weaken hown' (by omega)) hgrow; have hbs := Lib.hid (fun (u : Value) (hu : Boxed W (w.heap.size + 1) 9 u) => ((hu.alloc (.cells #[.string (Sp.mk x)] 9)).kept hgrow (fun e => by have := block_ge hrow _ e.symm; omega)).other (B' := w.heap.size) (by omega) (Value.slice (some ⟨g', 0, none⟩) (pre.length + 1) cap')); have hrw := Lib.hid (hown'.kept (grownBy_setCell' w1 w.heap.size (Value.slice (some ⟨g', 0, none⟩) (pre.length + 1) cap')) (.inr (hv1.not_row (by decide) hown').symm)); have hc1 := hv1.cell; have hf1 := hv1.frozen)
    exact ⟨hk2, hbs.out, ⟨_, hv2, by simpa [encP] using hrw.out, trivial⟩, hB.trans hb2, Nat.le_trans hz (by have := hb2.size; have := hk2.size; omega)⟩
  case done =>
    rintro D W hD ⟨⟨v, hv, hrow, _⟩, hB, hz⟩ hK
    have hc := hv.cell
    gi_wp2
    refine ⟨by simp, .inl ⟨_, _, rfl, run_takeDeferred hK, ?_⟩⟩
    exact ⟨_, results_tmp rfl _ _ _, v, rfl, own_weaken (ownsRow_putObj hrow _ hK rfl) (by omega), hB.trans (belowK_b (w := w) (Nat.le_refl _) W D _ _ (by simp at hD; omega) hK rfl rfl)⟩
  case stop =>
    rintro D c pre W _ _ h _
    exact h.elim

theorem own_cap {W : World} {b e sz g n c : Nat} {xs : List Value} (h : W.ownsRow b e sz (.slice (some ⟨g, 0, none⟩) n c) n xs) : n ≤ c := by
  rcases h.2 with ⟨h0, _⟩ | ⟨g', cap', cur, hv, hg, hh, hn, hcap, hsz, htake⟩
  · cases h0
  · cases hv; exact hn
theorem encP_len (l : List (List UInt8)) : (encP l).length = l.length := by simp [encP]
theorem own_pop {W : World} {base g cap m : Nat} {l : List (List UInt8)} (hm : l.length = m + 1) (h : W.ownsRow base 9 1 (.slice (some ⟨g, 0, none⟩) (m + 1) cap) (m + 1) (encP l)) : W.ownsRow base 9 1 (.slice (some ⟨g, 0, none⟩) m cap) m (encP l.dropLast) := by
  rcases List.eq_nil_or_concat l with e | ⟨a, b, rfl⟩
  · subst e; simp at hm
  · rw [List.concat_eq_append] at *
    rw [List.dropLast_concat]
    have e1 : encP (a ++ [b]) = encP a ++ [.string (Sp.mk b)] := by simp [encP]
    rw [e1] at h
    exact ownsRow_pop (by rw [encP_len]; simp at hm; omega) h

/-- strings.Join of a row that is owned. -/
theorem joined {w0 : World} {b : Nat} {v : Value} {l : List (List UInt8)} {sep : List UInt8} (h : w0.ownsRow b 9 1 v l.length (encP l)) (h1 : l.length ≤ 140737488355328) (h2 : (Lib.join l sep).length ≤ 140737488355328) :
    Calls Try.prog 68 #[v, .string (Sp.mk sep)] w0 fun e w' => e = .returned (.string (Sp.mk (Lib.join l sep))) ∧ Below w0.heap.size w0 w' := by
  rcases Nat.eq_zero_or_pos l.length with h0 | h0
  · obtain rfl := List.eq_nil_of_length_eq_zero h0
    obtain ⟨A, c, rfl⟩ := Go.Proofs.YtjfigngmpagloaaW.PrintWords.own_slice h
    refine (Try.strings_Join_none A c _ w0).mono ?_
    rintro e w' ⟨rfl, rfl⟩
    exact ⟨rfl, Below.refl _ _⟩
  · obtain ⟨g, cap, hv, _, _⟩ := h.form h0
    subst hv
    have e1 : (l.map Sp.mk).map (·.data.toList) = l := by simp [List.map_map, Function.comp_def]
    have hl : (l.map Sp.mk).length = l.length := by simp
    have hj := Try.strings_Join g 0 cap (l.map Sp.mk) (Sp.mk sep) w0 (fun j x hx => by
      have hc := h.cells (g := g) rfl j (.string x) (by simpa [encP, List.map_map, Function.comp_def] using congrArg (Option.map Value.string) hx)
      have ha : (⟨g, 0, none⟩ : Addr).add j = ⟨g, 0 + j, none⟩ := by unfold Addr.add; split <;> simp_all
      rw [ha] at hc; exact hc) ((h.lt g rfl).2) (by rw [hl]; exact h1) (by rw [hl]; exact own_cap h) (by rw [e1, Sp.mk_data]; exact h2)
    rw [hl, e1, Sp.mk_data] at hj
    exact hj

set_option maxRecDepth 100000 in
set_option maxHeartbeats 4000000 in
theorem clean_in (n : Nat) (hn : 3 ≤ n) (s : ByteArray) (w : World) (hs : s.size < 4294967295) :
    CallsIn Fence.wide n Try.prog 71 #[.string s] w fun e W' => e = .returned (.string (Sp.mk (Sp.clean s.data.toList))) ∧ Below w.heap.size w W' := by
  have h1 : 1 ≤ n := by omega
  obtain ⟨i0, hi, hz0, hz1, hz2⟩ := info_parts infoS
  refine callsIn_of_wp_marks Try.func71 rfl trivial ?_ rfl
  simp only [Try.ntmps71, List.size_toArray, List.length_cons, List.length_nil, Nat.reduceAdd, Nat.reduceSub, Array.replicate_succ, Array.replicate_zero, List.push_toArray, List.append_toArray, List.nil_append, List.cons_append]
  gi_wp2_with (refine ⟨trivial, ?_⟩; gi_at_call 72; refine (parts_maker (n - 1) _ _).mono ?_; rintro e w' ⟨rfl, rfl⟩)
  have bO := Boxed.new w 42 (.slice none 0 0)
  have bN := Boxed.new (w.alloc (.cells #[.slice none 0 0] 42)) 9 (.string s)
  rw [World.size_alloc] at bN
  have hB0 : Below w.heap.size w ((w.alloc (.cells #[.slice none 0 0] 42)).alloc (.cells #[.string s] 9)) := ((Below.refl _ w).alloc (Nat.le_refl _) _).alloc (by simp) _
  have bN2 : Boxed ((w.alloc (.cells #[.slice none 0 0] 42)).alloc (.cells #[.string s] 9)) (w.heap.size + 1) 9 (.string (Sp.mk s.data.toList)) := by rw [Sp.mk_of]; exact bN
  have hpl := Sp.parts_len s.data.toList
  rw [← Sp.size_eq] at hpl
  refine Rg.wpIn_range rfl h1 (gf := 103) (lb := #[.pointer (some ⟨w.heap.size + 1, 0, none⟩)]) rfl trivial (enters_of Try.func103 (by kernel_rfl) rfl)
    (iter (n - 1) (by omega) (w.heap.size + 1) s.data.toList _ (by rw [← Sp.size_eq]; omega) bN2) (by simp) (Below.refl _ _) (fun _ => rfl)
    (Inv w Sp.climbs) (fun _ _ _ => False) (inv_own w _ (by simp; omega) _) (fun _ _ _ _ _ hs _ _ => hs) (inv_set w _)
    ⟨⟨_, bO.alloc _, World.ownsRow_nil _ _ _ _, trivial⟩, hB0, by simp⟩
    (fun x => { tmps := #[.string s, undef, .string ⟨#[]⟩, .pointer (some ⟨w.heap.size, 0, none⟩), .string (Sp.mk x), .string s, .func (.func 103) #[] #[.pointer (some ⟨w.heap.size + 1, 0, none⟩)], .string (Sp.mk x), undef, undef, undef, undef, undef, undef, undef, undef, undef, undef, undef, undef, undef, undef, undef, undef, undef, undef, undef], defers := [] }) ?assign ?body ?done ?stop
  case assign =>
    intro l x W K hK
    gi_wp2
    exact hK
  case body =>
    rintro l pre x W ⟨⟨v, hv, hrow, _⟩, hB, hz⟩ hpx
    obtain ⟨L, hL⟩ : ∃ L, L = Sp.climbs pre := ⟨_, rfl⟩
    have hrow : W.ownsRow (w.heap.size + 2) 9 1 v L.length (encP L) := by rw [hL]; exact hrow
    have hle := hpx.length_le
    simp only [List.length_append, List.length_singleton] at hle
    have hcl := Sp.climbs_len pre
    rw [← hL] at hcl
    have hnext : Sp.climbs (pre ++ [x]) = Sp.climb L x := by rw [Sp.climbs_snoc, hL]
    have HN := Lib.hid hnext
    clear hnext hL
    have hc := hv.cell
    have hf := hv.frozen
    have hsz := hB.size
    by_cases hx : x = [46, 46]
    · have x1 : ((Sp.mk x).toList == [46, 46]) = true := by rw [Sp.mk_toList]; simpa using hx
      have x2 : ((Sp.mk x).toList != [46, 46]) = false := by rw [Sp.mk_toList]; simpa using hx
      have hnx : Sp.climbs (pre ++ [x]) = L.dropLast := by rw [HN.out, Sp.climb, if_pos hx]
      have HX := Lib.hid hnx
      clear hnx hx
      rcases Nat.eq_zero_or_pos L.length with h0 | h0
      · have e0 : L = [] := List.eq_nil_of_length_eq_zero h0
        subst e0
        have ev : ∃ a c, v = .slice a 0 c := by obtain ⟨A, c, rfl⟩ := Go.Proofs.YtjfigngmpagloaaW.PrintWords.own_slice hrow; exact ⟨A, c, rfl⟩
        obtain ⟨A, c, rfl⟩ := ev
        gi_wp2
        exact ⟨KeepsOthers.refl _, fun _ h => h, ⟨_, hv, by rw [HX.out]; simpa [encP] using hrow, trivial⟩, hB, hz⟩
      · obtain ⟨m, hm⟩ : ∃ m, L.length = m + 1 := ⟨L.length - 1, by omega⟩
        rw [hm] at hrow
        obtain ⟨g, cap, rfl⟩ := ownsRow_succ hrow
        have hpop := Lib.hid (own_pop hm hrow)
        have hm2 : m + 1 ≤ maxLen := by unfold maxLen; omega
        have hcap : m ≤ cap := by have := own_cap hrow; omega
        gi_wp2
        exact ⟨KeepsOthers.setCell _ _ _, fun u hu => hu.other (by omega) _, ⟨_, hv.set _, by rw [HX.out, List.length_dropLast, hm]; exact hpop.out.kept (grownBy_setCell' W _ _) (.inr (fun e => by have := block_ge hpop.out _ e; omega)), trivial⟩, hB.setCell (p := ⟨w.heap.size, 0, none⟩) (Nat.le_refl _) _, by simpa using hz⟩
    · have x1 : ((Sp.mk x).toList == [46, 46]) = false := by rw [Sp.mk_toList]; simpa using hx
      have x2 : ((Sp.mk x).toList != [46, 46]) = true := by rw [Sp.mk_toList]; simpa using hx
      have x3 : ¬ (Sp.mk x).toList = [46, 46] := by rw [Sp.mk_toList]; simpa using hx
      have hnx : Sp.climbs (pre ++ [x]) = L ++ [x] := by rw [HN.out, Sp.climb, if_neg hx]
      have HX := Lib.hid hnx
      clear hnx hx
      gi_wp2_with (gi_at_builtin; go_must (refine wpListIn_append_own _ rfl _ _ 42 rfl (w.heap.size + 2) 9 i0 (.string ⟨#[]⟩) 1 16 Try.underlying42 hi hz0 hz1 hz2 rfl (by decide) _ _ _ rfl (hrow.alloc _) ⟨W.heap.size, 0, none⟩ 1 1 [.string (Sp.mk x)] rfl rfl (cell_one_new _ _ _) (by simp [Value.oneCell']) (by unfold maxLen; omega) (by omega) (by simp; omega) ?_); intro v' w1 hown' hgrow _; obtain ⟨g', cap', rfl⟩ := ownsRow_succ hown'; obtain ⟨hv1, hv2, hr2, hk2, hb2⟩ := hv.appended (by decide) (own_weaken hrow (by omega)) hB.size (Nat.le_refl _) (own_weaken hown' (by omega)) hgrow; have hbs := Lib.hid (fun (u : Value) (hu : Boxed W (w.heap.size + 1) 9 u) => ((hu.alloc (.cells #[.string (Sp.mk x)] 9)).kept hgrow (fun e => by have := block_ge hrow _ e.symm; omega)).other (B' := w.heap.size) (by omega) (Value.slice (some ⟨g', 0, none⟩) (L.length + 1) cap')); have hrw := Lib.hid (hown'.kept (grownBy_setCell' w1 w.heap.size (Value.slice (some ⟨g', 0, none⟩) (L.length + 1) cap')) (.inr (hv1.not_row (by decide) hown').symm)); have hc1 := hv1.cell; have hf1 := hv1.frozen)
      exact ⟨hk2, hbs.out, ⟨_, hv2, by rw [HX.out]; simpa [encP] using hrw.out, trivial⟩, hB.trans hb2, Nat.le_trans hz (by have := hb2.size; have := hk2.size; omega)⟩
  case done =>
    rintro D W hD ⟨⟨v, hv, hrow, _⟩, hB, hz⟩ hK
    have hc := hv.cell
    have hDW : D < W.heap.size := (Array.getElem?_eq_some_iff.1 hK).1
    obtain ⟨L, hL⟩ : ∃ L, L = Sp.climbs (Sp.parts s.data.toList) := ⟨_, rfl⟩
    have hrow : W.ownsRow (w.heap.size + 2) 9 1 v L.length (encP L) := by rw [hL]; exact hrow
    have hjl : (Lib.join L [47]).length ≤ 4294967296 := by
      have h1 := Sp.join_room L
      have h2 := Sp.climbs_room (Sp.parts s.data.toList)
      have h3 := Sp.parts_room s.data.toList
      rw [← Sp.size_eq] at h3
      rw [← hL] at h2
      omega
    have hj := joined (w0 := W) (sep := [47]) hrow (by rw [hL]; have := Sp.climbs_len (Sp.parts s.data.toList); omega) (by omega)
    obtain ⟨A, c, rfl⟩ := Go.Proofs.YtjfigngmpagloaaW.PrintWords.own_slice hrow
    have ht : Sp.clean s.data.toList = 47 :: Lib.join L [47] := by rw [Sp.clean, Sp.text, hL]
    obtain ⟨J, hJ⟩ : ∃ J, J = Lib.join L [47] := ⟨_, rfl⟩
    rw [← hJ] at hj ht hjl
    rw [← Sp.mk_size] at hjl
    have HJ := Lib.hid hj
    have HT := Lib.hid ht
    clear hj hL ht hJ
    gi_wp2_with (refine ⟨trivial, ?_⟩; gi_at_call 68; refine (callsIn_wide.2 HJ.out).mono ?_; rintro e w' ⟨rfl, hbw⟩; have hK2 := Lib.hid ((hbw.block D hDW).trans hK); have hB2 := Lib.hid (hB.trans (hbw.mono hB.size)))
    refine ⟨by simp, .inl ⟨_, _, rfl, run_takeDeferred hK2.out, ?_⟩⟩
    refine ⟨_, results_tmp rfl _ _ _, ?_, hB2.out.trans (belowK_b (w := w) (Nat.le_refl _) _ D _ _ (by simp at hD; omega) hK2.out rfl rfl)⟩
    rw [HT.out]
    exact congrArg (fun x => Ending.returned (Value.string x)) (Sp.mk_cons 47 J).symm
  case stop =>
    rintro D c pre W _ _ h _
    exact h.elim
end Go.Proofs.Ytjfigngmpagloaa.Pa

namespace Go.Proofs.Ytjfigngmpagloaa.An
open Go Go.RowKit Go.Proofs Go.Proofs.Ytjfigngmpagloaa
set_option linter.unusedVariables false
set_option linter.unusedSimpArgs false

theorem below_dn {B : Nat} {a w : World} (h : Below B a w) (n : Nat) : Below B a (w.drewN n) := h.trans ⟨rfl, rfl, rfl, Nat.le_refl _, fun _ _ => rfl⟩
def Ascii (s : ByteArray) : Prop := ∀ (j : Nat) b, s.data.toList[j]? = some b → b.toNat < 128
theorem Ascii.at_ {s : ByteArray} (h : Ascii s) (j : Nat) (hj : j < s.size) : (s[j]'hj).toNat < 128 := h j _ (Lib.data_getElem? s j hj)

/-- A rune from 128 on takes two bytes or more, none of them below 128. -/
theorem encode_high {r : Int} (h0 : 128 ≤ r) (h1 : r ≤ 1114111) : 2 ≤ (Utf8.encode r).size ∧ (Utf8.encode r).size ≤ 4 ∧ ∀ (j : Nat) (hj : j < (Utf8.encode r).size), 128 ≤ ((Utf8.encode r)[j]'hj).toNat := by
  have key : ∀ c : Nat, 128 ≤ c → c ≤ 1114111 → ∀ s : ByteArray, s = (if c < 0x80 then (⟨#[UInt8.ofNat c]⟩ : ByteArray) else if c < 0x800 then ⟨#[UInt8.ofNat (0xC0 + c / 64), UInt8.ofNat (0x80 + c % 64)]⟩ else if c < 0x10000 then ⟨#[UInt8.ofNat (0xE0 + c / 4096), UInt8.ofNat (0x80 + c / 64 % 64), UInt8.ofNat (0x80 + c % 64)]⟩ else ⟨#[UInt8.ofNat (0xF0 + c / 262144), UInt8.ofNat (0x80 + c / 4096 % 64), UInt8.ofNat (0x80 + c / 64 % 64), UInt8.ofNat (0x80 + c % 64)]⟩) → 2 ≤ s.size ∧ s.size ≤ 4 ∧ ∀ (j : Nat) (hj : j < s.size), 128 ≤ (s[j]'hj).toNat := by
    intro c hc0 hc1 s hs
    have hb : ∀ n : Nat, 128 ≤ n → n < 256 → 128 ≤ (UInt8.ofNat n).toNat := by
      intro n hn0 hn1
      rw [UInt8.toNat_ofNat', Nat.mod_eq_of_lt (by simpa using hn1)]
      exact hn0
    rw [if_neg (by omega)] at hs
    split at hs
    · subst hs
      refine ⟨by simp [ByteArray.size], by simp [ByteArray.size], ?_⟩
      intro j hj
      have hj' : j < 2 := hj
      rcases j with _ | _ | j
      · exact hb _ (by omega) (by omega)
      · exact hb _ (by omega) (by omega)
      · omega
    · split at hs
      · subst hs
        refine ⟨by simp [ByteArray.size], by simp [ByteArray.size], ?_⟩
        intro j hj
        have hj' : j < 3 := hj
        rcases j with _ | _ | _ | j
        · exact hb _ (by omega) (by omega)
        · exact hb _ (by omega) (by omega)
        · exact hb _ (by omega) (by omega)
        · omega
      · subst hs
        refine ⟨by simp [ByteArray.size], by simp [ByteArray.size], ?_⟩
        intro j hj
        have hj' : j < 4 := hj
        rcases j with _ | _ | _ | _ | j
        · exact hb _ (by omega) (by omega)
        · exact hb _ (by omega) (by omega)
        · exact hb _ (by omega) (by omega)
        · exact hb _ (by omega) (by omega)
        · omega
  have hc : 128 ≤ (if Utf8.valid r then r.toNat else Utf8.runeError) ∧ (if Utf8.valid r then r.toNat else Utf8.runeError) ≤ 1114111 := by
    split
    · omega
    · simp [Utf8.runeError]
  exact key _ hc.1 hc.2 _ rfl

/-- What is read at a place: an ASCII byte by itself, or a rune from 128 on, none of whose bytes is below 128. -/
theorem decode_low (s : ByteArray) (i : Nat) (h : (s.get! i).toNat < 128) : Utf8.decode s i = ((s.get! i).toNat, 1) := by
  unfold Utf8.decode
  simp only [Nat.add_zero]
  rw [if_pos (by omega)]
theorem decode_high (s : ByteArray) (i : Nat) (h : 128 ≤ (s.get! i).toNat) : 128 ≤ (Utf8.decode s i).1 ∧ (Utf8.decode s i).1 ≤ 1114111 ∧ ∀ k, k < (Utf8.decode s i).2 → 128 ≤ (s.get! (i + k)).toNat := by
  have hl : ∀ j, (s.get! j).toNat < 256 := fun j => (s.get! j).toNat_lt
  have h0 := hl i
  have h1 := hl (i + 1)
  have h2 := hl (i + 2)
  have h3 := hl (i + 3)
  have one : ∀ k, k < 1 → 128 ≤ (s.get! (i + k)).toNat := fun k hk => by
    obtain rfl : k = 0 := by omega
    simpa using h
  unfold Utf8.decode
  simp only [Nat.add_zero]
  rw [if_neg (by omega)]
  simp only [Utf8.runeError, Bool.and_eq_true, beq_iff_eq, decide_eq_true_eq]
  split
  · rename_i hc
    split
    · rename_i hv
      refine ⟨by simpa using hv, by simp only; omega, ?_⟩
      intro k hk
      have hk' : k < 2 := hk
      rcases k with _ | _ | k
      · simpa using h
      · show 128 ≤ (s.get! (i + 1)).toNat; omega
      · omega
    · exact ⟨by simp, by simp, one⟩
  · split
    · rename_i hc
      split
      · rename_i hv
        refine ⟨by have := hv.1; simp only; omega, by simp only; omega, ?_⟩
        intro k hk
        have hk' : k < 3 := hk
        rcases k with _ | _ | _ | k
        · simpa using h
        · show 128 ≤ (s.get! (i + 1)).toNat; omega
        · show 128 ≤ (s.get! (i + 2)).toNat; omega
        · omega
      · exact ⟨by simp, by simp, one⟩
    · split
      · rename_i hc
        split
        · rename_i hv
          refine ⟨by have := hv.1; simp only; omega, ?_, ?_⟩
          · have := hv.2
            simp only [Utf8.valid] at this
            simp at this
            simp only
            omega
          · intro k hk
            have hk' : k < 4 := hk
            rcases k with _ | _ | _ | _ | k
            · simpa using h
            · show 128 ≤ (s.get! (i + 1)).toNat; omega
            · show 128 ≤ (s.get! (i + 2)).toNat; omega
            · show 128 ≤ (s.get! (i + 3)).toNat; omega
            · omega
        · exact ⟨by simp, by simp, one⟩
      · exact ⟨by simp, by simp, one⟩

set_option maxHeartbeats 2000000 in
set_option maxRecDepth 1000000 in
/-- strings.IndexRune of U+FFFD in ASCII text. -/
theorem index_rune_err (chars : ByteArray) (ha : Ascii chars) (w : World) :
    Calls Try.prog 129 #[.string chars, .int .i32 65533] w fun e w' => e = .returned (.int .i64 (-1)) ∧ Below w.heap.size w w' := by
  go_enter Try.func129, Try.ntmps129
  go_wp2
  go_loopg [] chars.size (fun gf wx => ∃ pos : Nat, wx.heap[w.heap.size]? = some (.stringIter chars pos) ∧ Below w.heap.size w wx ∧ chars.size ≤ pos + gf)
  case atStart => exact ⟨0, World.iter_heap w chars 0, (Below.refl _ w).alloc (Nat.le_refl _) _, by omega⟩
  case round =>
    obtain ⟨pos, hit, hbw, hfu⟩ := hrel
    by_cases hps : pos < chars.size
    · obtain ⟨g', rfl⟩ : ∃ g', gk = g' + 1 := ⟨gk - 1, by omega⟩
      have hlow := ha.at_ pos hps
      have hnx : ∀ ty, (Instr.next (.pointer (some ⟨w.heap.size, 0, none⟩)) true ty).run Try.prog wr = _ := fun ty => Lib.run_next_ascii_at wr w.heap.size chars pos ty hit hps hlow
      have hit2 := Lib.iterAt_heap wr w.heap.size chars pos (pos + 1) hit
      have hbw2 := Lib.below_iterAt hbw (k := w.heap.size) (Nat.le_refl _) chars (pos + 1)
      obtain ⟨C, hC⟩ : ∃ C, (chars[pos]'hps).toNat = C := ⟨_, rfl⟩
      rw [hC] at hnx hlow
      have hne : (((C : Nat) : Int) == 65533) = false := beq_eq_false_iff_ne.2 (by omega)
      clear hC
      go_wp2
      go_roundg g'
      case measure => omega
      case rel => exact ⟨pos + 1, hit2, hbw2, by omega⟩
    · have hnx : ∀ ty, (Instr.next (.pointer (some ⟨w.heap.size, 0, none⟩)) true ty).run Try.prog wr = _ := fun ty => Lib.run_next_end_at wr w.heap.size chars pos ty hit hps
      go_wp2
      go_ret
      exact ⟨rfl, hbw⟩

theorem index_none (s : ByteArray) (a : Nat) (ha : Ascii s) (c : UInt8) (hc : 128 ≤ c.toNat) : Lib.indexByte (s.extract a s.size).data.toList c = -1 := by
  have hge := Lib.indexByte_ge (s.extract a s.size).data.toList c
  by_cases h : 0 ≤ Lib.indexByte (s.extract a s.size).data.toList c
  · obtain ⟨o, ho⟩ := Int.eq_ofNat_of_zero_le h
    have h1 := (Lib.indexByte_some ho).1
    rw [Lib.extract_data, List.getElem?_take] at h1
    split at h1
    · rw [List.getElem?_drop] at h1
      have := ha _ _ h1
      omega
    · cases h1
  · omega

set_option maxHeartbeats 4000000 in
set_option maxRecDepth 1000000 in
/-- strings.IndexRune of any other rune from 128 on in ASCII text. -/
theorem index_rune_high (chars : ByteArray) (ha : Ascii chars) (hsz : chars.size < 4294967295) (r : Int) (h0 : 128 ≤ r) (h1 : r ≤ 1114111) (h2 : r ≠ 65533) (w : World) :
    Calls Try.prog 129 #[.string chars, .int .i32 r] w fun e w' => e = .returned (.int .i64 (-1)) ∧ Below w.heap.size w w' := by
  have b1 : (r == 65533) = false := beq_eq_false_iff_ne.2 h2
  have b2 : decide (0 ≤ r) = true := decide_eq_true (by omega)
  have b3 : decide (r < 128) = false := decide_eq_false (by omega)
  obtain ⟨e1, e2, e3⟩ := encode_high h0 h1
  obtain ⟨E, hE⟩ : ∃ E, Utf8.encode r = E := ⟨_, rfl⟩
  have HV := Lib.hid (Try.utf8_ValidRune r)
  cases hv : Lib.validRune r
  · have HV2 := Lib.hid hv
    clear hv
    go_enter Try.func129, Try.ntmps129
    go_wp2_with (go_at_call 139; refine (HV.out _).mono ?_; rintro e w' ⟨rfl, hw⟩; rw [hw, HV2.out]; clear hw)
    go_ret
    exact ⟨rfl, Below.refl _ _⟩
  · have HV2 := Lib.hid hv
    clear hv
    go_enter Try.func129, Try.ntmps129
    go_wp2_with (go_at_call 139; refine (HV.out _).mono ?_; rintro e w' ⟨rfl, hw⟩; rw [hw, HV2.out]; clear hw)
    go_step3
    have g1 : (2 : Int) ≤ (E.size : Int) := by rw [← hE]; omega
    have g2 : (E.size : Int) ≤ 4 := by rw [← hE]; omega
    have e3' : ∀ hj : E.size - 1 < E.size, 128 ≤ ((E[E.size - 1]'hj).toNat) := by subst hE; exact fun hj => e3 _ hj
    obtain ⟨m, hm⟩ : ∃ m, E.size = m + 1 := ⟨E.size - 1, by omega⟩
    have hmE : m < E.size := by omega
    have hlast : 128 ≤ (E[m]'hmE).toNat := by subst hE; exact e3 _ hmE
    have hnone := fun (hm1 : m < chars.size) => index_none chars (m + 1) ha (E[m]'hmE) hlast
    have HN := Lib.hid hnone
    have HM := Lib.hid hm
    have HI := Lib.hid (fun (x : ByteArray) (c : Int) W => Try.strings_IndexByte x c W)
    have gm1 : (1 : Int) ≤ (m : Int) := by omega
    have gm2 : (m : Int) ≤ 3 := by omega
    clear e1 e2 g1 g2 e3 e3' hnone HV HV2
    go_wp2
    clear hm hE
    have hd := HM.out
    go_loopw [9] (fun i wr => i = .int .i64 (m : Int) ∧ wr = w) (fun _ _ => 0)
    case atStart => exact ⟨rfl, rfl⟩
    case round =>
      obtain ⟨rfl, rfl⟩ := hrel
      by_cases hlt : (m : Int) < (chars.size : Int)
      · have hlt2 : m < chars.size := by omega
        have hc1 := ha.at_ m hlt2
        have HN1 := Lib.hid (HN.out hlt2)
        obtain ⟨C, hC⟩ : ∃ C, (chars[m]'hlt2).toNat = C := ⟨_, rfl⟩
        obtain ⟨D, hD⟩ : ∃ D, (E[m]'hmE).toNat = D := ⟨_, rfl⟩
        rw [hC] at hc1
        rw [hD] at hlast
        have hne : (((C : Nat) : Int) != ((D : Nat) : Int)) = true := bne_iff_ne.2 (by omega)
        have q1 : IntKind.i64.wrap ((m : Int) + 1) = (m : Int) + 1 := IntWalk.i64_in _ (by omega)
        have q2 : (m : Int) + 1 ≤ (chars.size : Int) := by omega
        have q3 : ((m : Int) + 1).toNat = m + 1 := by omega
        have hsl : ∀ W : World, (Instr.slice 9 (.string chars) (some (.int .i64 ((m : Int) + 1))) none none).run Try.prog W = .ok (.string (chars.extract (m + 1) chars.size)) W := fun W => by
          have := run_slice_string_from_if (P := Try.prog) (w := W) 9 chars .i64 ((m : Int) + 1) Try.underlying9
          rw [this, if_pos (by omega)]
          rw [q3]
        have hcall : ∀ W : World, Calls Try.prog 138 #[.string (chars.extract (m + 1) chars.size), .int .u8 (D : Int)] W fun e w' => e = .returned (.int .i64 (-1)) ∧ w' = W := fun W => by
          have h := Try.strings_IndexByte (chars.extract (m + 1) chars.size) (D : Int) W
          have hu : ((D : Int).toNat.toUInt8) = E[m]'hmE := by rw [← hD]; simp
          rw [hu, HN1.out] at h
          exact h
        have HCALL := Lib.hid hcall
        clear hd hcall
        go_wp2
        go_step3
        go_wp2
        go_quiet (fail)
        go_wp2
        have hbq : Below wr.heap.size wr (wr.drewN nq) := below_dn (Below.refl _ _) nq
        obtain ⟨W2, hW2⟩ : ∃ W2, wr.drewN nq = W2 := ⟨_, rfl⟩
        rw [hW2] at hbq ⊢
        clear hW2
        go_quiet ((go_at_call 138; exact Calls.quiet_of_same (HCALL.out _)))
        go_wp2
        rw [Exit.noGoto_ret]
        go_simp
        simp +zetaDelta only [Exit.noGoto, Exit.inBlock, Exit.then]
        go_ret
        exact ⟨rfl, below_dn hbq _⟩
      · clear hd
        go_wp2
        go_ret
        exact ⟨rfl, Below.refl _ _⟩

theorem getD_get (s : ByteArray) (i : Nat) : s.data.toList.getD i 0 = s.get! i := by
  cases s with
  | mk d =>
    show d.toList.getD i 0 = d[i]!
    by_cases h : i < d.size
    · rw [getElem!_pos d i h]
      simp [List.getD, h]
    · rw [getElem!_neg d i h]
      simp [List.getD, h]
      rfl
theorem get_of {s : ByteArray} {j : Nat} {b : UInt8} (h : s.data.toList[j]? = some b) : s.get! j = b := by
  have h1 : s.data.toList.getD j 0 = s.get! j := getD_get s j
  rw [← h1, List.getD_eq_getElem?_getD, h]
  rfl
theorem none_high {chars : ByteArray} (hc : Ascii chars) {b : UInt8} (hb : 128 ≤ b.toNat) : chars.data.toList.contains b = false := by
  rw [← Bool.not_eq_true, List.contains_iff_mem]
  intro hm
  obtain ⟨j, hj, e⟩ := List.getElem_of_mem hm
  have := hc j b (by rw [List.getElem?_eq_getElem hj, e])
  omega
theorem noany_more {s chars : List UInt8} {i k : Nat} (h : Lib.NoAny s chars i) (hk : ∀ j b, i ≤ j → j < i + k → s[j]? = some b → chars.contains b = false) : Lib.NoAny s chars (i + k) := fun j b hj hb => by
  by_cases e : j < i
  · exact h j b e hb
  · exact hk j b (by omega) hj hb

set_option maxHeartbeats 4000000 in
set_option maxRecDepth 1000000 in
theorem index_any_short (s chars : ByteArray) (hc : Ascii chars) (h2 : 2 ≤ chars.size) (hcz : chars.size < 4294967281) (h8 : s.size ≤ 8) (w : World) :
    Calls Try.prog 118 #[.string s, .string chars] w fun e w' => e = .returned (.int .i64 (Lib.indexAny s.data.toList chars.data.toList)) ∧ Below w.heap.size w w' := by
  have hemp : chars.toList.isEmpty = false := by
    rw [Lib.toList_data]
    cases h : chars.data.toList with
    | nil => have := Sp.size_eq chars; rw [h, List.length_nil] at this; omega
    | cons _ _ => rfl
  have hn1 : ((chars.size : Int) == 1) = false := beq_eq_false_iff_ne.2 (by omega)
  have h8z : decide ((8 : Int) < (s.size : Int)) = false := decide_eq_false (by omega)
  have HC := Lib.hid hc
  clear hc
  go_enter Try.func118, Try.ntmps118
  go_wp2_with (go_at_call 130; refine (Try.strings_shouldUseASCIISet _ _).mono ?_; rintro e w' ⟨rfl, hw⟩; rw [hw, h8z])
  go_loopg [9, 10] s.size (fun g _ _ wx => ∃ pos : Nat, wx.heap[w.heap.size]? = some (.stringIter s pos) ∧ Below w.heap.size w wx ∧ s.size ≤ pos + g ∧ Lib.NoAny s.data.toList chars.data.toList pos)
  case atStart => exact ⟨0, World.iter_heap w s 0, (Below.refl _ w).alloc (Nat.le_refl _) _, by omega, Lib.NoAny.zero _ _⟩
  case round =>
    obtain ⟨pos, hit, hbw, hfu, hno⟩ := hrel
    have HNO := Lib.hid hno
    clear hno
    by_cases hps : pos < s.size
    · obtain ⟨g', rfl⟩ : ∃ g', gk = g' + 1 := ⟨gk - 1, by omega⟩
      have hnx : ∀ ty, (Instr.next (.pointer (some ⟨w.heap.size, 0, none⟩)) true ty).run Try.prog wr = _ := fun ty => Lib.run_next_any_at wr w.heap.size s pos ty hit hps
      obtain ⟨x, hx⟩ : ∃ x : UInt8, s.data.toList[pos]? = some x := ⟨_, List.getElem?_eq_getElem (by rw [← Sp.size_eq]; exact hps)⟩
      have hg := get_of hx
      have HX := Lib.hid hx
      clear hx
      by_cases hlow : x.toNat < 128
      · have hd : Utf8.decode s pos = (x.toNat, 1) := by rw [decode_low s pos (by rw [hg]; exact hlow), hg]
        rw [hd] at hnx
        have hit2 := Lib.iterAt_heap wr w.heap.size s pos (pos + 1) hit
        have hbw2 := Lib.below_iterAt hbw (k := w.heap.size) (Nat.le_refl _) s (pos + 1)
        have hcon := Lib.contains_iff_indexByte chars.data.toList x
        have hback : ((x.toNat : Int)).toNat.toUInt8 = x := by simp
        clear hd hg
        obtain ⟨W, hWd⟩ : ∃ W, wr.iterAt w.heap.size s (pos + 1) = W := ⟨_, rfl⟩
        simp only [hWd] at hnx
        rw [hWd] at hit2 hbw2
        clear hWd hit
        cases hin : chars.data.toList.contains x
        · rw [hin] at hcon
          have hlt : ¬ ((0 : Int) ≤ Lib.indexByte chars.data.toList x) := of_decide_eq_false hcon.symm
          have HIN := Lib.hid hin
          clear hcon hin
          go_wp2_with (go_at_call 129; refine (Try.strings_IndexRune_ascii _ _ _ (by omega) (by omega)).mono ?_; rintro e w' ⟨rfl, hw⟩; rw [hw, hback])
          go_roundg g'
          case measure => omega
          case rel => exact ⟨pos + 1, hit2, hbw2, by omega, HNO.out.succ HX.out HIN.out⟩
        · rw [hin] at hcon
          have hge : (0 : Int) ≤ Lib.indexByte chars.data.toList x := of_decide_eq_true hcon.symm
          have HIN := Lib.hid hin
          clear hcon hin
          go_wp2_with (go_at_call 129; refine (Try.strings_IndexRune_ascii _ _ _ (by omega) (by omega)).mono ?_; rintro e w' ⟨rfl, hw⟩; rw [hw, hback])
          go_ret
          exact ⟨by rw [Lib.indexAny_hit HNO.out HX.out HIN.out]; rfl, hbw2⟩
      · obtain ⟨q1, q2, q3⟩ := decode_high s pos (by rw [hg]; omega)
        have hwd := Lib.width_pos s pos
        obtain ⟨R, hR⟩ : ∃ R, (Utf8.decode s pos).1 = R := ⟨_, rfl⟩
        obtain ⟨K, hK⟩ : ∃ K, (Utf8.decode s pos).2 = K := ⟨_, rfl⟩
        rw [hR, hK] at hnx
        rw [hK] at hwd q3
        rw [hR] at q1 q2
        have hit2 := Lib.iterAt_heap wr w.heap.size s pos (pos + K) hit
        have hbw2 := Lib.below_iterAt hbw (k := w.heap.size) (Nat.le_refl _) s (pos + K)
        obtain ⟨W, hWd⟩ : ∃ W, wr.iterAt w.heap.size s (pos + K) = W := ⟨_, rfl⟩
        simp only [hWd] at hnx
        rw [hWd] at hit2 hbw2
        clear hWd hit hR hK hg
        have hlt : W.heap.size = W.heap.size := rfl
        have HNEW := Lib.hid (noany_more (k := K) HNO.out (fun j b h1 h2 hb => none_high HC.out (by have := q3 (j - pos) (by omega); rw [show pos + (j - pos) = j by omega, get_of hb] at this; exact this)))
        have hcall : Calls Try.prog 129 #[.string chars, .int .i32 (R : Int)] W fun e w' => e = .returned (.int .i64 (-1)) ∧ Below W.heap.size W w' := by
          by_cases e : (R : Int) = 65533
          · rw [e]; exact index_rune_err chars HC.out W
          · exact index_rune_high chars HC.out (by omega) R (by omega) (by omega) e W
        have HCALL := Lib.hid hcall
        clear hcall q3 hlt
        go_wp2_with (go_at_call 129; refine HCALL.out.mono ?_; rintro e W3 ⟨rfl, hw3⟩)
        go_roundg g'
        case measure => omega
        case rel => exact ⟨pos + K, (hw3.block _ (Array.getElem?_eq_some_iff.1 hit2).1).trans hit2, hbw2.trans (hw3.mono hbw2.size), by omega, HNEW.out⟩
    · have hnx : ∀ ty, (Instr.next (.pointer (some ⟨w.heap.size, 0, none⟩)) true ty).run Try.prog wr = _ := fun ty => Lib.run_next_end_at wr w.heap.size s pos ty hit hps
      go_wp2
      go_ret
      exact ⟨by rw [Lib.indexAny_none (fun j b hj hb => HNO.out j b (by rw [← Sp.size_eq] at hj; omega) hb)]; rfl, hbw⟩

theorem infoAs : (Try.prog.info? 180).map (fun i => (i.zero, i.size)) = some (some (.agg (Array.replicate 256 (.bool false))), 256) := by kernel_rfl
theorem index_any (s chars : ByteArray) (hc : Ascii chars) (h2 : 2 ≤ chars.size) (hcz : chars.size < 4294967281) (hs : s.size < 4294967281) (w : World) :
    Calls Try.prog 118 #[.string s, .string chars] w fun e w' => e = .returned (.int .i64 (Lib.indexAny s.data.toList chars.data.toList)) ∧ Below w.heap.size w w' := by
  by_cases h8 : s.size ≤ 8
  · exact index_any_short s chars hc h2 hcz h8 w
  · refine (Try.strings_IndexAny_long ?_ s chars w h2 (by omega) hs hcz hc).mono fun e w' ⟨h1, h2⟩ => ⟨h1, ?_⟩
    · exact (zero_of_info infoAs).1
    · rw [h2]
      exact ((Below.refl _ _).alloc (Nat.le_refl _) _).alloc (by simp) _
theorem contains_any (s chars : ByteArray) (hc : Ascii chars) (h2 : 2 ≤ chars.size) (hcz : chars.size < 4294967281) (hs : s.size < 4294967281) (w : World) :
    Calls Try.prog 99 #[.string s, .string chars] w fun e w' => e = .returned (.bool (Lib.containsAny s.data.toList chars.data.toList)) ∧ Below w.heap.size w w' := by
  have HI := Lib.hid (index_any s chars hc h2 hcz hs)
  clear hc
  go_enter Try.func99, Try.ntmps99
  go_wp2_with (go_at_call 118; refine (HI.out _).mono ?_; rintro e w' ⟨rfl, hw⟩)
  go_ret
  exact ⟨rfl, hw⟩
end Go.Proofs.Ytjfigngmpagloaa.An

namespace Go.Proofs.Ytjfigngmpagloaa.Pa
open Go.Proofs.YtjfigngmpagloaaW.PrintWords (own_weaken)
open Go Go.RowKit Go.Shelf Go.Proofs Go.Proofs.Ytjfigngmpagloaa
attribute [local go_sem] Oper.semAt_some
set_option linter.unusedVariables false
set_option linter.unusedSimpArgs false

theorem slash_nul : An.Ascii ⟨#[47, 0]⟩ := by
  intro j b h
  have h2 : ([47, 0] : List UInt8)[j]? = some b := h
  rcases j with _ | _ | j
  · simp at h2; subst h2; decide
  · simp at h2; subst h2; decide
  · simp at h2
theorem any_slash (s : ByteArray) : Lib.containsAny s.data.toList (⟨#[47, 0]⟩ : ByteArray).data.toList = decide (47 ∈ s.data.toList ∨ 0 ∈ s.data.toList) := by
  rw [Bool.eq_iff_iff, Sp.containsAny_iff, decide_eq_true_eq]
  constructor
  · rintro ⟨b, hb, hc⟩
    have hc2 : b ∈ ([47, 0] : List UInt8) := hc
    simp at hc2
    rcases hc2 with rfl | rfl
    · exact .inl hb
    · exact .inr hb
  · rintro (h | h)
    · exact ⟨47, h, by simp⟩
    · exact ⟨0, h, by simp⟩

set_option maxHeartbeats 2000000 in
theorem check_calls (s : ByteArray) (hs : s.size < 4294967281) (w : World) :
    Calls Try.prog 63 #[.string s] w fun e w' => e = .returned (.int .i64 (Sp.check s.data.toList)) ∧ Below w.heap.size w w' := by
  have hc := An.contains_any s ⟨#[47, 0]⟩ slash_nul (by decide) (by decide) hs w
  rw [any_slash] at hc
  obtain ⟨B, hB⟩ : ∃ B, decide (47 ∈ s.data.toList ∨ 0 ∈ s.data.toList) = B := ⟨_, rfl⟩
  rw [hB] at hc
  have HC := Lib.hid hc
  obtain ⟨r, hr⟩ : ∃ r, Sp.check s.data.toList = r := ⟨_, rfl⟩
  rw [hr]
  unfold Sp.check at hr
  rw [← Sp.size_eq, ← Lib.toList_data] at hr
  rw [← Lib.toList_data] at hB
  by_cases h0 : s.toList = []
  · rw [if_pos h0] at hr
    obtain rfl := hr
    clear hB hc
    go_enter Try.func63, Try.ntmps63
    go_wp2
    go_ret
    exact ⟨rfl, Below.refl _ _⟩
  · rw [if_neg h0] at hr
    have h0a : (s.toList == []) = false := by simpa using h0
    by_cases h1 : (64 : Int) < (s.size : Int)
    · rw [if_pos (.inl (by omega))] at hr
      obtain rfl := hr
      have h1a : decide ((64 : Int) < (s.size : Int)) = true := decide_eq_true h1
      clear hB hc
      go_enter Try.func63, Try.ntmps63
      go_wp2
      go_ret
      exact ⟨rfl, Below.refl _ _⟩
    · have h1a : decide ((64 : Int) < (s.size : Int)) = false := decide_eq_false h1
      by_cases h2 : 47 ∈ s.toList ∨ 0 ∈ s.toList
      · rw [if_pos (.inr h2)] at hr
        obtain rfl := hr
        obtain rfl : true = B := by rw [← hB]; exact (decide_eq_true h2).symm
        clear hB hc h2
        go_enter Try.func63, Try.ntmps63
        go_wp2_with (go_at_call 99; refine HC.out.mono ?_; rintro e w' ⟨rfl, hw⟩)
        go_ret
        exact ⟨rfl, hw⟩
      · rw [if_neg (fun h => h.elim (fun h => by omega) h2)] at hr
        obtain rfl : false = B := by rw [← hB]; exact (decide_eq_false h2).symm
        clear hB hc h2
        by_cases h3 : s.toList = [46]
        · rw [if_pos (.inl h3)] at hr
          obtain rfl := hr
          go_enter Try.func63, Try.ntmps63
          go_wp2_with (go_at_call 99; refine HC.out.mono ?_; rintro e w' ⟨rfl, hw⟩)
          go_ret
          exact ⟨rfl, hw⟩
        · have h3a : (s.toList == [46]) = false := by simpa using h3
          by_cases h4 : s.toList = [46, 46]
          · rw [if_pos (.inr h4)] at hr
            obtain rfl := hr
            go_enter Try.func63, Try.ntmps63
            go_wp2_with (go_at_call 99; refine HC.out.mono ?_; rintro e w' ⟨rfl, hw⟩)
            go_ret
            exact ⟨rfl, hw⟩
          · have h4a : (s.toList == [46, 46]) = false := by simpa using h4
            rw [if_neg (fun h => h.elim h3 h4)] at hr
            obtain rfl := hr
            go_enter Try.func63, Try.ntmps63
            go_wp2_with (go_at_call 99; refine HC.out.mono ?_; rintro e w' ⟨rfl, hw⟩)
            go_ret
            exact ⟨rfl, hw⟩

theorem right_calls (s : ByteArray) (hs : s.size < 4294967281) (w : World) :
    Calls Try.prog 73 #[.string s] w fun e w' => e = .returned (.bool (Sp.right s.data.toList)) ∧ Below w.heap.size w w' := by
  have hc := check_calls s hs w
  have hr : Sp.right s.data.toList = (Sp.check s.data.toList == 0) := by rw [Sp.right, Bool.eq_iff_iff]; simp
  rw [hr]
  generalize Sp.check s.data.toList = c at *
  have HC := Lib.hid hc
  clear hc hr
  go_enter Try.func73, Try.ntmps73
  go_wp2_with (go_at_call 63; refine HC.out.mono ?_; rintro e w' ⟨rfl, hw⟩)
  go_ret
  exact ⟨rfl, hw⟩

/-- What the loop of path.Is keeps: the box of the answer; all names so far are right. -/
def InvIs (w : World) (pre : List (List UInt8)) (W : World) : Prop := (Boxed W w.heap.size 4 (.bool false) ∧ Below w.heap.size w W) ∧ (∀ x ∈ pre, Sp.right x = true)
def InvNo (w : World) (c : Code) (pre : List (List UInt8)) (W : World) : Prop := (Boxed W w.heap.size 4 (.bool false) ∧ Below w.heap.size w W) ∧ (c = .ret ∧ ∃ x ∈ pre, Sp.right x = false)
theorem box_own {β : Type} (w : World) (B : Nat) (hB : w.heap.size ≤ B) (p : β → Prop) : OwnFrom B (fun s W => (Boxed W w.heap.size 4 (.bool false) ∧ Below w.heap.size w W) ∧ p s) :=
  OwnFrom.and (OwnFrom.and (Own.from (boxed_own w.heap.size 4 (fun _ => .bool false)) _) (ownFrom_below (Nat.le_refl _) hB)) (ownFrom_pure _ p)

def isPath (s : List UInt8) : Bool := decide (s.length ≤ 1024) && decide (Sp.clean s = s) && (Sp.parts s).all Sp.right

theorem below_others {W W' : World} (h : Below W.heap.size W W') : KeepsOthers W W' := ⟨h.size, fun k o hk _ => (h.block k (Array.getElem?_eq_some_iff.1 hk).1).trans hk⟩
theorem is_result {W : World} {B : Nat} {b : Bool} {tmps : Array Value} (hb : Boxed W B 4 (.bool b)) (ht : tmps.getD 2 undef = .pointer (some ⟨B, 0, none⟩)) :
    (results Try.f32 tmps).run Try.prog W = .ok (.bool b) W := by
  have hc := hb.cell
  have hr : Try.f32.results = #[.cell 2 4] := by kernel_rfl
  have ht' : tmps[2]?.getD undef = .pointer (some ⟨B, 0, none⟩) := by rw [← ht]; simp [Array.getD]; split <;> simp_all
  simp [results, hr, go_sem, ht', hc]
theorem is_no1 {s : List UInt8} (h : ¬ s.length ≤ 1024) : isPath s = false := by simp [isPath, h]
theorem is_no2 {s : List UInt8} (h : ¬ Sp.clean s = s) : isPath s = false := by simp [isPath, h]
theorem is_no3 {s : List UInt8} {pre : List (List UInt8)} (hp : pre <+: Sp.parts s) (h : ∃ x ∈ pre, Sp.right x = false) : isPath s = false := by
  obtain ⟨x, hx, hr⟩ := h
  have : (Sp.parts s).all Sp.right = false := by
    rw [List.all_eq_false]
    exact ⟨x, hp.subset hx, by simp [hr]⟩
  simp [isPath, this]
theorem is_yes {s : List UInt8} (h1 : s.length ≤ 1024) (h2 : Sp.clean s = s) (h3 : ∀ x ∈ Sp.parts s, Sp.right x = true) : isPath s = true := by
  simp [isPath, h1, h2]
  exact h3

set_option maxRecDepth 100000 in
set_option maxHeartbeats 4000000 in
theorem is_in (n : Nat) (hn : 4 ≤ n) (s : ByteArray) (w : World) (hs : s.size < 4294967281) :
    CallsIn Fence.wide n Try.prog 32 #[.string s] w fun e W' => e = .returned (.bool (isPath s.data.toList)) ∧ Below w.heap.size w W' := by
  have h1 : 1 ≤ n := by omega
  obtain ⟨r, hr⟩ : ∃ r, isPath s.data.toList = r := ⟨_, rfl⟩
  rw [hr]
  have HR := Lib.hid hr
  clear hr
  have HC := Lib.hid (clean_in (n - 1) (by omega) s (w := w.alloc (.cells #[.bool false] 4)) (by omega))
  have b0 := Boxed.new w 4 (.bool false)
  have c0 := b0.cell
  have f0 := b0.frozen
  have B0 : Below w.heap.size w (w.alloc (.cells #[.bool false] 4)) := (Below.refl _ w).alloc (Nat.le_refl _) _
  refine callsIn_of_wp_marks Try.func32 rfl trivial ?_ rfl
  simp only [Try.ntmps32, List.size_toArray, List.length_cons, List.length_nil, Nat.reduceAdd, Nat.reduceSub, Array.replicate_succ, Array.replicate_zero, List.push_toArray, List.append_toArray, List.nil_append, List.cons_append]
  by_cases hl : (1024 : Int) < (s.size : Int)
  · have hla : decide ((1024 : Int) < (s.size : Int)) = true := decide_eq_true hl
    clear HC
    gi_wp2
    refine ⟨trivial, ?_⟩
    gi_wp2
    refine ⟨_, is_result b0 rfl, ?_, B0⟩
    rw [← HR.out, is_no1 (by rw [← Sp.size_eq]; omega)]
  · have hla : decide ((1024 : Int) < (s.size : Int)) = false := decide_eq_false hl
    obtain ⟨c, hcl⟩ : ∃ c, Sp.mk (Sp.clean s.data.toList) = c := ⟨_, rfl⟩
    rw [hcl] at HC
    by_cases hq : c = s
    · have hqa : (c.toList == s.toList) = true := by rw [hq]; simp
      have hqb : (c.toList != s.toList) = false := by rw [hq]; simp
      have hcs : Sp.clean s.data.toList = s.data.toList := by rw [hq] at hcl; exact Sp.mk_inj (hcl.trans (Sp.mk_of s).symm)
      have HCS := Lib.hid hcs
      clear hcs hcl
      subst hq
      gi_wp2_with (refine ⟨trivial, ?_⟩; first | (gi_at_call 71; refine HC.out.mono ?_; rintro e W1 ⟨rfl, hb1⟩; have b1 := Lib.hid (show Boxed W1 w.heap.size 4 (.bool false) from (hb1.block _ b0.lt).trans b0); have B1 := Lib.hid (B0.trans (hb1.mono B0.size)); have c1 := b1.out.cell; have f1 := b1.out.frozen; have z1 := hb1.size) | (gi_at_call 72; refine (parts_maker (n - 1) _ _).mono ?_; rintro e w' ⟨rfl, rfl⟩))
      rw [World.size_alloc] at z1
      have bN := Boxed.new W1 9 (.string c)
      rw [← Sp.mk_of c] at bN
      refine Rg.wpIn_range rfl h1 (gf := 103) (lb := #[.pointer (some ⟨W1.heap.size, 0, none⟩)]) rfl trivial (enters_of Try.func103 (by kernel_rfl) rfl)
        (iter (n - 1) (by omega) W1.heap.size c.data.toList _ (by rw [← Sp.size_eq]; omega) bN) (by simp) (Below.refl _ _) (fun _ => rfl)
        (InvIs w) (InvNo w) (box_own w _ (by simp; omega) _) (fun c => box_own w _ (by simp; omega) _) (fun pre W v h => ⟨⟨h.1.1.other (by omega) _, h.1.2.setCell (p := ⟨W1.heap.size, 0, none⟩) (by simp; omega) v⟩, h.2⟩)
        ⟨⟨b1.out.alloc _, B1.out.alloc B1.out.size _⟩, by simp⟩
        (fun x => { tmps := #[.string c, undef, .pointer (some ⟨w.heap.size, 0, none⟩), .string (Sp.mk x), .string c, .int .i64 c.size, .bool false, .bool false, .string c, .string c, .string c, .bool false, .bool false, .string c, .func (.func 103) #[] #[.pointer (some ⟨W1.heap.size, 0, none⟩)], .string (Sp.mk x), undef, undef, undef], defers := [] }) ?assign ?body ?done ?stop
      case assign =>
        intro l x W K hK
        gi_wp2
        exact hK
      case body =>
        rintro l pre x W ⟨⟨hv, hB⟩, hok⟩ hpx
        have hxs : (Sp.mk x).size < 4294967281 := by
          have h1 := Sp.mem_room (hpx.subset (List.mem_append_right pre List.mem_cons_self))
          have h2 := Sp.parts_room c.data.toList
          rw [← Sp.size_eq] at h2
          rw [Sp.mk_size]
          omega
        have hrc := right_calls (Sp.mk x) hxs
        rw [Sp.mk_data] at hrc
        obtain ⟨b, hb⟩ : ∃ b, Sp.right x = b := ⟨_, rfl⟩
        rw [hb] at hrc
        have HRC := Lib.hid hrc
        have HB := Lib.hid hb
        have HOK := Lib.hid hok
        clear hrc hb hok
        cases b
        · gi_wp2
          refine ⟨trivial, fun _ => (by omega), ?_⟩
          refine (CallsIn.inRound l (callsIn_wide.2 (HRC.out _))).mono ?_
          rintro e W3 ⟨rfl, hw3⟩
          have b3 := Lib.hid (show Boxed W3 w.heap.size 4 (.bool false) from (hw3.block _ hv.lt).trans hv)
          have c3 := b3.out.cell
          have f3 := b3.out.frozen
          gi_wp2
          exact ⟨(below_others hw3).trans (KeepsOthers.setCell _ _ _), ⟨b3.out.set _, (hB.trans (hw3.mono hB.size)).setCell (p := ⟨w.heap.size, 0, none⟩) (Nat.le_refl _) _⟩, rfl, x, by simp, HB.out⟩
        · gi_wp2
          refine ⟨trivial, fun _ => (by omega), ?_⟩
          refine (CallsIn.inRound l (callsIn_wide.2 (HRC.out _))).mono ?_
          rintro e W3 ⟨rfl, hw3⟩
          have b3 := Lib.hid (show Boxed W3 w.heap.size 4 (.bool false) from (hw3.block _ hv.lt).trans hv)
          gi_wp2
          exact ⟨below_others hw3, fun v hv2 => (hw3.block _ hv2.lt).trans hv2, ⟨b3.out, hB.trans (hw3.mono hB.size)⟩, fun y hy => by rcases List.mem_append.1 hy with h | h; exact HOK.out y h; simp at h; rw [h]; exact HB.out⟩
      case done =>
        rintro D W hD ⟨⟨hv, hB⟩, hok⟩ hK
        have hc := hv.cell
        have hf := hv.frozen
        have hDB : w.heap.size ≠ D := by simp at hD; omega
        have HOK := Lib.hid hok
        clear hok
        gi_wp2
        have hK2 := (KeepsOthers.setCell W ⟨w.heap.size, 0, none⟩ (.bool true)).same D _ hK rfl
        refine ⟨by simp, .inl ⟨_, _, rfl, run_takeDeferred hK2, ?_⟩⟩
        refine ⟨_, is_result (Rg.boxed_putObj (hv.set _) _ hDB) rfl, ?_, (hB.setCell (p := ⟨w.heap.size, 0, none⟩) (Nat.le_refl _) _).trans (belowK_b (w := w) (Nat.le_refl _) _ D _ _ (by simp at hD; omega) hK2 rfl rfl)⟩
        rw [← HR.out, is_yes (by rw [← Sp.size_eq]; omega) HCS.out HOK.out]
      case stop =>
        rintro D c pre W hD hpre ⟨⟨hv, hB⟩, rfl, hno⟩ hK
        have hDB : w.heap.size ≠ D := by simp at hD; omega
        have HNO := Lib.hid hno
        clear hno
        gi_wp2
        refine ⟨by simp, .inl ⟨_, _, rfl, run_takeDeferred hK, ?_⟩⟩
        refine ⟨_, is_result (Rg.boxed_putObj hv _ hDB) rfl, ?_, hB.trans (belowK_b (w := w) (Nat.le_refl _) _ D _ _ (by simp at hD; omega) hK rfl rfl)⟩
        rw [← HR.out, is_no3 hpre HNO.out]
    · have hqa : (c.toList == s.toList) = false := by
        rw [Lib.toList_data, Lib.toList_data]
        simpa using fun h => hq (by rw [← Sp.mk_of c, ← Sp.mk_of s, h])
      have hqb : (c.toList != s.toList) = true := by
        rw [Lib.toList_data, Lib.toList_data]
        simpa using fun h => hq (by rw [← Sp.mk_of c, ← Sp.mk_of s, h])
      have hcs : ¬ Sp.clean s.data.toList = s.data.toList := fun h => hq (by rw [← hcl, h, Sp.mk_of])
      have HCS := Lib.hid hcs
      clear hcs hcl hq
      gi_wp2_with (refine ⟨trivial, ?_⟩; gi_at_call 71; refine HC.out.mono ?_; rintro e W1 ⟨rfl, hb1⟩; have b1 := Lib.hid (show Boxed W1 w.heap.size 4 (.bool false) from (hb1.block _ b0.lt).trans b0); have B1 := Lib.hid (B0.trans (hb1.mono B0.size)); have c1 := b1.out.cell; have f1 := b1.out.frozen)
      refine ⟨_, is_result (b1.out.set _) rfl, ?_, B1.out.setCell (p := ⟨w.heap.size, 0, none⟩) (Nat.le_refl _) _⟩
      rw [← HR.out, is_no2 HCS.out]
end Go.Proofs.Ytjfigngmpagloaa.Pa

namespace Go.Proofs.Ytjfigngmpagloaa.Ext
open Go Go.RowKit Go.Proofs Go.Proofs.Ytjfigngmpagloaa Go.Proofs.YtjfigngmpagloaaW.PrintWords
set_option linter.unusedVariables false

def bs (l : List (List UInt8)) : List ByteArray := l.map Sp.mk
theorem encP_bs (l : List (List UInt8)) : Pa.encP l = encs Value.string (bs l) := by simp [Pa.encP, bs, encs]
theorem bs_len (l : List (List UInt8)) : (bs l).length = l.length := by simp [bs]
theorem lists_bs (l : List (List UInt8)) : (bs l).map (·.data.toList) = l := by simp [bs, List.map_map, Function.comp_def]
theorem bs_lists (l : List ByteArray) : bs (l.map (·.data.toList)) = l := by simp [bs, List.map_map, Function.comp_def, Sp.mk_of]

def path_Parts.f (a0 : ByteArray) : Option (List ByteArray) := if a0.size < 4294967281 then some (bs (Sp.parts a0.data.toList)) else none
theorem path_Parts.calls (a0 : ByteArray) (r : List ByteArray) (w : World) (h : path_Parts.f a0 = some r) :
    Calls Try.prog 58 #[.string a0] w fun e w' => ∃ v0_ : Value, e = .returned (v0_) ∧ Kd.R Kd.string 9 w' w.heap.size (fun _ => True) v0_ r ∧ Below w.heap.size w w' := by
  unfold path_Parts.f at h
  split at h
  · rename_i hs
    obtain rfl := Option.some.inj h
    refine ((callsIn_wide (n := 3)).1 (Pa.parts_in 3 (by omega) a0 w (by omega))).mono ?_
    rintro e w' ⟨v, rfl, ho, hb⟩
    rw [encP_bs, ← bs_len] at ho
    exact ⟨v, rfl, Kd.R_of_own ho (fun _ _ => trivial), hb⟩
  · cases h

def path_Clean.f (a0 : ByteArray) : Option ByteArray := if a0.size < 4294967281 then some (Sp.mk (Sp.clean a0.data.toList)) else none
theorem path_Clean.calls (a0 : ByteArray) (r : ByteArray) (w : World) (h : path_Clean.f a0 = some r) :
    Calls Try.prog 71 #[.string a0] w fun e w' => e = .returned (.string r) ∧ Below w.heap.size w w' := by
  unfold path_Clean.f at h
  split at h
  · rename_i hs
    obtain rfl := Option.some.inj h
    exact (callsIn_wide (n := 3)).1 (Pa.clean_in 3 (by omega) a0 w (by omega))
  · cases h

def path_Is.f (a0 : ByteArray) : Option Bool := if a0.size < 4294967281 then some (Pa.isPath a0.data.toList) else none
theorem path_Is.calls (a0 : ByteArray) (r : Bool) (w : World) (h : path_Is.f a0 = some r) :
    Calls Try.prog 32 #[.string a0] w fun e w' => e = .returned (.bool r) ∧ Below w.heap.size w w' := by
  unfold path_Is.f at h
  split at h
  · rename_i hs
    obtain rfl := Option.some.inj h
    exact (callsIn_wide (n := 4)).1 (Pa.is_in 4 (by omega) a0 w hs)
  · cases h

def name_Check.f (a0 : ByteArray) : Option Int := if a0.size < 4294967281 then some (Sp.check a0.data.toList) else none
theorem name_Check.calls (a0 : ByteArray) (r : Int) (w : World) (h : name_Check.f a0 = some r) :
    Calls Try.prog 63 #[.string a0] w fun e w' => e = .returned (.int .i64 r) ∧ Below w.heap.size w w' := by
  unfold name_Check.f at h
  split at h
  · rename_i hs
    obtain rfl := Option.some.inj h
    exact Pa.check_calls a0 hs w
  · cases h

def strings_Join.f (l0 : List ByteArray) (a1 : ByteArray) : Option ByteArray :=
  if l0.length < 4294967281 ∧ (Lib.join (l0.map (·.data.toList)) a1.data.toList).length < 4294967281 then some (Sp.mk (Lib.join (l0.map (·.data.toList)) a1.data.toList)) else none
theorem strings_Join.calls (A0 : Option Addr) (c0 : Nat) (l0 : List ByteArray) (a1 : ByteArray) (r : ByteArray) (w : World) (hr0 : Kd.C Kd.string w A0 l0.length l0) (hc0 : l0.length ≤ c0) (h : strings_Join.f l0 a1 = some r) :
    Calls Try.prog 68 #[.slice A0 l0.length c0, .string a1] w fun e w' => e = .returned (.string r) ∧ Below w.heap.size w w' := by
  unfold strings_Join.f at h
  split at h
  · rename_i hs
    obtain rfl := Option.some.inj h
    rcases Nat.eq_zero_or_pos l0.length with h0 | h0
    · obtain rfl := List.eq_nil_of_length_eq_zero h0
      refine (Try.strings_Join_none A0 c0 a1 w).mono ?_
      rintro e w' ⟨rfl, rfl⟩
      exact ⟨rfl, Below.refl _ _⟩
    · obtain ⟨ad, e0, h1⟩ := Kd.at_string hr0 0 (by omega) (by omega)
      subst e0
      have hsp : ad.spot = none := by
        cases hs : ad.spot with
        | none => rfl
        | some k =>
          have : w.cell? ad = none := by unfold World.cell?; split <;> simp_all
          rw [show ad.add (0 : Int).toNat = ad from rfl, this] at h1
          cases h1
      obtain ⟨b, o, sp⟩ := ad
      obtain rfl : sp = none := hsp
      have hcell : ∀ (j : Nat) x, l0[j]? = some x → w.cell? ⟨b, o + j, none⟩ = some (.string x) := fun j x hx => by
        obtain ⟨hl, hv⟩ := List.getElem?_eq_some_iff.1 hx
        obtain ⟨ad2, e2, h2⟩ := Kd.at_string hr0 (j : Int) (by omega) (by omega)
        cases e2
        have e3 : rdOf ByteArray.empty l0 (j : Int) = x := by simp [rdOf, hx]
        rw [e3] at h2
        have e4 : (⟨b, o, none⟩ : Addr).add ((j : Int).toNat) = ⟨b, o + j, none⟩ := by unfold Addr.add; split <;> simp_all
        rw [e4] at h2
        exact h2
      exact Try.strings_Join b o c0 l0 a1 w hcell (World.block_lt_of_cell? w _ h1) (by omega) hc0 (by omega)
  · cases h

def strings_ContainsAny.f (a0 a1 : ByteArray) : Option Bool :=
  if a0.size < 4294967281 ∧ 2 ≤ a1.size ∧ a1.size < 4294967281 ∧ (a1.data.toList.all fun b => b.toNat < 128) = true then some (Lib.containsAny a0.data.toList a1.data.toList) else none
theorem strings_ContainsAny.calls (a0 a1 : ByteArray) (r : Bool) (w : World) (h : strings_ContainsAny.f a0 a1 = some r) :
    Calls Try.prog 99 #[.string a0, .string a1] w fun e w' => e = .returned (.bool r) ∧ Below w.heap.size w w' := by
  unfold strings_ContainsAny.f at h
  split at h
  · rename_i hs
    obtain ⟨h1, h2, h3, h4⟩ := hs
    obtain rfl := Option.some.inj h
    refine An.contains_any a0 a1 (fun j b hb => ?_) h2 h3 h1 w
    rw [List.all_eq_true] at h4
    simpa using h4 b (List.mem_of_getElem? hb)
  · cases h
end Go.Proofs.Ytjfigngmpagloaa.Ext

namespace Go.Proofs.Ytjfigngmpagloaa.Ext
end Go.Proofs.Ytjfigngmpagloaa.Ext
namespace Go.Proofs.Ytjfigngmpagloaa.X
open Go.RowKit Go.Proofs.YtjfigngmpagloaaW.PrintWords Go.Proofs.YtjfigngmpagloaaW.PrintLast Go.Proofs.YtjfigngmpagloaaW.PrintMore Go.Proofs.Ytjfigngmpagloaa.Ext
attribute [local go_sem] max2_int min2_int max_two min_two max_three min_three max_four min_four   -- for this text's walks alone
set_option linter.unusedVariables false
set_option linter.unusedSimpArgs false



def errW : Option Int → Value
  | none => .nilIface
  | some c => .iface 0 (.int .i64 c)
theorem errW_none : errW none = .nilIface := rfl
theorem errW_some (c : Int) : errW (some c) = .iface 0 (.int .i64 c) := rfl

theorem info9 : (Try.prog.info? 9).map (fun i => (i.zero, i.size, i.bytes)) = some (some (.string ⟨#[]⟩), 1, 16) := by kernel_rfl
theorem info97 : (Try.prog.info? 97).map (fun i => (i.zero, i.size, i.bytes)) = some (some (.agg #[(.int .i64 0), (.int .i64 0), (.string ⟨#[]⟩), (.int .i64 0), (.string ⟨#[]⟩)]), 5, 56) := by kernel_rfl
theorem info108 : (Try.prog.info? 108).map (fun i => (i.zero, i.size, i.bytes)) = some (some (.agg #[(.string ⟨#[]⟩), (.int .i64 0)]), 2, 24) := by kernel_rfl
-- the values' own types
/-! #### struct type 89 -/
structure S89 where
  f0 : Int
  f1 : ByteArray
  f2 : Int
  f3 : ByteArray
def z89 : S89 := ⟨(0 : Int), (⟨#[]⟩ : ByteArray), (0 : Int), (⟨#[]⟩ : ByteArray)⟩
def k89 : Kd S89 := Kd.iso (Kd.pair (Kd.int .i64) (Kd.pair Kd.string (Kd.pair (Kd.int .i64) Kd.string))) (fun x : S89 => (x.f0, x.f1, x.f2, x.f3))
theorem k89_open {w : World} {x : S89} {cs : List Value} (h : k89.K w x cs) : cs = [.int .i64 x.f0, .string x.f1, .int .i64 x.f2, .string x.f3] := by
 obtain ⟨_, _, rfl, rfl, ⟨_, _, rfl, rfl, ⟨_, _, rfl, rfl, rfl⟩⟩⟩ := h
 exact rfl
theorem k89_openM {w : World} {base : Nat} {ok : Nat → Prop} {x : S89} {cs : List Value} (h : k89.M w base ok x cs) : cs = [.int .i64 x.f0, .string x.f1, .int .i64 x.f2, .string x.f3] := by
 obtain ⟨_, _, rfl, rfl, ⟨_, _, rfl, rfl, ⟨_, _, rfl, rfl, rfl⟩⟩⟩ := h
 exact rfl
theorem k89_mk (w : World) (x : S89)  : k89.K w x [.int .i64 x.f0, .string x.f1, .int .i64 x.f2, .string x.f3] := ⟨[.int .i64 x.f0], [.string x.f1, .int .i64 x.f2, .string x.f3], rfl, rfl, ⟨[.string x.f1], [.int .i64 x.f2, .string x.f3], rfl, rfl, ⟨[.int .i64 x.f2], [.string x.f3], rfl, rfl, rfl⟩⟩⟩
theorem k89_mkM (w : World) (base : Nat) (ok : Nat → Prop) (x : S89)  : k89.M w base ok x [.int .i64 x.f0, .string x.f1, .int .i64 x.f2, .string x.f3] := ⟨[.int .i64 x.f0], [.string x.f1, .int .i64 x.f2, .string x.f3], rfl, rfl, ⟨[.string x.f1], [.int .i64 x.f2, .string x.f3], rfl, rfl, ⟨[.int .i64 x.f2], [.string x.f3], rfl, rfl, rfl⟩⟩⟩
def rd_T89 (xs : List S89) (i : Int) : S89 := xs.getD i.toNat z89
theorem at_T89 {w : World} {A : Option Addr} {n : Nat} {xs : List S89} (h : Kd.C k89 w A n xs) (i : Int) (h0 : 0 ≤ i) (h1 : i < n) : ∃ ad , A = some ad ∧ w.cell? (ad.add (i.toNat * 4)) = some (.int .i64 (rd_T89 xs i).f0) ∧ w.cell? ⟨(ad.add (i.toNat * 4)).block, (ad.add (i.toNat * 4)).off + 1, none⟩ = some (.string (rd_T89 xs i).f1) ∧ w.cell? ⟨(ad.add (i.toNat * 4)).block, (ad.add (i.toNat * 4)).off + 2, none⟩ = some (.int .i64 (rd_T89 xs i).f2) ∧ w.cell? ⟨(ad.add (i.toNat * 4)).block, (ad.add (i.toNat * 4)).off + 3, none⟩ = some (.string (rd_T89 xs i).f3) := by
 obtain ⟨ad, c, e, _, hK, hc0⟩ := Kd.C_get h z89 i h0 h1
 have hc : ∀ j u, c[j]? = some u → w.cell? (ad.add (i.toNat * 4 + j)) = some u := hc0
 obtain rfl := k89_open hK
 exact ⟨ad, e, hc 0 _ rfl, by rw [← add_field _ _ 1 (by omega)]; exact hc 1 _ rfl, by rw [← add_field _ _ 2 (by omega)]; exact hc 2 _ rfl, by rw [← add_field _ _ 3 (by omega)]; exact hc 3 _ rfl⟩

/-! #### struct type 97 -/
structure S97 where
  f0 : Int
  f1 : Int
  f2 : ByteArray
  f3 : Int
  f4 : ByteArray
def z97 : S97 := ⟨(0 : Int), (0 : Int), (⟨#[]⟩ : ByteArray), (0 : Int), (⟨#[]⟩ : ByteArray)⟩
def k97 : Kd S97 := Kd.iso (Kd.pair (Kd.int .i64) (Kd.pair (Kd.int .i64) (Kd.pair Kd.string (Kd.pair (Kd.int .i64) Kd.string)))) (fun x : S97 => (x.f0, x.f1, x.f2, x.f3, x.f4))
theorem k97_open {w : World} {x : S97} {cs : List Value} (h : k97.K w x cs) : cs = [.int .i64 x.f0, .int .i64 x.f1, .string x.f2, .int .i64 x.f3, .string x.f4] := by
 obtain ⟨_, _, rfl, rfl, ⟨_, _, rfl, rfl, ⟨_, _, rfl, rfl, ⟨_, _, rfl, rfl, rfl⟩⟩⟩⟩ := h
 exact rfl
theorem k97_openM {w : World} {base : Nat} {ok : Nat → Prop} {x : S97} {cs : List Value} (h : k97.M w base ok x cs) : cs = [.int .i64 x.f0, .int .i64 x.f1, .string x.f2, .int .i64 x.f3, .string x.f4] := by
 obtain ⟨_, _, rfl, rfl, ⟨_, _, rfl, rfl, ⟨_, _, rfl, rfl, ⟨_, _, rfl, rfl, rfl⟩⟩⟩⟩ := h
 exact rfl
theorem k97_mk (w : World) (x : S97)  : k97.K w x [.int .i64 x.f0, .int .i64 x.f1, .string x.f2, .int .i64 x.f3, .string x.f4] := ⟨[.int .i64 x.f0], [.int .i64 x.f1, .string x.f2, .int .i64 x.f3, .string x.f4], rfl, rfl, ⟨[.int .i64 x.f1], [.string x.f2, .int .i64 x.f3, .string x.f4], rfl, rfl, ⟨[.string x.f2], [.int .i64 x.f3, .string x.f4], rfl, rfl, ⟨[.int .i64 x.f3], [.string x.f4], rfl, rfl, rfl⟩⟩⟩⟩
theorem k97_mkM (w : World) (base : Nat) (ok : Nat → Prop) (x : S97)  : k97.M w base ok x [.int .i64 x.f0, .int .i64 x.f1, .string x.f2, .int .i64 x.f3, .string x.f4] := ⟨[.int .i64 x.f0], [.int .i64 x.f1, .string x.f2, .int .i64 x.f3, .string x.f4], rfl, rfl, ⟨[.int .i64 x.f1], [.string x.f2, .int .i64 x.f3, .string x.f4], rfl, rfl, ⟨[.string x.f2], [.int .i64 x.f3, .string x.f4], rfl, rfl, ⟨[.int .i64 x.f3], [.string x.f4], rfl, rfl, rfl⟩⟩⟩⟩
def rd_T97 (xs : List S97) (i : Int) : S97 := xs.getD i.toNat z97
theorem at_T97 {w : World} {A : Option Addr} {n : Nat} {xs : List S97} (h : Kd.C k97 w A n xs) (i : Int) (h0 : 0 ≤ i) (h1 : i < n) : ∃ ad , A = some ad ∧ w.cell? (ad.add (i.toNat * 5)) = some (.int .i64 (rd_T97 xs i).f0) ∧ w.cell? ⟨(ad.add (i.toNat * 5)).block, (ad.add (i.toNat * 5)).off + 1, none⟩ = some (.int .i64 (rd_T97 xs i).f1) ∧ w.cell? ⟨(ad.add (i.toNat * 5)).block, (ad.add (i.toNat * 5)).off + 2, none⟩ = some (.string (rd_T97 xs i).f2) ∧ w.cell? ⟨(ad.add (i.toNat * 5)).block, (ad.add (i.toNat * 5)).off + 3, none⟩ = some (.int .i64 (rd_T97 xs i).f3) ∧ w.cell? ⟨(ad.add (i.toNat * 5)).block, (ad.add (i.toNat * 5)).off + 4, none⟩ = some (.string (rd_T97 xs i).f4) := by
 obtain ⟨ad, c, e, _, hK, hc0⟩ := Kd.C_get h z97 i h0 h1
 have hc : ∀ j u, c[j]? = some u → w.cell? (ad.add (i.toNat * 5 + j)) = some u := hc0
 obtain rfl := k97_open hK
 exact ⟨ad, e, hc 0 _ rfl, by rw [← add_field _ _ 1 (by omega)]; exact hc 1 _ rfl, by rw [← add_field _ _ 2 (by omega)]; exact hc 2 _ rfl, by rw [← add_field _ _ 3 (by omega)]; exact hc 3 _ rfl, by rw [← add_field _ _ 4 (by omega)]; exact hc 4 _ rfl⟩

/-! #### struct type 108 -/
structure S108 where
  f0 : ByteArray
  f1 : Int
def z108 : S108 := ⟨(⟨#[]⟩ : ByteArray), (0 : Int)⟩
def k108 : Kd S108 := Kd.iso (Kd.pair Kd.string (Kd.int .i64)) (fun x : S108 => (x.f0, x.f1))
theorem k108_open {w : World} {x : S108} {cs : List Value} (h : k108.K w x cs) : cs = [.string x.f0, .int .i64 x.f1] := by
 obtain ⟨_, _, rfl, rfl, rfl⟩ := h
 exact rfl
theorem k108_openM {w : World} {base : Nat} {ok : Nat → Prop} {x : S108} {cs : List Value} (h : k108.M w base ok x cs) : cs = [.string x.f0, .int .i64 x.f1] := by
 obtain ⟨_, _, rfl, rfl, rfl⟩ := h
 exact rfl
theorem k108_mk (w : World) (x : S108)  : k108.K w x [.string x.f0, .int .i64 x.f1] := ⟨[.string x.f0], [.int .i64 x.f1], rfl, rfl, rfl⟩
theorem k108_mkM (w : World) (base : Nat) (ok : Nat → Prop) (x : S108)  : k108.M w base ok x [.string x.f0, .int .i64 x.f1] := ⟨[.string x.f0], [.int .i64 x.f1], rfl, rfl, rfl⟩
def rd_T108 (xs : List S108) (i : Int) : S108 := xs.getD i.toNat z108
theorem at_T108 {w : World} {A : Option Addr} {n : Nat} {xs : List S108} (h : Kd.C k108 w A n xs) (i : Int) (h0 : 0 ≤ i) (h1 : i < n) : ∃ ad , A = some ad ∧ w.cell? (ad.add (i.toNat * 2)) = some (.string (rd_T108 xs i).f0) ∧ w.cell? ⟨(ad.add (i.toNat * 2)).block, (ad.add (i.toNat * 2)).off + 1, none⟩ = some (.int .i64 (rd_T108 xs i).f1) := by
 obtain ⟨ad, c, e, _, hK, hc0⟩ := Kd.C_get h z108 i h0 h1
 have hc : ∀ j u, c[j]? = some u → w.cell? (ad.add (i.toNat * 2 + j)) = some u := hc0
 obtain rfl := k108_open hK
 exact ⟨ad, e, hc 0 _ rfl, by rw [← add_field _ _ 1 (by omega)]; exact hc 1 _ rfl⟩

/-! #### struct type 75 -/
structure S75 where
  f0 : ByteArray
  f1 : ByteArray
def z75 : S75 := ⟨(⟨#[]⟩ : ByteArray), (⟨#[]⟩ : ByteArray)⟩
def k75 : Kd S75 := Kd.iso (Kd.pair Kd.string Kd.string) (fun x : S75 => (x.f0, x.f1))
theorem k75_open {w : World} {x : S75} {cs : List Value} (h : k75.K w x cs) : cs = [.string x.f0, .string x.f1] := by
 obtain ⟨_, _, rfl, rfl, rfl⟩ := h
 exact rfl
theorem k75_openM {w : World} {base : Nat} {ok : Nat → Prop} {x : S75} {cs : List Value} (h : k75.M w base ok x cs) : cs = [.string x.f0, .string x.f1] := by
 obtain ⟨_, _, rfl, rfl, rfl⟩ := h
 exact rfl
theorem k75_mk (w : World) (x : S75)  : k75.K w x [.string x.f0, .string x.f1] := ⟨[.string x.f0], [.string x.f1], rfl, rfl, rfl⟩
theorem k75_mkM (w : World) (base : Nat) (ok : Nat → Prop) (x : S75)  : k75.M w base ok x [.string x.f0, .string x.f1] := ⟨[.string x.f0], [.string x.f1], rfl, rfl, rfl⟩
def rd_T75 (xs : List S75) (i : Int) : S75 := xs.getD i.toNat z75
theorem at_T75 {w : World} {A : Option Addr} {n : Nat} {xs : List S75} (h : Kd.C k75 w A n xs) (i : Int) (h0 : 0 ≤ i) (h1 : i < n) : ∃ ad , A = some ad ∧ w.cell? (ad.add (i.toNat * 2)) = some (.string (rd_T75 xs i).f0) ∧ w.cell? ⟨(ad.add (i.toNat * 2)).block, (ad.add (i.toNat * 2)).off + 1, none⟩ = some (.string (rd_T75 xs i).f1) := by
 obtain ⟨ad, c, e, _, hK, hc0⟩ := Kd.C_get h z75 i h0 h1
 have hc : ∀ j u, c[j]? = some u → w.cell? (ad.add (i.toNat * 2 + j)) = some u := hc0
 obtain rfl := k75_open hK
 exact ⟨ad, e, hc 0 _ rfl, by rw [← add_field _ _ 1 (by omega)]; exact hc 1 _ rfl⟩

/-! #### struct type 76 -/
structure S76 where
  f0 : ByteArray
  f1 : ByteArray
def z76 : S76 := ⟨(⟨#[]⟩ : ByteArray), (⟨#[]⟩ : ByteArray)⟩
def k76 : Kd S76 := Kd.iso (Kd.pair Kd.string Kd.string) (fun x : S76 => (x.f0, x.f1))
theorem k76_open {w : World} {x : S76} {cs : List Value} (h : k76.K w x cs) : cs = [.string x.f0, .string x.f1] := by
 obtain ⟨_, _, rfl, rfl, rfl⟩ := h
 exact rfl
theorem k76_openM {w : World} {base : Nat} {ok : Nat → Prop} {x : S76} {cs : List Value} (h : k76.M w base ok x cs) : cs = [.string x.f0, .string x.f1] := by
 obtain ⟨_, _, rfl, rfl, rfl⟩ := h
 exact rfl
theorem k76_mk (w : World) (x : S76)  : k76.K w x [.string x.f0, .string x.f1] := ⟨[.string x.f0], [.string x.f1], rfl, rfl, rfl⟩
theorem k76_mkM (w : World) (base : Nat) (ok : Nat → Prop) (x : S76)  : k76.M w base ok x [.string x.f0, .string x.f1] := ⟨[.string x.f0], [.string x.f1], rfl, rfl, rfl⟩
def rd_T76 (xs : List S76) (i : Int) : S76 := xs.getD i.toNat z76
theorem at_T76 {w : World} {A : Option Addr} {n : Nat} {xs : List S76} (h : Kd.C k76 w A n xs) (i : Int) (h0 : 0 ≤ i) (h1 : i < n) : ∃ ad , A = some ad ∧ w.cell? (ad.add (i.toNat * 2)) = some (.string (rd_T76 xs i).f0) ∧ w.cell? ⟨(ad.add (i.toNat * 2)).block, (ad.add (i.toNat * 2)).off + 1, none⟩ = some (.string (rd_T76 xs i).f1) := by
 obtain ⟨ad, c, e, _, hK, hc0⟩ := Kd.C_get h z76 i h0 h1
 have hc : ∀ j u, c[j]? = some u → w.cell? (ad.add (i.toNat * 2 + j)) = some u := hc0
 obtain rfl := k76_open hK
 exact ⟨ad, e, hc 0 _ rfl, by rw [← add_field _ _ 1 (by omega)]; exact hc 1 _ rfl⟩

@[go_sem] theorem fl_89_0 (v0 v1 v2 v3 : Value) (w : World) : (Instr.field 89 (.agg #[v0, v1, v2, v3]) 0).run Try.prog w = .ok v0 w := by kernel_rfl
@[go_sem] theorem fl_89_1 (v0 v1 v2 v3 : Value) (w : World) : (Instr.field 89 (.agg #[v0, v1, v2, v3]) 1).run Try.prog w = .ok v1 w := by kernel_rfl
@[go_sem] theorem fl_89_2 (v0 v1 v2 v3 : Value) (w : World) : (Instr.field 89 (.agg #[v0, v1, v2, v3]) 2).run Try.prog w = .ok v2 w := by kernel_rfl
@[go_sem] theorem fl_89_3 (v0 v1 v2 v3 : Value) (w : World) : (Instr.field 89 (.agg #[v0, v1, v2, v3]) 3).run Try.prog w = .ok v3 w := by kernel_rfl
@[go_sem] theorem fl_97_0 (v0 v1 v2 v3 v4 : Value) (w : World) : (Instr.field 97 (.agg #[v0, v1, v2, v3, v4]) 0).run Try.prog w = .ok v0 w := by kernel_rfl
@[go_sem] theorem fl_97_1 (v0 v1 v2 v3 v4 : Value) (w : World) : (Instr.field 97 (.agg #[v0, v1, v2, v3, v4]) 1).run Try.prog w = .ok v1 w := by kernel_rfl
@[go_sem] theorem fl_97_2 (v0 v1 v2 v3 v4 : Value) (w : World) : (Instr.field 97 (.agg #[v0, v1, v2, v3, v4]) 2).run Try.prog w = .ok v2 w := by kernel_rfl
@[go_sem] theorem fl_97_3 (v0 v1 v2 v3 v4 : Value) (w : World) : (Instr.field 97 (.agg #[v0, v1, v2, v3, v4]) 3).run Try.prog w = .ok v3 w := by kernel_rfl
@[go_sem] theorem fl_97_4 (v0 v1 v2 v3 v4 : Value) (w : World) : (Instr.field 97 (.agg #[v0, v1, v2, v3, v4]) 4).run Try.prog w = .ok v4 w := by kernel_rfl
@[go_sem] theorem fl_108_0 (v0 v1 : Value) (w : World) : (Instr.field 108 (.agg #[v0, v1]) 0).run Try.prog w = .ok v0 w := by kernel_rfl
@[go_sem] theorem fl_108_1 (v0 v1 : Value) (w : World) : (Instr.field 108 (.agg #[v0, v1]) 1).run Try.prog w = .ok v1 w := by kernel_rfl
@[go_sem] theorem fl_75_0 (v0 v1 : Value) (w : World) : (Instr.field 75 (.agg #[v0, v1]) 0).run Try.prog w = .ok v0 w := by kernel_rfl
@[go_sem] theorem fl_75_1 (v0 v1 : Value) (w : World) : (Instr.field 75 (.agg #[v0, v1]) 1).run Try.prog w = .ok v1 w := by kernel_rfl
@[go_sem] theorem fl_76_0 (v0 v1 : Value) (w : World) : (Instr.field 76 (.agg #[v0, v1]) 0).run Try.prog w = .ok v0 w := by kernel_rfl
@[go_sem] theorem fl_76_1 (v0 v1 : Value) (w : World) : (Instr.field 76 (.agg #[v0, v1]) 1).run Try.prog w = .ok v1 w := by kernel_rfl
/-- The block of a slice does not hang on its length. -/
theorem own_cut {α : Type} {d : Kd α} {e : Nat} {w : World} {base : Nat} {A : Option Addr} {x y c : Nat} {v : Value} {xs : List α} (h : Kd.R d e w base (fun k_ => some k_ ≠ (Value.slice A x c).ownBlock) v xs) :
  Kd.R d e w base (fun k_ => some k_ ≠ (Value.slice A y c).ownBlock) v xs := Kd.R_mono h (fun k hk => by cases A <;> exact hk)
theorem less_irr : ∀ a : List UInt8, Op.bytesLess a a = false
 | [] => by simp [Op.bytesLess]
 | c :: a => by simp [Op.bytesLess, less_irr a]
theorem less_asym : ∀ a b : List UInt8, Op.bytesLess a b = true → Op.bytesLess b a = false
 | _, [], h => by simp [Op.bytesLess] at h
 | [], _ :: _, _ => by simp [Op.bytesLess]
 | c :: a, d :: b, h => by
  simp [Op.bytesLess] at h ⊢
  rcases h with h | ⟨rfl, h⟩
  ·
   exact ⟨UInt8.le_of_lt h, fun e => absurd h (by rw [e]; exact UInt8.lt_irrefl _)⟩
  ·
   exact ⟨UInt8.le_refl _, fun _ => less_asym a b h⟩
theorem less_tot : ∀ a b : List UInt8, Op.bytesLess a b = false → (Op.bytesLess b a || b == a) = true
 | [], [], _ => by simp
 | _ :: _, [], _ => by simp [Op.bytesLess]
 | [], _ :: _, h => by simp [Op.bytesLess] at h
 | c :: a, d :: b, h => by
  simp [Op.bytesLess] at h
  obtain ⟨h1, h2⟩ := h
  by_cases e : d = c
  ·
   subst e
   have := less_tot a b (h2 rfl)
   simp [Op.bytesLess] at this ⊢
   exact this
  ·
   have : d < c := UInt8.lt_of_le_of_ne h1 e
   simp [Op.bytesLess, this]
theorem less_flip {a b : List UInt8} (h : Op.bytesLess a b = true) : (b == a) = false := by
 rw [beq_eq_false_iff_ne]
 rintro rfl
 rw [less_irr] at h
 cases h
theorem bne_nil (l : List UInt8) : (l != []) = !l.isEmpty := by cases l <;> rfl

end Go.Proofs.Ytjfigngmpagloaa.X

namespace Go.Proofs.Ytjfigngmpagloaa.Tw
open Go Go.RowKit Go.Shelf Go.Proofs Go.Proofs.Ytjfigngmpagloaa Go.Proofs.YtjfigngmpagloaaW.PrintWords Go.Proofs.Ytjfigngmpagloaa.Ext Go.Proofs.Ytjfigngmpagloaa.X
set_option linter.unusedVariables false
set_option linter.unusedSimpArgs false

abbrev En := S108
def bl (a b : ByteArray) : Bool := Op.bytesLess a.toList b.toList
def cmpV (a b : ByteArray) : Int := if bl a b = true then -1 else if (a.toList == b.toList) = true then 0 else 1
theorem isNaN_calls (s : ByteArray) (w : World) : Calls Try.prog 125 #[.string s] w fun e w' => e = .returned (.bool false) ∧ w = w' := by
  have b1 : (s.toList != s.toList) = false := by simp
  go_enter Try.func125, Try.ntmps125
  go_wp2
  go_ret
  exact ⟨rfl, rfl⟩
theorem compare_calls (a b : ByteArray) (w : World) : Calls Try.prog 112 #[.string a, .string b] w fun e w' => e = .returned (.int .i64 (cmpV a b)) ∧ w = w' := by
  obtain ⟨r, hr⟩ : ∃ r, r = cmpV a b := ⟨_, rfl⟩
  rw [← hr]
  unfold cmpV at hr
  have HR := Lib.hid hr
  clear hr
  cases h1 : bl a b with
  | true =>
    have e : r = -1 := by rw [HR.out, h1]; rfl
    have HE := Lib.hid e
    unfold bl at h1
    clear HR e
    go_enter Try.func112, Try.ntmps112
    go_wp2_with (go_at_call 125; refine (isNaN_calls _ _).mono ?_; rintro e w' ⟨rfl, rfl⟩)
    go_ret
    exact ⟨by rw [HE.out]; rfl, rfl⟩
  | false =>
    cases h2 : (a.toList == b.toList) with
    | true =>
      have e : r = 0 := by rw [HR.out, h1, h2]; rfl
      have HE := Lib.hid e
      unfold bl at h1
      clear HR e
      go_enter Try.func112, Try.ntmps112
      go_wp2_with (go_at_call 125; refine (isNaN_calls _ _).mono ?_; rintro e w' ⟨rfl, rfl⟩)
      go_ret
      exact ⟨by rw [HE.out]; rfl, rfl⟩
    | false =>
      have e : r = 1 := by rw [HR.out, h1, h2]; rfl
      have HE := Lib.hid e
      unfold bl at h1
      clear HR e
      go_enter Try.func112, Try.ntmps112
      go_wp2_with (go_at_call 125; refine (isNaN_calls _ _).mono ?_; rintro e w' ⟨rfl, rfl⟩)
      go_ret
      exact ⟨by rw [HE.out]; rfl, rfl⟩
theorem at1_calls (n : ByteArray) (x : Int) (s : ByteArray) (w : World) : Calls Try.prog 111 #[.agg #[.string n, .int .i64 x], .string s] w fun e w' => e = .returned (.int .i64 (cmpV n s)) ∧ Below w.heap.size w w' := by
  go_enter Try.func111, Try.ntmps111
  go_wp2_with (go_at_call 112; refine (compare_calls _ _ _).mono ?_; rintro e w' ⟨rfl, rfl⟩)
  go_ret
  exact ⟨rfl, (Below.refl _ w).alloc (Nat.le_refl _) _⟩

/-- How many names stand ahead of a text. -/
structure Cut (l : List En) (s : ByteArray) (lo : Nat) : Prop where
  le : lo ≤ l.length
  lt : ∀ i, i < lo → bl (l.getD i z108).f0 s = true
  ge : ∀ i, lo ≤ i → i < l.length → bl (l.getD i z108).f0 s = false
def isAt (l : List En) (s : ByteArray) (lo : Nat) : Bool := decide (lo < l.length) && ((l.getD lo z108).f0.toList == s.toList)
theorem cmpV_lt {a b : ByteArray} (h : bl a b = true) : decide (cmpV a b < 0) = true := by unfold cmpV; rw [if_pos h]; rfl
theorem cmpV_ge {a b : ByteArray} (h : bl a b = false) : decide (cmpV a b < 0) = false := by unfold cmpV; rw [if_neg (by rw [h]; simp)]; split <;> rfl
theorem cmpV_eq {a b : ByteArray} (h : bl a b = false) : (cmpV a b == 0) = (a.toList == b.toList) := by
  unfold cmpV
  rw [if_neg (by rw [h]; simp)]
  split
  · rename_i e; rw [e]; rfl
  · rename_i e; rw [Bool.not_eq_true] at e; rw [e]; rfl
set_option maxHeartbeats 4000000 in
set_option maxRecDepth 1000000 in
theorem search_calls (A : Option Addr) (c : Nat) (l : List En) (s : ByteArray) (lo : Nat) (w : World) (hr : Kd.C k108 w A l.length l) (hc : l.length ≤ c) (hl : l.length < 4294967296) (hlo : Cut l s lo) :
    Calls Try.prog 110 #[.slice A l.length c, .string s, .func (.func 111) #[] #[]] w fun e w' => e = .returned (.tuple #[.int .i64 lo, .bool (isAt l s lo)]) ∧ Below w.heap.size w w' := by
  have HLO := Lib.hid hlo
  have HR := Lib.hid hr
  clear hlo hr
  go_enter Try.func110, Try.ntmps110
  go_wp2
  go_loopw [9, 10] (fun i j wr => ∃ a b : Nat, i = .int .i64 (a : Int) ∧ j = .int .i64 (b : Int) ∧ a ≤ lo ∧ lo ≤ b ∧ b ≤ l.length ∧ Below w.heap.size w wr) (fun i j _ => (intOf j).toNat - (intOf i).toNat)
  case atStart => exact ⟨0, l.length, rfl, rfl, Nat.zero_le _, HLO.out.le, Nat.le_refl _, Below.refl _ _⟩
  case round =>
    obtain ⟨a, b, rfl, rfl, ha, hb, hbl, hB⟩ := hrel
    have HB := Lib.hid hB
    by_cases hab : a < b
    · obtain ⟨ad, eA, x0, x1⟩ := at_T108 (Kd.C_below HR.out hB) (((a : Int) + (b : Int)) / 2) (by omega) (by omega)
      have i0 : (0 : Int) ≤ ((a : Int) + (b : Int)) / 2 := by omega
      have i1 : ((a : Int) + (b : Int)) / 2 < (l.length : Int) := by omega
      have hh : (((a : Int) + (b : Int)) / 2).toNat = (a + b) / 2 := by omega
      have hrd : rd_T108 l (((a : Int) + (b : Int)) / 2) = l.getD ((a + b) / 2) z108 := by unfold rd_T108; rw [hh]
      rw [hrd, hh] at x0 x1
      subst eA
      generalize hq : l.getD ((a + b) / 2) z108 = q at x0 x1
      have HQ := Lib.hid hq
      have HH := Lib.hid hh
      have hab' : (a : Int) < (b : Int) := by omega
      clear hq hh hrd hB hab
      by_cases hlt : (a + b) / 2 < lo
      · have hb1 : bl q.f0 s = true := by rw [← HQ.out]; exact HLO.out.lt _ hlt
        have d1 := cmpV_lt hb1
        go_wp2_with (go_at_call 111; refine (at1_calls _ _ _ _).mono ?_; rintro e w5 ⟨rfl, hb5⟩)
        go_roundw
        case rel => exact ⟨(a + b) / 2 + 1, b, by go_num, rfl, by omega, hb, hbl, HB.out.trans (hb5.mono HB.out.size)⟩
        case measure => simp [intOf]; omega
      · have hb1 : bl q.f0 s = false := by rw [← HQ.out]; exact HLO.out.ge _ (by omega) (by omega)
        have d1 := cmpV_ge hb1
        go_wp2_with (go_at_call 111; refine (at1_calls _ _ _ _).mono ?_; rintro e w5 ⟨rfl, hb5⟩)
        go_roundw
        case rel => exact ⟨a, (a + b) / 2, rfl, by go_num, ha, by omega, by omega, HB.out.trans (hb5.mono HB.out.size)⟩
        case measure => simp [intOf]; omega
    · obtain rfl : a = lo := by omega
      obtain rfl : b = a := by omega
      clear hab ha hb
      by_cases hn : b < l.length
      · obtain ⟨ad, eA, x0, x1⟩ := at_T108 (Kd.C_below HR.out hB) (b : Int) (by omega) (by omega)
        have hrd : rd_T108 l (b : Int) = l.getD b z108 := by unfold rd_T108; simp
        rw [hrd] at x0 x1
        rw [Int.toNat_natCast] at x0 x1
        subst eA
        have hb1 : bl (l.getD b z108).f0 s = false := HLO.out.ge _ (Nat.le_refl _) hn
        have d1 := cmpV_eq hb1
        have hat : isAt l s b = ((l.getD b z108).f0.toList == s.toList) := by unfold isAt; rw [decide_eq_true hn, Bool.true_and]
        generalize l.getD b z108 = q at x0 x1 d1 hat
        have HAT := Lib.hid hat
        clear hat hrd hb1 hB
        go_wp2_with (go_at_call 111; refine (at1_calls _ _ _ _).mono ?_; rintro e w5 ⟨rfl, hb5⟩)
        go_ret2
        exact ⟨by rw [HAT.out]; rfl, HB.out.trans (hb5.mono HB.out.size)⟩
      · have hat : isAt l s b = false := by unfold isAt; rw [decide_eq_false hn, Bool.false_and]
        have HAT := Lib.hid hat
        clear hat hB
        go_wp2
        go_ret2
        exact ⟨by rw [HAT.out]; rfl, HB.out⟩
end Go.Proofs.Ytjfigngmpagloaa.Tw

namespace Go.Proofs.Ytjfigngmpagloaa.Ext
end Go.Proofs.Ytjfigngmpagloaa.Ext
namespace Go.Proofs.Ytjfigngmpagloaa.X
open Go.RowKit Go.Proofs.YtjfigngmpagloaaW.PrintWords Go.Proofs.YtjfigngmpagloaaW.PrintLast Go.Proofs.YtjfigngmpagloaaW.PrintMore Go.Proofs.Ytjfigngmpagloaa.Ext
attribute [local go_sem] max2_int min2_int max_two min_two max_three min_three max_four min_four   -- for this text's walks alone
set_option linter.unusedVariables false
set_option linter.unusedSimpArgs false

/-! ### ents_Right: function 109 -/
def ents_Right.l0 : Nat → List (S108) → Int → Option (Bool)
  | 0, _, _ => none
  | k + 1, x0, x3 => if x3 < (x0.length : Int) then (if 0 ≤ x3 then (if 0 ≤ (wrap64 (x3 - 1)) then (if (wrap64 (x3 - 1)) < (x0.length : Int) then (if ((Op.bytesLess (((rd_T108 x0 (wrap64 (x3 - 1))).f0).toList) (((rd_T108 x0 x3).f0).toList)) = true) then (ents_Right.l0 k x0 (wrap64 (x3 + 1))) else (some false)) else (none)) else (none)) else (none)) else (some true)
def ents_Right.f (k : Nat) (l0 : List (S108)) : Option (Bool) := ents_Right.l0 k l0 1
theorem ents_Right.mono_l : ∀ k, (∀ y0 y1, LeO (ents_Right.l0 k y0 y1) (ents_Right.l0 (k + 1) y0 y1))
 | 0 => fun _ _ r h => by simp [ents_Right.l0] at h
 | k + 1 => by
  have ih0 := ents_Right.mono_l k
  ·
   intro y0 y1
   unfold ents_Right.l0
   repeat' first
   | (with_reducible exact ih0 _ _)
   | (with_reducible exact LeO.refl _)
   | (with_reducible exact LeO.none _)
   | (with_reducible refine LeO.ite ?_ ?_)
   | (with_reducible refine LeO.bind ?_ (fun _ => ?_))
   | exact ih0 _ _
   | exact LeO.none _
   | refine LeO.ite ?_ ?_
   | refine LeO.bind ?_ (fun _ => ?_)
theorem ents_Right.mono : ∀ a0 k, LeO (ents_Right.f k a0) (ents_Right.f (k + 1) a0) := by
 intro a0 k
 have ih0 := ents_Right.mono_l k
 unfold ents_Right.f
 repeat' first
   | (with_reducible exact ih0 _ _)
   | (with_reducible exact LeO.refl _)
   | (with_reducible exact LeO.none _)
   | (with_reducible refine LeO.ite ?_ ?_)
   | (with_reducible refine LeO.bind ?_ (fun _ => ?_))
   | exact ih0 _ _
   | exact LeO.none _
   | refine LeO.ite ?_ ?_
   | refine LeO.bind ?_ (fun _ => ?_)
set_option maxHeartbeats 8000000 in
set_option maxRecDepth 100000 in
theorem ents_Right.calls (k : Nat) (A0 : Option Addr) (c0 : Nat) (l0 : List (S108)) (r : Bool) (w : World) (hr0 : Kd.C k108 w A0 l0.length l0) (hc0 : l0.length ≤ c0) (h : ents_Right.f k l0 = some r) :
  Calls Try.prog 109 #[.slice A0 l0.length c0] w fun e w' => e = .returned (.bool r) ∧ Drawn0 w w' := by
 have hu75 := Try.underlying75
 have hu76 := Try.underlying76
 have hu89 := Try.underlying89
 have hu97 := Try.underlying97
 have hu108 := Try.underlying108
 have HR0 := Aside0.mk hr0
 have HC0 := Aside0.mk hc0
 clear hr0 hc0
 have H : (ents_Right.l0 k l0 1) = some r := h
 clear h
 have H' := Aside0.mk H
 clear H
 go_enter Try.func109, Try.ntmps109
 go_wp2
 repeat (go_quiet (fail); try go_wp2)
 go_loopg [3] k (fun kq v3 w' => ∃ (x3_1 : Int), v3 = .int .i64 x3_1 ∧ Aside0 (ents_Right.l0 kq l0 x3_1 = some r) ∧ Aside0 (kq ≤ k) ∧ Drawn0 w w')
 case atStart => exact ⟨(1), (by first | rfl | (simp; done) | (simp [*]; done) | (simp [bne_nil]; done)), H', ⟨Nat.le_refl _⟩, by repeat (first | exact Drawn0.refl _ | apply Drawn0.step)⟩
 case round =>
  clear H'
  try clear c1
  obtain ⟨x3_1, rfl, HA, HK1, ⟨m1, rfl⟩⟩ := hrel
  cases gk with
  | zero => exact absurd HA.out (by simp [ents_Right.l0])
  | succ k1 =>
   have H := HA.out
   clear HA
   simp only [ents_Right.l0] at H
   by_cases c2 : x3_1 < (l0.length : Int)
   ·
    rw [if_pos c2] at H
    have c2b0 : decide (x3_1 < (l0.length : Int)) = true := decide_eq_true c2
    clear c2
    by_cases c3 : 0 ≤ x3_1
    ·
     rw [if_pos c3] at H
     have c3b0 : decide (0 ≤ x3_1) = true := decide_eq_true c3
     clear c3
     obtain ⟨ji4, hji4⟩ : ∃ j_ : Int, (wrap64 (x3_1 - 1)) = j_ := ⟨_, rfl⟩
     replace H : (if 0 ≤ (ji4) then (if (ji4) < (l0.length : Int) then (if ((Op.bytesLess (((rd_T108 l0 (ji4)).f0).toList) (((rd_T108 l0 x3_1).f0).toList)) = true) then (ents_Right.l0 k1 l0 (wrap64 (x3_1 + 1))) else (some false)) else (none)) else (none)) = some r := by first | (rw [hji4] at H; exact H) | (simp only [hji4] at H ⊢; exact H)
     have hji4w : (IntKind.i64.wrap (x3_1 - 1)) = ji4 := (i64_w _).trans hji4
     by_cases c5 : 0 ≤ (ji4)
     ·
      rw [if_pos c5] at H
      have c5b0 : decide (0 ≤ (ji4)) = true := decide_eq_true c5
      clear c5
      by_cases c6 : (ji4) < (l0.length : Int)
      ·
       rw [if_pos c6] at H
       have c6b0 : decide ((ji4) < (l0.length : Int)) = true := decide_eq_true c6
       clear c6
       by_cases c7 : ((Op.bytesLess (((rd_T108 l0 (ji4)).f0).toList) (((rd_T108 l0 x3_1).f0).toList)) = true)
       ·
        rw [if_pos c7] at H
        have c7b0 : (Op.bytesLess (((rd_T108 l0 (ji4)).f0).toList) (((rd_T108 l0 x3_1).f0).toList)) = true := c7
        (try (have c7L1 : Op.bytesLess (((rd_T108 l0 x3_1).f0).toList) (((rd_T108 l0 (ji4)).f0).toList) = false := less_asym _ _ c7b0; have c7L2 : ((((rd_T108 l0 x3_1).f0).toList) == (((rd_T108 l0 (ji4)).f0).toList)) = false := less_flip c7b0))
        clear c7
        have H' := Aside0.mk H
        clear H
        have p409 : 0 ≤ (x3_1 : Int) := of_decide_eq_true (by first | (with_reducible assumption) | assumption)
        have q409 : x3_1 < (l0.length : Int) := of_decide_eq_true (by first | (with_reducible assumption) | assumption)
        obtain ⟨ad409, e409, hx409_0, hx409_1⟩ := at_T108 HR0.out x3_1 p409 q409
        cases e409
        replace p409 := eq_true p409
        replace q409 := eq_true q409
        have p410 : 0 ≤ ((ji4) : Int) := of_decide_eq_true (by first | (with_reducible assumption) | assumption)
        have q410 : (ji4) < (l0.length : Int) := of_decide_eq_true (by first | (with_reducible assumption) | assumption)
        obtain ⟨ad410, e410, hx410_0, hx410_1⟩ := at_T108 HR0.out (ji4) p410 q410
        obtain rfl : ad409 = ad410 := (by injection e410)
        replace p410 := eq_true p410
        replace q410 := eq_true q410
        go_wp2
        repeat (go_quiet (fail); try go_wp2)
        go_roundg k1
        case measure => have := HK1.out; omega
        case rel => exact ⟨(wrap64 (x3_1 + 1)), (by first | rfl | (simp; done) | (simp [*]; done) | (simp [bne_nil]; done)), H', ⟨by have := HK1.out; omega⟩, by repeat (first | exact Drawn0.refl _ | apply Drawn0.step)⟩
       ·
        rw [if_neg c7] at H
        have c7b0 : (Op.bytesLess (((rd_T108 l0 (ji4)).f0).toList) (((rd_T108 l0 x3_1).f0).toList)) = false := by simpa using c7
        (try (have c7L1 : (Op.bytesLess (((rd_T108 l0 x3_1).f0).toList) (((rd_T108 l0 (ji4)).f0).toList) || (((rd_T108 l0 x3_1).f0).toList) == (((rd_T108 l0 (ji4)).f0).toList)) = true := less_tot _ _ c7b0))
        clear c7
        obtain rfl := Option.some.inj H
        have p409 : 0 ≤ (x3_1 : Int) := of_decide_eq_true (by first | (with_reducible assumption) | assumption)
        have q409 : x3_1 < (l0.length : Int) := of_decide_eq_true (by first | (with_reducible assumption) | assumption)
        obtain ⟨ad409, e409, hx409_0, hx409_1⟩ := at_T108 HR0.out x3_1 p409 q409
        cases e409
        replace p409 := eq_true p409
        replace q409 := eq_true q409
        have p410 : 0 ≤ ((ji4) : Int) := of_decide_eq_true (by first | (with_reducible assumption) | assumption)
        have q410 : (ji4) < (l0.length : Int) := of_decide_eq_true (by first | (with_reducible assumption) | assumption)
        obtain ⟨ad410, e410, hx410_0, hx410_1⟩ := at_T108 HR0.out (ji4) p410 q410
        obtain rfl : ad409 = ad410 := (by injection e410)
        replace p410 := eq_true p410
        replace q410 := eq_true q410
        go_wp2
        repeat (go_quiet (fail); try go_wp2)
        go_ret
        exact ⟨by first | rfl | (simp; done) | (simp only [← hji4] <;> (first | rfl | simp)) | (simp [*]; done), by repeat (first | exact Drawn0.refl _ | apply Drawn0.step)⟩
      ·
       rw [if_neg c6] at H
       exact absurd H (by simp)
     ·
      rw [if_neg c5] at H
      exact absurd H (by simp)
    ·
     rw [if_neg c3] at H
     exact absurd H (by simp)
   ·
    rw [if_neg c2] at H
    have c2b0 : decide (x3_1 < (l0.length : Int)) = false := decide_eq_false c2
    clear c2
    obtain rfl := Option.some.inj H
    go_wp2
    repeat (go_quiet (fail); try go_wp2)
    go_ret
    exact ⟨by first | rfl | (simp; done) | (simp [*]; done), by repeat (first | exact Drawn0.refl _ | apply Drawn0.step)⟩

-- NOT PRINTED: function 79 (ents_all)

-- NOT PRINTED: function 56 (ents_Names)

/-! ### trace_Lines: function 37 -/
def trace_Lines.l0 : Nat → List ByteArray → List (S76) → Int → Int → Option (List ByteArray)
  | 0, _, _, _, _ => none
  | k + 1, x3, x6, x7, x8 => if x8 < x7 then (if 0 ≤ x8 then (if x8 < (x6.length : Int) then (if ((rd_T76 x6 x8).f0).size + 4 ≤ 9223372036854775807 then (if (((rd_T76 x6 x8).f0) ++ (⟨#[32, 45, 62, 32]⟩ : ByteArray)).size + ((rd_T76 x6 x8).f1).size ≤ 9223372036854775807 then (if x3.length < 8796093022208 then (trace_Lines.l0 k (x3 ++ [(((rd_T76 x6 x8).f0) ++ (⟨#[32, 45, 62, 32]⟩ : ByteArray)) ++ ((rd_T76 x6 x8).f1)]) x6 x7 (wrap64 (x8 + 1))) else (none)) else (none)) else (none)) else (none)) else (none)) else (some x3)
def trace_Lines.f (k : Nat) (l0 : List (S76)) : Option (List ByteArray) := trace_Lines.l0 k ([] : List ByteArray) l0 (l0.length : Int) 0
theorem trace_Lines.mono_l : ∀ k, (∀ y0 y1 y2 y3, LeO (trace_Lines.l0 k y0 y1 y2 y3) (trace_Lines.l0 (k + 1) y0 y1 y2 y3))
 | 0 => fun _ _ _ _ r h => by simp [trace_Lines.l0] at h
 | k + 1 => by
  have ih0 := trace_Lines.mono_l k
  ·
   intro y0 y1 y2 y3
   unfold trace_Lines.l0
   repeat' first
   | (with_reducible exact ih0 _ _ _ _)
   | (with_reducible exact LeO.refl _)
   | (with_reducible exact LeO.none _)
   | (with_reducible refine LeO.ite ?_ ?_)
   | (with_reducible refine LeO.bind ?_ (fun _ => ?_))
   | exact ih0 _ _ _ _
   | exact LeO.none _
   | refine LeO.ite ?_ ?_
   | refine LeO.bind ?_ (fun _ => ?_)
theorem trace_Lines.mono : ∀ a0 k, LeO (trace_Lines.f k a0) (trace_Lines.f (k + 1) a0) := by
 intro a0 k
 have ih0 := trace_Lines.mono_l k
 unfold trace_Lines.f
 repeat' first
   | (with_reducible exact ih0 _ _ _ _)
   | (with_reducible exact LeO.refl _)
   | (with_reducible exact LeO.none _)
   | (with_reducible refine LeO.ite ?_ ?_)
   | (with_reducible refine LeO.bind ?_ (fun _ => ?_))
   | exact ih0 _ _ _ _
   | exact LeO.none _
   | refine LeO.ite ?_ ?_
   | refine LeO.bind ?_ (fun _ => ?_)
set_option maxHeartbeats 8000000 in
set_option maxRecDepth 100000 in
theorem trace_Lines.calls (k : Nat) (A0 : Option Addr) (c0 : Nat) (l0 : List (S76)) (r : List ByteArray) (w : World) (hr0 : Kd.C k76 w A0 l0.length l0) (hc0 : l0.length ≤ c0) (h : trace_Lines.f k l0 = some r) :
  Calls Try.prog 37 #[.slice A0 l0.length c0] w fun e w' => ∃ v0_ : Value, e = .returned (v0_) ∧ Kd.R Kd.string 9 w' w.heap.size (fun _ => True) v0_ r ∧ Below w.heap.size w w' := by
 have hu75 := Try.underlying75
 have hu89 := Try.underlying89
 have hu97 := Try.underlying97
 have hu108 := Try.underlying108
 have hu76 := Try.underlying76
 have HR0 := Aside0.mk hr0
 have HC0 := Aside0.mk hc0
 clear hr0 hc0
 have HB := Aside0.mk (Below.refl w.heap.size w)
 have H : (trace_Lines.l0 k ([] : List ByteArray) l0 (l0.length : Int) 0) = some r := h
 clear h
 have H' := Aside0.mk H
 clear H
 go_enter Try.func37, Try.ntmps37
 go_wp2
 go_loopg [3, 8] k (fun kq v3 v8 w' => ∃ (x3_1 : List ByteArray) (x8_1 : Int), v8 = .int .i64 x8_1 ∧ Aside0 (trace_Lines.l0 kq x3_1 l0 (l0.length : Int) x8_1 = some r) ∧ Aside0 (kq ≤ k) ∧ Aside0 (Kd.R Kd.string 9 w' w.heap.size (fun _ => True) v3 x3_1) ∧ Aside0 (Below w.heap.size w w'))
 case atStart => exact ⟨(([] : List ByteArray)), (0), (by first | rfl | (simp; done) | (simp [*]; done) | (simp [bne_nil]; done)), H', ⟨Nat.le_refl _⟩, ⟨by first | exact Kd.R_nil _ _ _ _ _ | exact Kd.N_nil _ _ _ _ _ | exact Kd.V_nil _ _ _ _ _ | exact Kd.Q_nil _ _ _ _ _ | exact Kd.S_nil _ _ _ _ _⟩, ⟨by repeat (first | (with_reducible first | exact HB.out | apply below_alloc | apply pw_below_drewN | apply below_drew1) | exact HB.out)⟩⟩
 case round =>
  clear H'
  obtain ⟨x3_1, x8_1, rfl, HA, HK1, HO_3, HB⟩ := hrel
  cases gk with
  | zero => exact absurd HA.out (by simp [trace_Lines.l0])
  | succ k1 =>
   have H := HA.out
   clear HA
   simp only [trace_Lines.l0] at H
   by_cases c2 : x8_1 < (l0.length : Int)
   ·
    rw [if_pos c2] at H
    have c2b0 : decide (x8_1 < (l0.length : Int)) = true := decide_eq_true c2
    clear c2
    by_cases c3 : 0 ≤ x8_1
    ·
     rw [if_pos c3] at H
     have c3b0 : decide (0 ≤ x8_1) = true := decide_eq_true c3
     clear c3
     by_cases c4 : x8_1 < (l0.length : Int)
     ·
      rw [if_pos c4] at H
      have c4b0 : decide (x8_1 < (l0.length : Int)) = true := decide_eq_true c4
      clear c4
      by_cases c5 : ((rd_T76 l0 x8_1).f0).size + 4 ≤ 9223372036854775807
      ·
       rw [if_pos c5] at H
       have c5b0 := eq_true c5
       have c5b1 : decide (((rd_T76 l0 x8_1).f0).size + 4 ≤ 9223372036854775807) = true := decide_eq_true c5
       try have c5b2 : (9223372036854775807 < ((rd_T76 l0 x8_1).f0).size + 4) = False := eq_false (Nat.not_lt.2 c5)
       try (have c5b3 : ∀ m_ : Nat, 9223372036854775807 ≤ m_ → ((rd_T76 l0 x8_1).f0).size + 4 ≤ m_ := fun m_ h_ => Nat.le_trans c5 h_; simp [go_sem, *] at c5b3; have c5b4 := eq_false (Nat.not_lt.2 (c5b3 _ (Nat.le_refl _))); clear c5b3)
       by_cases c6 : (((rd_T76 l0 x8_1).f0) ++ (⟨#[32, 45, 62, 32]⟩ : ByteArray)).size + ((rd_T76 l0 x8_1).f1).size ≤ 9223372036854775807
       ·
        rw [if_pos c6] at H
        have c6b0 := eq_true c6
        have c6b1 : decide ((((rd_T76 l0 x8_1).f0) ++ (⟨#[32, 45, 62, 32]⟩ : ByteArray)).size + ((rd_T76 l0 x8_1).f1).size ≤ 9223372036854775807) = true := decide_eq_true c6
        try have c6b2 : (9223372036854775807 < (((rd_T76 l0 x8_1).f0) ++ (⟨#[32, 45, 62, 32]⟩ : ByteArray)).size + ((rd_T76 l0 x8_1).f1).size) = False := eq_false (Nat.not_lt.2 c6)
        try (have c6b3 : ∀ m_ : Nat, 9223372036854775807 ≤ m_ → (((rd_T76 l0 x8_1).f0) ++ (⟨#[32, 45, 62, 32]⟩ : ByteArray)).size + ((rd_T76 l0 x8_1).f1).size ≤ m_ := fun m_ h_ => Nat.le_trans c6 h_; simp [go_sem, *] at c6b3; have c6b4 := eq_false (Nat.not_lt.2 (c6b3 _ (Nat.le_refl _))); clear c6b3)
        by_cases c7 : x3_1.length < 8796093022208
        ·
         rw [if_pos c7] at H
         have LMc7 := Aside0.mk c7
         clear c7
         obtain ⟨y414, hy414⟩ : ∃ y_ : List ByteArray, y_ = (x3_1 ++ [(((rd_T76 l0 x8_1).f0) ++ (⟨#[32, 45, 62, 32]⟩ : ByteArray)) ++ ((rd_T76 l0 x8_1).f1)]) := ⟨_, rfl⟩
         replace H : (trace_Lines.l0 k1 y414 l0 (l0.length : Int) (wrap64 (x8_1 + 1))) = some r := by first | (rw [hy414]; with_reducible exact H) | (have H2_ := (Option.bind_some _ _).symm.trans H; rw [hy414]; with_reducible exact H2_) | (have H2_ := (Option.bind_some _ _).symm.trans H; with_reducible exact H2_) | with_reducible exact H | (rw [hy414]; exact H) | exact H
         have Ny414 := Aside0.mk hy414
         clear hy414
         have H' := Aside0.mk H
         clear H
         have p412 : 0 ≤ (x8_1 : Int) := of_decide_eq_true (by first | (with_reducible assumption) | assumption)
         have q412 : x8_1 < (l0.length : Int) := of_decide_eq_true (by first | (with_reducible assumption) | assumption)
         obtain ⟨ad412, e412, hx412_0, hx412_1⟩ := at_T76 HR0.out x8_1 p412 q412
         cases e412
         replace hx412_0 := (HB.out.cell (World.block_lt_of_cell? w _ hx412_0)).trans hx412_0
         replace hx412_1 := (HB.out.cell (World.block_lt_of_cell? w _ hx412_1)).trans hx412_1
         replace p412 := eq_true p412
         replace q412 := eq_true q412
         go_wp2_with (first | ((with_reducible refine gate_dst (N := 5) rfl ?_); refine box_event ?hg (N := 5) ?hd (cs := #[.string (⟨#[]⟩ : ByteArray), .string (⟨#[]⟩ : ByteArray)]) (t := 76) ?hr ?_; (case hd => rfl); (case hg => rfl); (case hr => first | (go_simp; done) | (go_simp; rfl)); intro gb413 hg w8 hbox hb; have n0_ := Aside0.mk (Kd.R_below (by (with_reducible repeat (first | apply Kd.R_alloc | apply Kd.R_drewN | apply Kd.R_drew)); exact HO_3.out) hb); have n1_ := Aside0.mk (below_step (by repeat (first | (with_reducible first | exact HB.out | apply below_alloc | apply pw_below_drewN | apply below_drew1) | exact HB.out)) hb); have n2_ := Aside0.mk (hbox); have n3_ := Aside0.mk ((by rw [hg]; exact (below_size (by repeat (first | (with_reducible first | exact HB.out | apply below_alloc | apply pw_below_drewN | apply below_drew1) | exact HB.out))) : w.heap.size ≤ gb413)); have n4_ := Aside0.mk ((by rw [hg]; exact (below_size (by repeat (first | (with_reducible first | exact HB.out | apply below_alloc | apply pw_below_drewN | apply below_drew1) | exact HB.out))) : w.heap.size ≤ gb413)); clear HO_3; clear HB; have HO_3 := n0_; have HB := n1_; have BK413 := n2_; have GW413 := n3_; have GE413 := n4_; clear n0_ n1_ n2_ n3_ n4_; clear hb hbox hg; have hcz9_0 : w8.cell? ⟨gb413, 0, none⟩ = some (.string (⟨#[]⟩ : ByteArray)) := (blk_cell BK413.out 0).trans rfl; have hcz9_1 : w8.cell? ⟨gb413, 1, none⟩ = some (.string (⟨#[]⟩ : ByteArray)) := (blk_cell BK413.out 1).trans rfl; have hfz9_0 := blk_frozen BK413.out 0; have hfz9_1 := blk_frozen BK413.out 1) | ((with_reducible refine gate_builtin (b := .append) (xs := #[.tmp 12, .tmp 19]) rfl ?_); at_builtin; refine Kd.R_append Kd.string (w0 := w) w.heap.size rfl (.tmp 12) (.tmp 19) 42 9 (.string ⟨#[]⟩) 16 rfl Try.underlying42 info9 rfl (by decide) (by omega) u3 x3_1 ((((rd_T76 l0 x8_1).f0) ++ (⟨#[32, 45, 62, 32]⟩ : ByteArray)) ++ ((rd_T76 l0 x8_1).f1)) [.string ((((rd_T76 l0 x8_1).f0) ++ (⟨#[32, 45, 62, 32]⟩ : ByteArray)) ++ ((rd_T76 l0 x8_1).f1))] (fun _ => True) (fun _ => False) rfl (by first | (go_simp; done) | (go_simp; rfl)) ?aP (fun _ hk => hk.elim) ?aF ?aO ?aB ?aS ?aL ?_; (case aP => exact rfl); (case aB => exact (by repeat (first | (with_reducible first | exact HB.out | apply below_alloc | apply pw_below_drewN | apply below_drew1 | refine below_set ?_ GE413.out) | exact HB.out))); (case aF => exact (fun _ _ => trivial)); (case aO => exact (by (with_reducible repeat (first | apply Kd.R_alloc | apply Kd.R_drewN | apply Kd.R_drew)); exact Kd.R_mono (Kd.R_far (p := ⟨gb413, 1, none⟩) (Kd.R_far (p := ⟨gb413, 0, none⟩) (Kd.R_types HO_3.out BK413.out (by decide)) (fun _ hk => hk.2) (.string ((rd_T76 l0 x8_1).f0))) (fun _ hk => hk.2) (.string ((rd_T76 l0 x8_1).f1))) (fun _ hk => trivial))); (case aS => exact (below_size (by repeat (first | (with_reducible first | exact HB.out | apply below_alloc | apply pw_below_drewN | apply below_drew1 | refine below_set ?_ GE413.out) | exact HB.out)))); (case aL => have := LMc7.out; omega); intro v415 w10 ho hb hg hat; rw [← Ny414.out] at ho; have n0_ := Aside0.mk (blk_grown (g := gb413) (o := .cells #[.string ((rd_T76 l0 x8_1).f0), .string ((rd_T76 l0 x8_1).f1)] 76 (0, 0)) (by (with_reducible repeat (first | refine blk_drewN ?_ _ | refine blk_drew ?_ | refine blk_alloc ?_ _)); refine blk_put (cs := #[.string ((rd_T76 l0 x8_1).f0), .string (⟨#[]⟩ : ByteArray)]) ?_ 1 _ rfl; (with_reducible repeat (first | refine blk_drewN ?_ _ | refine blk_drew ?_ | refine blk_alloc ?_ _)); refine blk_put (cs := #[.string (⟨#[]⟩ : ByteArray), .string (⟨#[]⟩ : ByteArray)]) ?_ 0 _ rfl; (with_reducible repeat (first | refine blk_drewN ?_ _ | refine blk_drew ?_ | refine blk_alloc ?_ _)); exact BK413.out) hg (Kd.R_ne HO_3.out BK413.out (by decide))); have n1_ := Aside0.mk (hb); have n2_ := Aside0.mk (ho); clear BK413; clear HB; clear HO_3; have BK413 := n0_; have HB := n1_; have HO416 := n2_; clear n0_ n1_ n2_; clear ho hb hg hat))
         go_roundg k1
         case measure => have := HK1.out; omega
         case rel => exact ⟨(y414), (wrap64 (x8_1 + 1)), (by first | rfl | (simp; done) | (simp [*]; done) | (simp [bne_nil]; done)), H', ⟨by have := HK1.out; omega⟩, ⟨by (with_reducible repeat (first | apply Kd.R_alloc | apply Kd.R_drewN | apply Kd.R_drew)); first | exact HO416.out | exact own_cut HO416.out⟩, ⟨by repeat (first | (with_reducible first | exact HB.out | apply below_alloc | apply pw_below_drewN | apply below_drew1 | refine below_set ?_ GE413.out) | exact HB.out)⟩⟩
        ·
         rw [if_neg c7] at H
         exact absurd H (by simp)
       ·
        rw [if_neg c6] at H
        exact absurd H (by simp)
      ·
       rw [if_neg c5] at H
       exact absurd H (by simp)
     ·
      rw [if_neg c4] at H
      exact absurd H (by simp)
    ·
     rw [if_neg c3] at H
     exact absurd H (by simp)
   ·
    rw [if_neg c2] at H
    have c2b0 : decide (x8_1 < (l0.length : Int)) = false := decide_eq_false c2
    clear c2
    obtain rfl := Option.some.inj H
    go_wp2
    go_ret
    exact ⟨_, by first | rfl | (simp [errW_none, errW_some] <;> rfl) | (simp [*, errW_none, errW_some] <;> rfl) | (simp [errW_none, errW_some, bne_nil]; done) | (simp [*, bne_nil]; done) | (simp [bne]; done), by (with_reducible repeat (first | apply Kd.R_alloc | apply Kd.R_drewN | apply Kd.R_drew)); exact HO_3.out, by repeat (first | (with_reducible first | exact HB.out | apply below_alloc | apply pw_below_drewN | apply below_drew1) | exact HB.out)⟩

end Go.Proofs.Ytjfigngmpagloaa.X

namespace Go.Proofs.Ytjfigngmpagloaa.Tw
open Go Go.RowKit Go.Shelf Go.Proofs Go.Proofs.Ytjfigngmpagloaa Go.Proofs.YtjfigngmpagloaaW.PrintWords Go.Proofs.Ytjfigngmpagloaa.Ext Go.Proofs.Ytjfigngmpagloaa.X
set_option linter.unusedVariables false
set_option linter.unusedSimpArgs false

/-- Names rise. -/
def Rt (l : List En) : Prop := l.Pairwise fun a b => bl a.f0 b.f0 = true
structure Nd where
  kind : Int
  up : Int
  data : ByteArray
  ents : List En
def zN : Nd := ⟨0, 0, ⟨#[]⟩, []⟩
structure Tr where
  get : Int → Option Nd
  cnt : Nat
  last : Int
def Tr.node (T : Tr) (n : Int) : Nd := (T.get n).getD zN
def ndV (x : Nd) (s : Value) : Value := .agg #[.int .i64 x.kind, .int .i64 x.up, .string x.data, s]
def vE : Value → Option (DataW Value × List MemPlace) := fun v => some (.held v, [])
def wf (n : Int) : Prop := (Lit.int .i64 n).wf = true
/-- The tree stands at block p; its map at block B. -/
structure TreeIs (w : World) (p : Nat) (T : Tr) (B : Nat) (sv : Int → Value) (D : DataW Value) : Prop where
  ptr : w.heap[p]? = some (.cells #[.map (some B), .int .i64 T.last] 142 (0, 0))
  map : w.ownsMap Try.prog 3 vE B (Maps.size D) D
  cnt : Maps.size D = T.cnt
  has : ∀ n, wf n → Maps.has D (.int .i64 n) = (T.get n).isSome
  at_ : ∀ n z, wf n → D.atKey (.int .i64 n) z = match T.get n with | some x => .held (ndV x (sv n)) | none => z
  ents : ∀ n x, wf n → T.get n = some x → ∃ A c, sv n = .slice A x.ents.length c ∧ x.ents.length ≤ c ∧ Kd.C k108 w A x.ents.length x.ents
def TreeAt (w : World) (p : Nat) (T : Tr) : Prop := ∃ B sv D, TreeIs w p T B sv D
theorem TreeIs.below {w w' : World} {p : Nat} {T : Tr} {B : Nat} {sv : Int → Value} {D : DataW Value} (h : TreeIs w p T B sv D) (hb : Below w.heap.size w w') : TreeIs w' p T B sv D :=
  ⟨(hb.block _ (blk_lt h.ptr)).trans h.ptr, h.map.kept (row := none) (grown_of_below hb none) (by simp), h.cnt, h.has, h.at_, fun n x hn hx => by
    obtain ⟨A, c, e1, e2, e3⟩ := h.ents n x hn hx
    exact ⟨A, c, e1, e2, Kd.C_below e3 hb⟩⟩
theorem TreeAt.below {w w' : World} {p : Nat} {T : Tr} (h : TreeAt w p T) (hb : Below w.heap.size w w') : TreeAt w' p T := by
  obtain ⟨B, sv, D, h⟩ := h
  exact ⟨B, sv, D, h.below hb⟩
theorem TreeAt.lt {w : World} {p : Nat} {T : Tr} (h : TreeAt w p T) : p < w.heap.size := by
  obtain ⟨B, sv, D, h⟩ := h
  exact blk_lt h.ptr

theorem keyed : Maps.Keyed Try.prog 3 := Maps.int_keyed Try.underlying3
theorem zeroNd (w : World) : (zeroValue 137).run Try.prog w = .ok (ndV zN (.slice none 0 0)) w := by kernel_rfl
/-- A node's reading: some slice value that reads as its entries. -/
def EntsAt (w : World) (s : Value) (l : List En) : Prop := ∃ A c, s = .slice A l.length c ∧ l.length ≤ c ∧ Kd.C k108 w A l.length l
theorem EntsAt.below {w w' : World} {s : Value} {l : List En} (h : EntsAt w s l) (hb : Below w.heap.size w w') : EntsAt w' s l := by
  obtain ⟨A, c, e1, e2, e3⟩ := h
  exact ⟨A, c, e1, e2, Kd.C_below e3 hb⟩
theorem entsNil (w : World) : EntsAt w (.slice none 0 0) [] := ⟨none, 0, rfl, Nat.le_refl _, ⟨rfl, by simp, fun h => absurd h (by simp)⟩⟩
theorem TreeIs.look {w : World} {p : Nat} {T : Tr} {B : Nat} {sv : Int → Value} {D : DataW Value} (h : TreeIs w p T B sv D) (n : Int) (hn : wf n) :
    ∃ s, EntsAt w s (T.node n).ents ∧ ∀ w', Below w.heap.size w w' → (Instr.lookup 140 (.map (some B)) (.int .i64 n) false).run Try.prog w' = .ok (ndV (T.node n) s) w' := by
  have key : ∀ w', Below w.heap.size w w' → ∀ r, D.atKey (.int .i64 n) (.held (ndV zN (.slice none 0 0))) = .held r → (Instr.lookup 140 (.map (some B)) (.int .i64 n) false).run Try.prog w' = .ok r w' := by
    intro w' hb r hr
    obtain ⟨v, ps, hrun, hv⟩ := (h.below hb).map.lookup keyed Try.underlying140 (zeroNd w') (zd := .held (ndV zN (.slice none 0 0))) (zp := []) rfl (Maps.keyOf_int_mk Try.underlying3 hn)
    have e := (Prod.mk.inj (Option.some.inj hv)).1
    rw [hr] at e
    rw [← DataW.held.inj e]
    exact hrun
  have ha := h.at_ n (.held (ndV zN (.slice none 0 0))) hn
  cases hx : T.get n with
  | none =>
    rw [hx] at ha
    refine ⟨.slice none 0 0, by unfold Tr.node; rw [hx]; exact entsNil w, fun w' hb => ?_⟩
    have := key w' hb _ ha
    unfold Tr.node; rw [hx]; exact this
  | some x =>
    rw [hx] at ha
    refine ⟨sv n, by unfold Tr.node; rw [hx]; exact h.ents n x hn hx, fun w' hb => ?_⟩
    have := key w' hb _ ha
    unfold Tr.node; rw [hx]; exact this
theorem TreeIs.cell0 {w : World} {p : Nat} {T : Tr} {B : Nat} {sv : Int → Value} {D : DataW Value} (h : TreeIs w p T B sv D) : w.cell? ⟨p, 0, none⟩ = some (.map (some B)) := by rw [blk_cell h.ptr]; rfl
theorem TreeIs.cell1 {w : World} {p : Nat} {T : Tr} {B : Nat} {sv : Int → Value} {D : DataW Value} (h : TreeIs w p T B sv D) : w.cell? ⟨p, 1, none⟩ = some (.int .i64 T.last) := by rw [blk_cell h.ptr]; rfl
abbrev pT (p : Nat) : Value := .pointer (some ⟨p, 0, none⟩)

theorem at_calls (p : Nat) (T : Tr) (n : Int) (w : World) (h : TreeAt w p T) (hn : wf n) :
    Calls Try.prog 82 #[pT p, .int .i64 n] w fun e w' => ∃ s, e = .returned (ndV (T.node n) s) ∧ EntsAt w' s (T.node n).ents ∧ Below w.heap.size w w' := by
  obtain ⟨B, sv, D, h⟩ := h
  obtain ⟨s, hs, hrun⟩ := h.look n hn
  have hrun := hrun _ ((Below.refl _ w).alloc (Nat.le_refl _) (.cells #[.int .i64 0, .int .i64 0, .string ⟨#[]⟩, .slice none 0 0] 137))
  have c0 := h.cell0
  have hlt := blk_lt h.ptr
  obtain ⟨A, c, rfl, hlc, hC⟩ := hs
  have HC := Lib.hid hC
  have HL := Lib.hid hlc
  generalize hx : T.node n = x at hrun HC HL
  have HX := Lib.hid hx
  obtain ⟨k, u, d, l⟩ := x
  unfold ndV at hrun
  simp only [] at hrun
  clear h hC hlc hx
  go_enter Try.func82, Try.ntmps82
  go_wp2
  have hu := Try.underlying137
  refine bodyPost_ret (v := .agg #[.int .i64 k, .int .i64 u, .string d, .slice A l.length c]) (by simp [results, Try.results82, go_sem, hu]) rfl ⟨.slice A l.length c, ?_, ?_, ?_⟩
  · rfl
  · exact ⟨A, c, rfl, HL.out, Kd.C_below HC.out ((Below.refl _ w).alloc (Nat.le_refl _) _)⟩
  · exact (Below.refl _ w).alloc (Nat.le_refl _) _
theorem at_nil (n : Int) (w : World) :
    Calls Try.prog 82 #[.pointer none, .int .i64 n] w fun e w' => e = .returned (ndV zN (.slice none 0 0)) ∧ Below w.heap.size w w' := by
  go_enter Try.func82, Try.ntmps82
  go_wp2
  have hu := Try.underlying137
  refine bodyPost_ret (v := .agg #[.int .i64 0, .int .i64 0, .string ⟨#[]⟩, .slice none 0 0]) (by simp [results, Try.results82, go_sem, hu]) rfl ⟨rfl, ?_⟩
  exact (Below.refl _ w).alloc (Nat.le_refl _) _
@[go_sem] theorem fl_node0 (v0 v1 v2 v3 : Value) (w : World) : (Instr.field 137 (.agg #[v0, v1, v2, v3]) 0).run Try.prog w = .ok v0 w := by kernel_rfl
@[go_sem] theorem fl_node1 (v0 v1 v2 v3 : Value) (w : World) : (Instr.field 137 (.agg #[v0, v1, v2, v3]) 1).run Try.prog w = .ok v1 w := by kernel_rfl
@[go_sem] theorem fl_node2 (v0 v1 v2 v3 : Value) (w : World) : (Instr.field 137 (.agg #[v0, v1, v2, v3]) 2).run Try.prog w = .ok v2 w := by kernel_rfl
@[go_sem] theorem fl_node3 (v0 v1 v2 v3 : Value) (w : World) : (Instr.field 137 (.agg #[v0, v1, v2, v3]) 3).run Try.prog w = .ok v3 w := by kernel_rfl
theorem kind_calls (p : Nat) (T : Tr) (n : Int) (w : World) (h : TreeAt w p T) (hn : wf n) :
    Calls Try.prog 41 #[pT p, .int .i64 n] w fun e w' => e = .returned (.int .i64 (T.node n).kind) ∧ Below w.heap.size w w' := by
  have HC := Lib.hid (fun W => at_calls p T n W)
  have HT := Lib.hid h
  have HN := Lib.hid hn
  clear h hn
  generalize hx : T.node n = x at HC ⊢
  obtain ⟨k, u, d, l⟩ := x
  unfold ndV at HC
  simp only [] at HC
  clear hx
  go_enter Try.func41, Try.ntmps41
  go_wp2_with (go_at_call 82; refine (HC.out _ HT.out HN.out).mono ?_; rintro e w' ⟨s, rfl, hs, hb⟩)
  go_ret
  exact ⟨rfl, hb⟩
theorem kind_nil (n : Int) (w : World) :
    Calls Try.prog 41 #[.pointer none, .int .i64 n] w fun e w' => e = .returned (.int .i64 zN.kind) ∧ Below w.heap.size w w' := by
  have HC := Lib.hid (fun W => at_nil n W)
  unfold zN ndV at HC
  simp only [] at HC
  go_enter Try.func41, Try.ntmps41
  go_wp2_with (go_at_call 82; refine (HC.out _).mono ?_; rintro e w' ⟨rfl, hb⟩)
  go_ret
  exact ⟨rfl, hb⟩
theorem data_calls (p : Nat) (T : Tr) (n : Int) (w : World) (h : TreeAt w p T) (hn : wf n) :
    Calls Try.prog 53 #[pT p, .int .i64 n] w fun e w' => e = .returned (.string (T.node n).data) ∧ Below w.heap.size w w' := by
  have HC := Lib.hid (fun W => at_calls p T n W)
  have HT := Lib.hid h
  have HN := Lib.hid hn
  clear h hn
  generalize hx : T.node n = x at HC ⊢
  obtain ⟨k, u, d, l⟩ := x
  unfold ndV at HC
  simp only [] at HC
  clear hx
  go_enter Try.func53, Try.ntmps53
  go_wp2_with (go_at_call 82; refine (HC.out _ HT.out HN.out).mono ?_; rintro e w' ⟨s, rfl, hs, hb⟩)
  go_ret
  exact ⟨rfl, hb⟩
theorem data_nil (n : Int) (w : World) :
    Calls Try.prog 53 #[.pointer none, .int .i64 n] w fun e w' => e = .returned (.string zN.data) ∧ Below w.heap.size w w' := by
  have HC := Lib.hid (fun W => at_nil n W)
  unfold zN ndV at HC
  simp only [] at HC
  go_enter Try.func53, Try.ntmps53
  go_wp2_with (go_at_call 82; refine (HC.out _).mono ?_; rintro e w' ⟨rfl, hb⟩)
  go_ret
  exact ⟨rfl, hb⟩
theorem up_calls (p : Nat) (T : Tr) (n : Int) (w : World) (h : TreeAt w p T) (hn : wf n) :
    Calls Try.prog 66 #[pT p, .int .i64 n] w fun e w' => e = .returned (.int .i64 (T.node n).up) ∧ Below w.heap.size w w' := by
  have HC := Lib.hid (fun W => at_calls p T n W)
  have HT := Lib.hid h
  have HN := Lib.hid hn
  clear h hn
  generalize hx : T.node n = x at HC ⊢
  obtain ⟨k, u, d, l⟩ := x
  unfold ndV at HC
  simp only [] at HC
  clear hx
  go_enter Try.func66, Try.ntmps66
  go_wp2_with (go_at_call 82; refine (HC.out _ HT.out HN.out).mono ?_; rintro e w' ⟨s, rfl, hs, hb⟩)
  go_ret
  exact ⟨rfl, hb⟩
theorem up_nil (n : Int) (w : World) :
    Calls Try.prog 66 #[.pointer none, .int .i64 n] w fun e w' => e = .returned (.int .i64 zN.up) ∧ Below w.heap.size w w' := by
  have HC := Lib.hid (fun W => at_nil n W)
  unfold zN ndV at HC
  simp only [] at HC
  go_enter Try.func66, Try.ntmps66
  go_wp2_with (go_at_call 82; refine (HC.out _).mono ?_; rintro e w' ⟨rfl, hb⟩)
  go_ret
  exact ⟨rfl, hb⟩

theorem infoE : (Try.prog.info? 108).map (fun i => (i.zero, i.size, i.bytes)) = some (some (.agg #[.string ⟨#[]⟩, .int .i64 0]), 2, 24) := by kernel_rfl
theorem R_empty {α : Type} (d : Kd α) (e : Nat) (W : World) (base : Nat) (hb : base ≤ W.heap.size) : Kd.R d e (W.alloc (.cells #[] e)) base (fun _ => True) (.slice (some ⟨W.heap.size, 0, none⟩) 0 0) [] :=
  ⟨fun _ _ => trivial, [], by simpa using World.ownsRow_lit (base := base) (e := e) (size := d.sz) W #[] 0 hb (by simp [maxLen]) (by simp), Reps.none _ _⟩
set_option maxHeartbeats 4000000 in
set_option maxRecDepth 1000000 in
theorem clone_calls (A : Option Addr) (c : Nat) (l : List En) (w : World) (hr : Kd.C k108 w A l.length l) (hc : l.length ≤ c) (hl : l.length < 4294967296) :
    Calls Try.prog 81 #[.slice A l.length c] w fun e w' => ∃ v, e = .returned v ∧ Kd.R k108 108 w' w.heap.size (fun _ => True) v l ∧ Below w.heap.size w w' := by
  have hq := fun W => Lib.run_eql_slice_nil (P := Try.prog) W 80 108 A l.length c 0 0 Try.underlying80
  have HR := Lib.hid hr
  have HRE := Lib.hid (R_empty k108 108 w w.heap.size (Nat.le_refl _))
  have HB := Lib.hid ((Below.refl w.heap.size w).alloc (Nat.le_refl _) (.cells #[] 108))
  cases A with
  | none =>
    have h0 : l = [] := by
      cases l with
      | nil => rfl
      | cons a b => obtain ⟨ad, e, _⟩ := hr.2.2 (by simp); cases e
    subst h0
    clear hr HR hq
    have hq := fun W => Lib.run_eql_slice_nil (P := Try.prog) W 80 108 none 0 c 0 0 Try.underlying80
    simp only [Option.isNone_none] at hq
    go_enter Try.func81, Try.ntmps81
    go_wp2
    go_ret
    exact ⟨_, rfl, Kd.R_nil _ _ _ _ _, Below.refl _ _⟩
  | some ad =>
    clear hr
    simp only [Option.isNone_some] at hq
    go_enter Try.func81, Try.ntmps81
    go_wp2_with ((with_reducible refine gate_builtin (b := .append) (xs := #[.tmp 5, .tmp 6]) rfl ?_); at_builtin; refine Kd.R_append_rows k108 (w0 := w) w.heap.size rfl (.tmp 5) (.tmp 6) 80 108 (.agg #[.string ⟨#[]⟩, .int .i64 0]) 24 rfl Try.underlying80 infoE rfl (by decide) (by omega) _ [] l _ _ _ (fun _ => True) (fun _ => False) rfl rfl HRE.out (Kd.C_below HR.out HB.out) (fun _ _ h => h) (fun _ h => h.elim) (fun _ _ => trivial) HB.out (by simp) (by simp; omega) ?_; intro v1 w1 ho hb hg hat)
    go_ret
    exact ⟨_, rfl, ho, hb⟩
theorem list_calls (p : Nat) (T : Tr) (n : Int) (w : World) (h : TreeAt w p T) (hn : wf n) (hl : (T.node n).ents.length < 4294967296) :
    Calls Try.prog 40 #[pT p, .int .i64 n] w fun e w' => ∃ v, e = .returned v ∧ Kd.R k108 108 w' w.heap.size (fun _ => True) v (T.node n).ents ∧ Below w.heap.size w w' := by
  have HC := Lib.hid (fun W => at_calls p T n W)
  have HT := Lib.hid h
  have HN := Lib.hid hn
  have HL := Lib.hid hl
  clear h hn hl
  generalize hx : T.node n = x at HC HL ⊢
  obtain ⟨k, u, d, l⟩ := x
  unfold ndV at HC
  simp only [] at HC HL
  clear hx
  go_enter Try.func40, Try.ntmps40
  go_wp2_with (first | (go_at_call 82; refine (HC.out _ HT.out HN.out).mono ?_; rintro e w' ⟨s, rfl, ⟨A, c, rfl, hlc, hC⟩, hb⟩; have HCC := Lib.hid hC; clear hC) | (go_at_call 81; refine (clone_calls _ _ _ _ HCC.out hlc HL.out).mono ?_; rintro e w2 ⟨v, rfl, ho, hb2⟩))
  go_ret
  exact ⟨_, rfl, Kd.R_lower ho hb.size, hb.trans (hb2.mono hb.size)⟩
theorem list_nil (n : Int) (w : World) :
    Calls Try.prog 40 #[.pointer none, .int .i64 n] w fun e w' => ∃ v, e = .returned v ∧ Kd.R k108 108 w' w.heap.size (fun _ => True) v [] ∧ Below w.heap.size w w' := by
  have HC := Lib.hid (fun W => at_nil n W)
  unfold zN ndV at HC
  simp only [] at HC
  go_enter Try.func40, Try.ntmps40
  go_wp2_with (first | (go_at_call 82; refine (HC.out _).mono ?_; rintro e w' ⟨rfl, hb⟩) | (go_at_call 81; refine (clone_calls none 0 [] _ ⟨rfl, by simp, fun h => absurd h (by simp)⟩ (Nat.le_refl _) (by simp)).mono ?_; rintro e w2 ⟨v, rfl, ho, hb2⟩))
  go_ret
  exact ⟨_, rfl, Kd.R_lower ho hb.size, hb.trans (hb2.mono hb.size)⟩
end Go.Proofs.Ytjfigngmpagloaa.Tw

namespace Go.Proofs.Ytjfigngmpagloaa.Pu
open Go Go.RowKit Go.Proofs Go.Proofs.Ytjfigngmpagloaa Go.Proofs.YtjfigngmpagloaaW.PrintWords Go.Proofs.Ytjfigngmpagloaa.Ext
set_option linter.unusedVariables false
set_option linter.unusedSimpArgs false

theorem w1 {n : Nat} (h : n < 4611686018427387904) : wrap64 ((n : Int) + 1) = ((n + 1 : Nat) : Int) := by unfold wrap64; omega
theorem wm1 {n : Nat} (h0 : 0 < n) (h : n < 4611686018427387904) : wrap64 ((n : Int) - 1) = ((n - 1 : Nat) : Int) := by unfold wrap64; omega
section
variable {α β : Type} {f g : Nat → Option α} {r : α} {c : Prop} [Decidable c]
theorem ev_pos (hc : c) (h : Ev f r) : Ev (fun k => if c then f k else g k) r := by simpa only [if_pos hc] using h
theorem ev_neg (hc : ¬ c) (h : Ev g r) : Ev (fun k => if c then f k else g k) r := by simpa only [if_neg hc] using h
theorem ev_some {a : β} {F : Nat → β → Option α} (h : Ev (fun k => F k a) r) : Ev (fun k => (some a).bind (F k)) r := h
theorem ev_opt {a : β} {o : Option β} {F : Nat → β → Option α} (ho : o = some a) (h : Ev (fun k => F k a) r) : Ev (fun k => o.bind (F k)) r := by subst ho; exact h
theorem ev_eq {o : Option α} (h : o = some r) : Ev (fun _ => o) r := by subst h; exact Ev.now r
theorem ev_bind {G : Nat → Option β} {a : β} {F : Nat → β → Option α} (hg : Ev G a) (h : Ev (fun k => F k a) r) : Ev (fun k => (G k).bind (F k)) r := Ev.bind hg h
end
theorem bt_nat {s : ByteArray} {i : Nat} {c : UInt8} (h : s.data.toList[i]? = some c) : bt s (i : Int) = (c.toNat : Int) := by
  obtain ⟨hl, hc⟩ := List.getElem?_eq_some_iff.1 h
  have hi : i < s.size := by rw [Sp.size_eq]; exact hl
  have h2 := Lib.data_getElem? s i hi
  rw [h] at h2
  have h3 : c = s[i] := Option.some.inj h2
  unfold bt
  rw [dif_pos (by simpa using hi), h3]
  simp
theorem get_at (s : ByteArray) {i : Nat} (h : i < s.size) : ∃ c, s.data.toList[i]? = some c ∧ s.data.toList.drop i = c :: s.data.toList.drop (i + 1) := by
  have hl : i < s.data.toList.length := by rw [← Sp.size_eq]; exact h
  exact ⟨_, List.getElem?_eq_getElem hl, List.drop_eq_getElem_cons hl⟩
theorem ex1 {s : ByteArray} {i : Nat} {c : UInt8} (h : s.data.toList[i]? = some c) : s.extract i (i + 1) = Sp.mk [c] := by
  rw [← Sp.mk_of (s.extract i (i + 1)), Lib.extract_data]
  congr 1
  obtain ⟨hl, hc⟩ := List.getElem?_eq_some_iff.1 h
  rw [List.drop_eq_getElem_cons hl, hc]
  simp
theorem rd_nat {l : List ByteArray} {i : Nat} {x : ByteArray} (h : l[i]? = some x) : rdOf ByteArray.empty l (i : Int) = x := by simp [rdOf, h]
theorem u8_ne {c d : UInt8} : ((c.toNat : Int) != (d.toNat : Int)) = true ↔ c ≠ d := by
  rw [bne_iff_ne]
  constructor
  · intro h e; exact h (by rw [e])
  · intro h e; exact h (UInt8.toNat_inj.1 (by omega))
theorem bs_append (a b : List (List UInt8)) : bs (a ++ b) = bs a ++ bs b := by simp [bs]
theorem bs_get (l : List (List UInt8)) (i : Nat) : (bs l)[i]? = (l[i]?).map Sp.mk := by simp [bs]
theorem bs_take (l : List (List UInt8)) (n : Nat) : (bs l).take n = bs (l.take n) := by simp [bs, List.map_take]
theorem bs_drop (l : List (List UInt8)) (n : Nat) : (bs l).drop n = bs (l.drop n) := by simp [bs, List.map_drop]
theorem toList_mk (l : List UInt8) : (Sp.mk l).toList = l := Sp.mk_toList l
theorem toL (s : ByteArray) : s.toList = s.data.toList := Lib.toList_data s
theorem app_mk (a b : List UInt8) : Sp.mk a ++ Sp.mk b = Sp.mk (a ++ b) := (Sp.mk_append a b).symm
theorem cat3 (a b : ByteArray) : a ++ (⟨#[47]⟩ : ByteArray) ++ b = Sp.mk (a.data.toList ++ 47 :: b.data.toList) := by
  apply ByteArray.ext
  simp [Sp.mk, ByteArray.data_append]
theorem size_snoc (a : ByteArray) (c : UInt8) : (a ++ (⟨#[c]⟩ : ByteArray)).size = a.size + 1 := by rw [ByteArray.size_append]; rfl
def ni (l : List UInt8) : List Int := l.map fun c => (c.toNat : Int)
theorem ni_len (l : List UInt8) : (ni l).length = l.length := by simp [ni]
theorem ni_snoc (l : List UInt8) (c : UInt8) : ni l ++ [(c.toNat : Int)] = ni (l ++ [c]) := by simp [ni]
theorem strOfNums_ni (l : List UInt8) : strOfNums (ni l) = Sp.mk l := by
  simp [strOfNums, ni, Sp.mk, List.map_map, Function.comp_def]
theorem u8_lit {c : UInt8} (n : Nat) (h : n < 256) : (c.toNat : Int) = (n : Int) ↔ c = n.toUInt8 := by
  constructor
  · intro e
    have : c.toNat = n := by omega
    apply UInt8.toNat_inj.1
    rw [this]; simp; omega
  · rintro rfl; simp; omega
end Go.Proofs.Ytjfigngmpagloaa.Pu

namespace Go.Proofs.Ytjfigngmpagloaa.Tw
open Go Go.RowKit Go.Shelf Go.Proofs Go.Proofs.Ytjfigngmpagloaa Go.Proofs.YtjfigngmpagloaaW.PrintWords Go.Proofs.Ytjfigngmpagloaa.Ext Go.Proofs.Ytjfigngmpagloaa.X Go.Proofs.Ytjfigngmpagloaa.Pu
set_option linter.unusedVariables false
set_option linter.unusedSimpArgs false

theorem less_trans : ∀ a b c : List UInt8, Op.bytesLess a b = true → Op.bytesLess b c = true → Op.bytesLess a c = true
  | _, [], _, h, _ => by simp [Op.bytesLess] at h
  | _, _ :: _, [], _, h => by simp [Op.bytesLess] at h
  | [], _ :: _, _ :: _, _, _ => by simp [Op.bytesLess]
  | x :: a, y :: b, z :: c, h, k => by
    simp [Op.bytesLess] at h k ⊢
    rcases h with h | ⟨rfl, h⟩
    · rcases k with k | ⟨rfl, k⟩
      · exact .inl (UInt8.lt_trans h k)
      · exact .inl h
    · rcases k with k | ⟨rfl, k⟩
      · exact .inl k
      · exact .inr ⟨rfl, less_trans a b c h k⟩
theorem bl_trans {a b c : ByteArray} (h : bl a b = true) (k : bl b c = true) : bl a c = true := less_trans _ _ _ h k
theorem bl_irr (a : ByteArray) : bl a a = false := less_irr _
theorem bl_asym {a b : ByteArray} (h : bl a b = true) : bl b a = false := less_asym _ _ h
theorem toL_inj {a b : ByteArray} : a.toList = b.toList ↔ a = b := by rw [toL, toL]; exact ⟨fun h => by rw [← Sp.mk_of a, ← Sp.mk_of b, h], fun h => by rw [h]⟩
theorem bl_ne {a b : ByteArray} (h : bl a b = true) : (a.toList == b.toList) = false := by
  rw [beq_eq_false_iff_ne]
  intro e
  rw [toL_inj] at e
  rw [e, bl_irr] at h
  cases h
def findE (l : List En) (s : ByteArray) : Int × Bool := match l.find? (fun e => e.f0.toList == s.toList) with | some e => (e.f1, true) | none => (0, false)
theorem findE_cons (a : En) (l : List En) (s : ByteArray) : findE (a :: l) s = if (a.f0.toList == s.toList) = true then (a.f1, true) else findE l s := by
  unfold findE
  rw [List.find?_cons]
  cases h : (a.f0.toList == s.toList) <;> simp
theorem exists_cut (s : ByteArray) : ∀ l : List En, Rt l → ∃ lo, Cut l s lo ∧ findE l s = if isAt l s lo = true then ((l.getD lo z108).f1, true) else (0, false)
  | [], _ => ⟨0, ⟨Nat.le_refl _, fun i hi => absurd hi (by omega), fun i _ hi => absurd hi (by simp)⟩, rfl⟩
  | a :: l, h => by
    obtain ⟨ha, hl⟩ := List.pairwise_cons.1 h
    obtain ⟨lo, hc, hf⟩ := exists_cut s l hl
    cases hb : bl a.f0 s with
    | true =>
      refine ⟨lo + 1, ⟨by have := hc.le; simp; omega, fun i hi => ?_, fun i h1 h2 => ?_⟩, ?_⟩
      · cases i with
        | zero => exact hb
        | succ i => simpa using hc.lt i (by omega)
      · cases i with
        | zero => omega
        | succ i => simpa using hc.ge i (by omega) (by simpa using h2)
      · rw [findE_cons, bl_ne hb, if_neg (by simp), hf]
        have e : isAt (a :: l) s (lo + 1) = isAt l s lo := by unfold isAt; simp
        rw [e]; simp
    | false =>
      refine ⟨0, ⟨Nat.zero_le _, fun i hi => absurd hi (by omega), fun i h1 h2 => ?_⟩, ?_⟩
      · cases i with
        | zero => exact hb
        | succ i =>
          have hi : i < l.length := by simpa using h2
          cases hx : bl ((a :: l).getD (i + 1) z108).f0 s with
          | false => rfl
          | true =>
            have e : (a :: l).getD (i + 1) z108 = l[i] := by simp [hi]
            rw [e] at hx
            rw [bl_trans (ha _ (List.getElem_mem hi)) hx] at hb
            cases hb
      · rw [findE_cons]
        have e : isAt (a :: l) s 0 = (a.f0.toList == s.toList) := by unfold isAt; simp
        rw [e]
        by_cases he : (a.f0.toList == s.toList) = true
        · rw [if_pos he, if_pos he]; rfl
        · rw [if_neg he, if_neg he]
          have : l.find? (fun e => e.f0.toList == s.toList) = none := by
            rw [List.find?_eq_none]
            intro x hx hxe
            have h1 := ha x hx
            have h2 : x.f0 = s := toL_inj.1 (by simpa using hxe)
            rw [h2, hb] at h1
            cases h1
          unfold findE; rw [this]
theorem right_ev (l : List En) (hl : l.length < 4294967296) (hr : Rt l) : Ev (fun k => ents_Right.f k l) true := by
  have key : ∀ (d i : Nat), i + d = l.length → 1 ≤ i → Ev (fun k => ents_Right.l0 k l (i : Int)) true := by
    intro d
    induction d with
    | zero =>
      intro i hi h1
      refine Ev.step (fun k => by rw [ents_Right.l0]) ?_
      exact ev_neg (by omega) (Ev.now _)
    | succ d ih =>
      intro i hi h1
      refine Ev.step (fun k => by rw [ents_Right.l0]) (ev_pos (by omega) (ev_pos (by omega) ?_))
      rw [wm1 (by omega) (by omega), w1 (by omega)]
      refine ev_pos (by omega) (ev_pos (by omega) (ev_pos ?_ (ih (i + 1) (by omega) (by omega))))
      have e1 : rd_T108 l ((i - 1 : Nat) : Int) = l[i - 1]'(by omega) := by simp [rd_T108, show i - 1 < l.length by omega]
      have e2 : rd_T108 l ((i : Nat) : Int) = l[i]'(by omega) := by simp [rd_T108, show i < l.length by omega]
      rw [e1, e2]
      exact List.pairwise_iff_getElem.1 hr (i - 1) i (by omega) (by omega) (by omega)
  unfold ents_Right.f
  rcases Nat.eq_zero_or_pos l.length with h | h
  · refine Ev.step (fun k => by rw [ents_Right.l0]) ?_
    exact ev_neg (by omega) (Ev.now _)
  · exact key (l.length - 1) 1 (by omega) (Nat.le_refl _)
theorem all_calls (A : Option Addr) (c : Nat) (l : List En) (w : World) (hr : Kd.C k108 w A l.length l) (hc : l.length ≤ c) (hl : l.length < 4294967296) (hR : Rt l) :
    Calls Try.prog 79 #[.slice A l.length c] w fun e w' => e = .returned (.slice A l.length c) ∧ Below w.heap.size w w' := by
  obtain ⟨k, hk⟩ := Ev.rounds (right_ev l hl hR)
  have HC := Lib.hid (fun W h => ents_Right.calls k A c l true W h hc hk)
  have HR := Lib.hid hr
  clear hk hr hR hl
  go_enter Try.func79, Try.ntmps79
  go_wp2_with (go_at_call 109; refine (HC.out _ HR.out).mono ?_; rintro e w' ⟨rfl, hd⟩)
  go_ret
  exact ⟨rfl, hd.below⟩
theorem at_ents_calls (A : Option Addr) (c : Nat) (l : List En) (s : ByteArray) (lo : Nat) (w : World) (hr : Kd.C k108 w A l.length l) (hc : l.length ≤ c) (hl : l.length < 4294967296) (hlo : Cut l s lo) :
    Calls Try.prog 80 #[.slice A l.length c, .string s] w fun e w' => e = .returned (.tuple #[.int .i64 lo, .bool (isAt l s lo)]) ∧ Below w.heap.size w w' := by
  have HC := Lib.hid (search_calls A c l s lo w hr hc hl hlo)
  clear hlo hr hl hc
  go_enter Try.func80, Try.ntmps80
  go_wp2_with (go_at_call 110; refine HC.out.mono ?_; rintro e w' ⟨rfl, hb⟩)
  go_ret2
  exact ⟨rfl, hb⟩
theorem find_calls (A : Option Addr) (c : Nat) (l : List En) (s : ByteArray) (w : World) (hr : Kd.C k108 w A l.length l) (hc : l.length ≤ c) (hl : l.length < 4294967296) (hR : Rt l) :
    Calls Try.prog 39 #[.slice A l.length c, .string s] w fun e w' => e = .returned (.tuple #[.int .i64 (findE l s).1, .bool (findE l s).2]) ∧ Below w.heap.size w w' := by
  obtain ⟨lo, hcut, hf⟩ := exists_cut s l hR
  have HA := Lib.hid (fun W h => all_calls A c l W h hc hl hR)
  have HT := Lib.hid (fun W h => at_ents_calls A c l s lo W h hc hl hcut)
  have HR := Lib.hid hr
  cases hat : isAt l s lo with
  | false =>
    have HF := Lib.hid (show findE l s = (0, false) by rw [hf, hat]; rfl)
    rw [hat] at HT
    clear hat hf hcut hR hr hl hc
    go_enter Try.func39, Try.ntmps39
    go_wp2_with (first | (go_at_call 79; refine (HA.out _ HR.out).mono ?_; rintro e w2 ⟨rfl, hb⟩) | (go_at_call 80; refine (HT.out _ (Kd.C_below HR.out hb)).mono ?_; rintro e w3 ⟨rfl, hb3⟩))
    go_ret2
    exact ⟨by rw [HF.out]; rfl, hb.trans (hb3.mono hb.size)⟩
  | true =>
    have HF := Lib.hid (show findE l s = ((l.getD lo z108).f1, true) by rw [hf, hat]; rfl)
    rw [hat] at HT
    have hlt : lo < l.length := by unfold isAt at hat; rw [Bool.and_eq_true] at hat; exact of_decide_eq_true hat.1
    obtain ⟨ad, eA, x0, x1⟩ := at_T108 hr (lo : Int) (by omega) (by omega)
    subst eA
    have hrd : rd_T108 l (lo : Int) = l.getD lo z108 := by unfold rd_T108; simp
    rw [hrd, Int.toNat_natCast] at x1
    generalize l.getD lo z108 = q at x1 HF
    have XX := Lib.hid x1
    have i0 : (0 : Int) ≤ (lo : Int) := by omega
    have i1 : (lo : Int) < (l.length : Int) := by omega
    clear hat hf hcut hR hr hl hc x0 x1 hrd
    go_enter Try.func39, Try.ntmps39
    go_wp2_with (first | (go_at_call 79; refine (HA.out _ HR.out).mono ?_; rintro e w2 ⟨rfl, hb⟩) | (go_at_call 80; refine (HT.out _ (Kd.C_below HR.out hb)).mono ?_; rintro e w3 ⟨rfl, hb3⟩; have x3 := pw_cell_below hb3 (pw_cell_below hb XX.out)))
    go_ret2
    exact ⟨by rw [HF.out]; rfl, hb.trans (hb3.mono hb.size)⟩
end Go.Proofs.Ytjfigngmpagloaa.Tw

namespace Go.Proofs.Ytjfigngmpagloaa.Tw
open Go Go.RowKit Go.Shelf Go.Proofs Go.Proofs.Ytjfigngmpagloaa Go.Proofs.YtjfigngmpagloaaW.PrintWords Go.Proofs.Ytjfigngmpagloaa.Ext Go.Proofs.Ytjfigngmpagloaa.X
set_option linter.unusedVariables false
set_option linter.unusedSimpArgs false
/-- copy of whole elements into a row that is known. -/
theorem run_copy_rowN {P : Program} (w : World) (dT sT ty elem : TypeId) (sz g o dLen dCap : Nat) (a : Addr) (sLen sCap : Nat) (cur : Array Value) (t : TypeId) (cs : List Value)
    (hu : P.underlying dT = some (.slice elem)) (hs : (P.info? elem).map (·.size) = some sz)
    (hg : w.heap[g]? = some (.cells cur t (0, 0))) (hn : cs.length = Nat.min sLen dLen * sz)
    (hsrc : ∀ j v, cs[j]? = some v → w.cell? (a.add j) = some v) (hfit : o + cs.length ≤ cur.size) (h1 : ∀ v ∈ cs, v.oneCell' = true) :
    (Builtin.copy_ #[dT, sT] ty #[.slice (some ⟨g, o, none⟩) dLen dCap, .slice (some a) sLen sCap]).run P w =
      .ok (goInt (Nat.min sLen dLen)) (w.setRow g (cur.toList.take o ++ cs ++ cur.toList.drop (o + cs.length)).toArray) := by
  have hl := run_loadCells_list (P := P) w a cs hsrc
  have hst := run_storeCells_at P g o t cs 0 cur w hg (by simpa using hfit) h1
  rw [Nat.add_zero] at hst
  cases hq : P.info? elem with
  | none => simp [hq] at hs
  | some i =>
    have hi : i.size = sz := by simpa [hq] using hs
    simp [Builtin.copy_, run_underlying hu, Builtin.lenOf, Builtin.firstCells, sizeOf, typeInfo, hq, hi, ← hn, hl, hst]
theorem wpList_copy_runI {P : Program} (w : World) {ops : Array Oper} {rest : List Oper} {o : Oper} {a : Act} {Q : Exit → Act → World → Prop} (hgd : o.guard = none) (d s : Operand) (t t' : TypeId)
    (ho : o.op = .call { callee := .builtin .copy, args := #[d, s], argTypes := #[t, t'] }) (v u : Value) (hd : a.eval d = v) (hs : a.eval s = u) {v' : Value} {w' : World}
    (hr : (Builtin.copy_ #[t, t'] o.type #[v, u]).run P w = .ok v' w') (h : wpList P ops Q rest (a.put o.dst v') w') : wpList P ops Q (o :: rest) a w := by
  refine wpList_plain hgd fun K hK => ?_
  unfold Oper.wp execOp
  simp only [ho, resolve, invoke, builtin, Sem.run_bind, Sem.run_pure, Result.andThen_ok, List.map_toArray, List.map_cons, List.map_nil, hd, hs, hr]
  exact hK _ _ h
theorem step_copy_runI {P : Program} {ops : Array Oper} {o : Oper} {a : Act} {w : World} {K : Act → World → Prop} {Q : Exit → Act → World → Prop} {E : Prop}
    (hg : o.guard = none) (d x : Operand) (dT sT : TypeId) (hop : o.op = Op.call { callee := Callee.builtin Builtin.copy, args := #[d, x], argTypes := #[dT, sT] })
    (v u : Value) (hd : a.eval d = v) (hx : a.eval x = u) {v' : Value} {w' : World} (hr : (Builtin.copy_ #[dT, sT] o.type #[v, u]).run P w = .ok v' w') (hK : K (a.put o.dst v') w') :
    if Region.wanted o (yielded ops a.tmps) = true then Oper.wp P o a w K Q else E := by
  have hw : Region.wanted o (yielded ops a.tmps) = true := by simp [Region.wanted, hg]
  rw [if_pos hw]
  unfold Oper.wp
  simp [execOp, hop, resolve, invoke, builtin, hd, hx, hr, Result.andThen]
  exact hK

/-- Entries' cells. -/
def rowE (l : List En) : List Value := l.flatMap fun e => [.string e.f0, .int .i64 e.f1]
theorem rowE_nil : rowE [] = [] := rfl
theorem rowE_cons (x : En) (l : List En) : rowE (x :: l) = .string x.f0 :: .int .i64 x.f1 :: rowE l := rfl
theorem rowE_len : ∀ l : List En, (rowE l).length = l.length * 2
  | [] => rfl
  | x :: l => by rw [rowE_cons, List.length_cons, List.length_cons, rowE_len l, List.length_cons]; omega
theorem rowE_append (l m : List En) : rowE (l ++ m) = rowE l ++ rowE m := by simp [rowE]
theorem rowE_take : ∀ (l : List En) (i : Nat), (rowE l).take (i * 2) = rowE (l.take i)
  | [], i => by simp [rowE_nil]
  | x :: l, 0 => by simp [rowE_nil]
  | x :: l, i + 1 => by rw [rowE_cons, show (i + 1) * 2 = (i * 2 + 1) + 1 by omega, List.take_succ_cons, List.take_succ_cons, rowE_take l i, List.take_succ_cons, rowE_cons]
theorem rowE_drop : ∀ (l : List En) (i : Nat), (rowE l).drop (i * 2) = rowE (l.drop i)
  | [], i => by simp [rowE_nil]
  | x :: l, 0 => by simp
  | x :: l, i + 1 => by rw [rowE_cons, show (i + 1) * 2 = (i * 2 + 1) + 1 by omega, List.drop_succ_cons, List.drop_succ_cons, rowE_drop l i, List.drop_succ_cons]
theorem rowE_one (l : List En) : ∀ v ∈ rowE l, v.oneCell' = true := by
  intro v hv
  simp only [rowE, List.mem_flatMap] at hv
  obtain ⟨x, _, hx⟩ := hv
  simp at hx
  rcases hx with rfl | rfl <;> rfl
theorem reps_rowE {R : En → List Value → Prop} (hR : ∀ x, R x [.string x.f0, .int .i64 x.f1]) : ∀ l : List En, Reps R 2 l (rowE l)
  | [] => Reps.none _ _
  | l => by
    refine ⟨rowE_len l, fun j p hj => ?_⟩
    obtain ⟨hl, rfl⟩ := List.getElem?_eq_some_iff.1 hj
    rw [rowE_drop, List.drop_eq_getElem_cons hl, rowE_cons]
    exact hR _
theorem rowE_of_reps {R : En → List Value → Prop} (hR : ∀ x c, R x c → c = [.string x.f0, .int .i64 x.f1]) : ∀ (l : List En) (cs : List Value), Reps R 2 l cs → cs = rowE l
  | [], cs, h => List.eq_nil_of_length_eq_zero (by simpa using h.1)
  | x :: l, cs, h => by
    have h0 := hR _ _ (h.2 0 x rfl)
    have hl := h.1
    simp only [List.length_cons] at hl
    match cs, hl with
    | [], hl => simp at hl
    | [_], hl => simp at hl; omega
    | a :: b :: cs, hl =>
      simp at h0
      obtain ⟨rfl, rfl⟩ := h0
      have ih := rowE_of_reps hR l cs ⟨by simp at hl; omega, fun j p hj => by
        have := h.2 (j + 1) p (by simpa using hj)
        rw [show (j + 1) * 2 = (j * 2 + 1) + 1 by omega] at this
        simpa using this⟩
      rw [rowE_cons, ih]
/-- A row of entries of the call's own, bare. -/
def OwnE (w : World) (base : Nat) (v : Value) (l : List En) : Prop :=
  (v = .slice none 0 0 ∧ l = []) ∨ ∃ g cap cur, v = .slice (some ⟨g, 0, none⟩) l.length cap ∧ base ≤ g ∧ w.heap[g]? = some (.cells cur 108 (0, 0)) ∧ l.length ≤ cap ∧ cap ≤ maxLen ∧ cur.size = cap * 2 ∧ cur.toList.take (l.length * 2) = rowE l
theorem OwnE.ofR {w : World} {base : Nat} {v : Value} {l : List En} {ok : Nat → Prop} (h : Kd.R k108 108 w base ok v l) : OwnE w base v l := by
  obtain ⟨_, inner, ho, hr⟩ := h
  obtain rfl := rowE_of_reps (fun x c hc => k108_openM hc) _ _ hr
  rcases ho.2 with ⟨rfl, h0⟩ | ⟨g, cap, cur, rfl, hb, hh, hnc, hcm, hcs, htake⟩
  · exact .inl ⟨rfl, List.eq_nil_of_length_eq_zero h0⟩
  · exact .inr ⟨g, cap, cur, rfl, hb, hh, hnc, hcm, hcs, htake⟩
theorem OwnE.toR {w : World} {base : Nat} {v : Value} {l : List En} (h : OwnE w base v l) : Kd.R k108 108 w base (fun _ => True) v l := by
  refine ⟨fun _ _ => trivial, rowE l, ⟨?_, ?_⟩, reps_rowE (fun x => k108_mkM _ _ _ x) l⟩
  · rw [rowE_len]; rfl
  · rcases h with ⟨rfl, rfl⟩ | ⟨g, cap, cur, rfl, hb, hh, hnc, hcm, hcs, htake⟩
    · exact .inl ⟨rfl, rfl⟩
    · exact .inr ⟨g, cap, cur, rfl, hb, hh, hnc, hcm, hcs, htake⟩
theorem one_C (w : World) (vb : Nat) (x : En) (hv : w.heap[vb]? = some (.cells #[.string x.f0, .int .i64 x.f1] 108 (0, 0))) : Kd.C k108 w (some ⟨vb, 0, none⟩) 1 [x] := by
  refine ⟨rfl, by omega, fun _ => ⟨_, rfl, fun j p hj => ?_⟩⟩
  obtain ⟨hl, rfl⟩ := List.getElem?_eq_some_iff.1 hj
  have : j = 0 := by simp at hl; exact hl
  subst this
  refine ⟨[.string x.f0, .int .i64 x.f1], rfl, k108_mk w x, fun i u hu => ?_⟩
  rw [show (⟨vb, 0, none⟩ : Addr).add (0 * k108.sz + i) = ⟨vb, i, none⟩ by rw [Addr.add_lit]; congr 1; omega]
  rw [cell_of_row w vb _ _ _ (0, 0) hv]
  simpa using hu
/-- At the end. -/
theorem insert_end (v : Value) (l : List En) (x : En) (vb : Nat) (w : World) (base : Nat) (hR : OwnE w base v l) (hbase : base ≤ w.heap.size)
    (hv : w.heap[vb]? = some (.cells #[.string x.f0, .int .i64 x.f1] 108 (0, 0))) (hs : l.length < 4294967296) :
    Calls Try.prog 116 #[v, .int .i64 l.length, .slice (some ⟨vb, 0, none⟩) 1 1] w fun e w' => ∃ v', e = .returned v' ∧ OwnE w' base v' (l ++ [x]) ∧ Below base w w' := by
  have HO := Lib.hid hR.toR
  have HV := Lib.hid (one_C w vb x hv)
  have HB := Lib.hid (Below.refl base w)
  have HBS := Lib.hid hbase
  have HS := Lib.hid hs
  obtain ⟨A, c, rfl⟩ : ∃ A c, v = .slice A l.length c := by
    rcases hR with ⟨rfl, rfl⟩ | ⟨g, cap, cur, rfl, _⟩
    · exact ⟨_, _, rfl⟩
    · exact ⟨_, _, rfl⟩
  have hlc : l.length ≤ c := by
    rcases hR with ⟨e, rfl⟩ | ⟨g, cap, cur, e, hb, hh, hnc, hcm, hcs, htake⟩
    · simp
    · cases e; exact hnc
  have h0 : A = none → l = [] ∧ c = 0 := by
    rintro rfl
    rcases hR with ⟨e, rfl⟩ | ⟨g, cap, cur, e, _⟩
    · cases e; exact ⟨rfl, rfl⟩
    · cases e
  clear hR hv hbase
  cases A with
  | none =>
    have h0 : l = [] ∧ c = 0 := h0 rfl
    obtain ⟨rfl, rfl⟩ := h0
    clear hlc
    simp only [List.length_nil] at HO
    go_enter Try.func116, Try.ntmps116
    go_wp2_with ((with_reducible refine gate_builtin (b := .append) (xs := #[.tmp 23, .tmp 24]) rfl ?_); at_builtin; refine Kd.R_append_rows k108 (w0 := w) base rfl (.tmp 23) (.tmp 24) 80 108 (.agg #[.string ⟨#[]⟩, .int .i64 0]) 24 rfl Try.underlying80 infoE rfl (by decide) (by omega) _ [] [x] _ _ _ (fun _ => True) (fun _ => False) rfl rfl HO.out HV.out (fun _ _ h => by obtain rfl := k108_open h; exact k108_mkM _ _ _ _) (fun _ h => h.elim) (fun _ _ => trivial) HB.out HBS.out (by simp) ?_; intro v1 w1 ho hb hg hat)
    all_goals go_ret
    all_goals exact ⟨_, rfl, OwnE.ofR ho, hb⟩
  | some ad =>
    clear h0
    go_enter Try.func116, Try.ntmps116
    go_wp2_with ((with_reducible refine gate_builtin (b := .append) (xs := #[.tmp 23, .tmp 24]) rfl ?_); at_builtin; refine Kd.R_append_rows k108 (w0 := w) base rfl (.tmp 23) (.tmp 24) 80 108 (.agg #[.string ⟨#[]⟩, .int .i64 0]) 24 rfl Try.underlying80 infoE rfl (by decide) (by omega) _ l [x] _ _ _ (fun _ => True) (fun _ => False) rfl rfl HO.out HV.out (fun _ _ h => by obtain rfl := k108_open h; exact k108_mkM _ _ _ _) (fun _ h => h.elim) (fun _ _ => trivial) HB.out HBS.out (by omega) ?_; intro v1 w1 ho hb hg hat)
    all_goals go_ret
    all_goals exact ⟨_, rfl, OwnE.ofR ho, hb⟩
theorem copy_E (W : World) (g o dLen dCap : Nat) (a : Addr) (sLen sCap m : Nat) (cur : Array Value) (l : List En) (hm : l.length = m) (hmin : Nat.min sLen dLen = m)
    (hg : W.heap[g]? = some (.cells cur 108 (0, 0))) (hsrc : ∀ j v, (rowE l)[j]? = some v → W.cell? (a.add j) = some v) (hfit : o + m * 2 ≤ cur.size) :
    ∃ W1, (∀ ty, (Builtin.copy_ #[80, 80] ty #[.slice (some ⟨g, o, none⟩) dLen dCap, .slice (some a) sLen sCap]).run Try.prog W = .ok (goInt m) W1) ∧
      W1.heap[g]? = some (.cells (cur.toList.take o ++ rowE l ++ cur.toList.drop (o + m * 2)).toArray 108 (0, 0)) ∧ W.grownBy W1 (some g) := by
  subst hm
  refine ⟨_, fun ty => by rw [run_copy_rowN W _ _ ty 108 2 g o dLen dCap a sLen sCap cur 108 (rowE l) Try.underlying80 (by kernel_rfl) hg (by rw [rowE_len, hmin]) hsrc (by rw [rowE_len]; exact hfit) (rowE_one l), hmin], ?_, ?_⟩
  · rw [← rowE_len]; exact setRow_heap W g cur _ _ _ hg
  · exact ⟨rfl, rfl, rfl, by simp, fun k _ hk => setRow_other W g k _ (fun e => hk (by rw [e]))⟩
theorem cells_E {W : World} {g o : Nat} {cur : Array Value} {l : List En} (hg : W.heap[g]? = some (.cells cur 108 (0, 0))) (h : (cur.toList.drop o).take (l.length * 2) = rowE l) :
    ∀ j v, (rowE l)[j]? = some v → W.cell? ((⟨g, o, none⟩ : Addr).add j) = some v := by
  intro j v hj
  rw [Addr.add_lit, cell_of_row W g _ cur _ (0, 0) hg]
  rw [← h, List.getElem?_take, List.getElem?_drop] at hj
  split at hj
  · simpa using hj
  · cases hj
set_option maxRecDepth 1000000 in
/-- There is room. -/
theorem insert_room (g cap : Nat) (cur : Array Value) (l : List En) (i : Nat) (x : En) (vb : Nat) (w : World) (hi : i < l.length) (hroom : l.length + 1 ≤ cap) (hcm : cap ≤ maxLen)
    (hg : w.heap[g]? = some (.cells cur 108 (0, 0))) (hcs : cur.size = cap * 2) (htk : cur.toList.take (l.length * 2) = rowE l)
    (hv : w.heap[vb]? = some (.cells #[.string x.f0, .int .i64 x.f1] 108 (0, 0))) (hne : vb ≠ g) (hs : l.length < 4294967296) :
    Calls Try.prog 116 #[.slice (some ⟨g, 0, none⟩) l.length cap, .int .i64 i, .slice (some ⟨vb, 0, none⟩) 1 1] w fun e w' =>
      ∃ cur' : Array Value, e = .returned (.slice (some ⟨g, 0, none⟩) (l.length + 1) cap) ∧ w'.heap[g]? = some (.cells cur' 108 (0, 0)) ∧ cur'.size = cap * 2 ∧ cur'.toList.take ((l.length + 1) * 2) = rowE (l.take i ++ x :: l.drop i) ∧ w.grownBy w' (some g) := by
  have hov : ∀ lb cb o, (callFunc 126 #[.slice (some ⟨vb, 0, none⟩) 1 1, .slice (some ⟨g, o, none⟩) lb cb]).run Try.prog w = .ok (.value (.bool false)) w := fun lb cb o => by
    rw [run_callFunc_extern Try.func126 (by kernel_rfl) (by kernel_rfl) (by kernel_rfl) (e := Extern.SlicesOverlaps.overlaps #[80, 80] #[4]) (by kernel_rfl),
      Lib.run_overlaps_apart w 80 4 108 Try.underlying80 2 (by intro w; kernel_rfl) ⟨vb, 0, none⟩ ⟨g, o, none⟩ 1 1 lb cb hne 108 108 2 cur.size (by simp [World.shape?, hv]) (by simp [World.shape?, hg]) (by omega) (by simp [World.frozen?, hv]) (by simp [World.frozen?, hv])]
    rfl
  have hz2 : ¬ ((i : Int) = (l.length : Int)) := by omega
  have hw1 : IntKind.i64.wrap ((i : Int) + 1) = ((i + 1 : Nat) : Int) := by rw [IntKind.wrap_i64]; omega
  have hw2 : IntKind.i64.wrap ((l.length : Int) + 1) = ((l.length + 1 : Nat) : Int) := by rw [IntKind.wrap_i64]; omega
  have hb1 : (0 : Int) ≤ (i : Int) + 1 := by omega
  have hb7 : (i : Int) ≤ (l.length : Int) + 1 := by omega
  have hb2 : ¬ (cap = i + 1) := by omega
  have hb4 : ¬ (cap = i) := by omega
  have hb5 : ¬ (cap < l.length + 1) := by omega
  have hb6 : i ≤ l.length := by omega
  have hgd : w.drew.heap[g]? = some (.cells cur 108 (0, 0)) := hg
  have hvd : w.drew.heap[vb]? = some (.cells #[.string x.f0, .int .i64 x.f1] 108 (0, 0)) := hv
  have hld : (l.drop i).length = l.length - i := List.length_drop
  obtain ⟨W1, hc1, hg1, hk1⟩ := copy_E w.drew g ((i + 1) * 2) (l.length + 1 - (i + 1)) (cap - (i + 1)) ⟨g, i * 2, none⟩ (l.length + 1 - i) (cap - i) (l.length - i) cur (l.drop i) hld (by show min _ _ = _; omega) hgd
    (cells_E hgd (by rw [hld, ← rowE_drop, ← htk, List.drop_take]; congr 1; omega)) (by omega)
  have hv1 := (hk1.block vb (blk_lt hvd) (fun e => hne (Option.some.inj e))).trans hvd
  obtain ⟨cur1, hcur1⟩ : ∃ c, c = (cur.toList.take ((i + 1) * 2) ++ rowE (l.drop i) ++ cur.toList.drop ((i + 1) * 2 + (l.length - i) * 2)).toArray := ⟨_, rfl⟩
  rw [← hcur1] at hg1
  have hs1 : cur1.size = cap * 2 := by
    rw [hcur1]
    simp only [List.size_toArray, List.length_append, List.length_take, List.length_drop, Array.length_toList, rowE_len, hcs]
    omega
  obtain ⟨W2, hc2, hg2, hk2⟩ := copy_E W1 g (i * 2) (l.length + 1 - i) (cap - i) ⟨vb, 0, none⟩ 1 1 1 cur1 [x] rfl (by show min _ _ = _; omega) hg1 (cells_E hv1 rfl) (by omega)
  obtain ⟨cur2, hcur2⟩ : ∃ c, c = (cur1.toList.take (i * 2) ++ rowE [x] ++ cur1.toList.drop (i * 2 + 1 * 2)).toArray := ⟨_, rfl⟩
  rw [← hcur2] at hg2
  have FIN : cur2.size = cap * 2 ∧ cur2.toList.take ((l.length + 1) * 2) = rowE (l.take i ++ x :: l.drop i) := by
    refine ⟨?_, ?_⟩
    · rw [hcur2]
      simp only [List.size_toArray, List.length_append, List.length_take, List.length_drop, Array.length_toList, rowE_len, hs1]
      simp only [List.length_cons, List.length_nil]
      omega
    · have e1 : cur1.toList.take (i * 2) = rowE (l.take i) := by
        rw [hcur1, List.append_assoc, List.take_append_of_le_length (by simp; omega), List.take_take, ← rowE_take, ← htk, List.take_take]
        congr 1
        omega
      have e2 : cur1.toList.drop (i * 2 + 1 * 2) = rowE (l.drop i) ++ cur.toList.drop ((i + 1) * 2 + (l.length - i) * 2) := by
        rw [hcur1, List.append_assoc, List.drop_left' (by simp; omega)]
      rw [hcur2, e1, e2, show x :: l.drop i = [x] ++ l.drop i from rfl, rowE_append, rowE_append]
      simp only []
      rw [show rowE (l.take i) ++ rowE [x] ++ (rowE (l.drop i) ++ cur.toList.drop ((i + 1) * 2 + (l.length - i) * 2)) = (rowE (l.take i) ++ (rowE [x] ++ rowE (l.drop i))) ++ cur.toList.drop ((i + 1) * 2 + (l.length - i) * 2) by simp only [List.append_assoc]]
      exact List.take_left' (by simp only [List.length_append, rowE_len, List.length_take, List.length_drop, List.length_cons, List.length_nil]; omega)
  have HF := Lib.hid (And.intro FIN (And.intro hg2 (hk1.trans hk2)))
  have HC1 := Lib.hid hc1
  have HC2 := Lib.hid hc2
  clear FIN hcur2 hcur1 hg1 hs1 hv1 hk1 hk2 hg2 hc1 hc2 hvd hgd hg hcs htk hv hs hcm hld
  generalize hn : l.length = n at *
  go_enter Try.func116, Try.ntmps116
  go_wp2_with (simp only [hov])
  go_region_law (refine step_copy_runI rfl _ _ 80 80 rfl _ _ (by simp [Act.eval, Act.put]) (by simp [Act.eval, Act.put]) (HC1.out _) ?_)
  have hc2 := HC2.out 3
  go_wp2
  go_ret
  obtain ⟨⟨f1, f2⟩, f3, f4⟩ := HF.out
  exact ⟨cur2, rfl, f3, f1, f2, ⟨f4.os, f4.tape, f4.output, f4.size, fun k hk hne => f4.block k hk hne⟩⟩
set_option maxHeartbeats 400000 in
set_option maxRecDepth 1000000 in
/-- There is no room. -/
theorem insert_grow (g cap : Nat) (cur : Array Value) (l : List En) (i : Nat) (x : En) (vb : Nat) (w : World) (hi : i < l.length) (hcap : l.length ≤ cap) (hroom : cap < l.length + 1)
    (hg : w.heap[g]? = some (.cells cur 108 (0, 0))) (hcs : cur.size = cap * 2) (htk : cur.toList.take (l.length * 2) = rowE l)
    (hv : w.heap[vb]? = some (.cells #[.string x.f0, .int .i64 x.f1] 108 (0, 0))) (hs : l.length < 4294967296) :
    Calls Try.prog 116 #[.slice (some ⟨g, 0, none⟩) l.length cap, .int .i64 i, .slice (some ⟨vb, 0, none⟩) 1 1] w fun e w' =>
      ∃ (G : Nat) (cur' : Array Value), e = .returned (.slice (some ⟨w.heap.size, 0, none⟩) (l.length + 1) G) ∧ w'.heap[w.heap.size]? = some (.cells cur' 108 (0, 0)) ∧ l.length + 1 ≤ G ∧ G ≤ maxLen ∧ cur'.size = G * 2 ∧ cur'.toList.take ((l.length + 1) * 2) = rowE (l.take i ++ x :: l.drop i) ∧ Below w.heap.size w w' := by
  obtain ⟨i0, hi0, hz0, hzs, hzb⟩ := info_parts infoE
  have hld : (l.drop i).length = l.length - i := List.length_drop
  have hbg := blk_lt hg
  have hbv := blk_lt hv
  have hold : (Builtin.firstCells i0.size i (.slice (some ⟨g, 0, none⟩) i cap)).run Try.prog w.drew = .ok (rowE (l.take i)).toArray w.drew := by
    rw [hzs]
    exact run_firstCells_some w.drew 2 i ⟨g, 0, none⟩ i cap _ (by rw [rowE_len, List.length_take]; omega) (cells_E (l := l.take i) (W := w.drew) hg (by
      rw [← rowE_take, ← htk, List.drop_zero, List.take_take, List.length_take]
      congr 1
      omega))
  have hkk : ((l.length : Int) + 1 - (i : Int)) = ((l.length + 1 - i : Nat) : Int) := by omega
  have hik : i + (l.length + 1 - i) = l.length + 1 := by omega
  obtain ⟨W1, G, ROW, hrz, hG1, hG2, hg1, hR1, hR2, hb1⟩ : ∃ W1 G, ∃ ROW : Array Value, (∀ ty, (Builtin.append_ #[80, 3] ty #[.slice (some ⟨g, 0, none⟩) i cap, .int .i64 ((l.length : Int) + 1 - (i : Int))]).run Try.prog w =
      .ok (.slice (some ⟨w.heap.size, 0, none⟩) (l.length + 1) G) W1) ∧ l.length + 1 ≤ G ∧ G ≤ maxLen ∧ W1.heap[w.heap.size]? = some (.cells ROW 108 (0, 0)) ∧ ROW.size = G * 2 ∧ ROW.toList.take (i * 2) = rowE (l.take i) ∧ Below w.heap.size w W1 := by
    have h := fun ty => Lib.run_append_grow_zeros w 80 3 ty 108 i0 _ .i64 .i64 Try.underlying80 Try.underlying3 hi0 hz0 (some ⟨g, 0, none⟩) i cap _ hold (l.length + 1 - i) (by omega) (by omega) (by omega) (by omega) (by rw [hzb]; omega) (by rw [hzb, hik]; exact growslice_fits (by omega) (by omega))
    rw [hik, ← hkk] at h
    refine ⟨_, _, _, h, grownCap_ge w _ _ _, grownCap_le_maxLen w _ _ _ (by unfold maxLen; omega), heap_alloc_new w.drew _, ?_, ?_, ((Below.refl _ w).drew).alloc (Nat.le_refl _) _⟩
    · have := grownCap_ge w (l.length + 1) cap 108
      simp only [Array.size_append, List.size_toArray, size_zeroCells, rowE_len, List.length_take]
      simp only [Value.cells]
      show min i l.length * 2 + (l.length + 1 - i) * 2 + (grownCap w (l.length + 1) cap 108 - (l.length + 1)) * 2 = _
      omega
    · rw [Array.toList_append, Array.toList_append, List.append_assoc]
      exact List.take_left' (by rw [rowE_len, List.length_take]; omega)
  have hv1 := (hb1.block vb hbv).trans hv
  obtain ⟨W2, hc2, hg2, hk2⟩ := copy_E W1 w.heap.size (i * 2) (l.length + 1 - i) (G - i) ⟨vb, 0, none⟩ 1 1 1 ROW [x] rfl (by show min _ _ = _; omega) hg1 (cells_E hv1 rfl) (by omega)
  obtain ⟨cur2, hcur2⟩ : ∃ c, c = (ROW.toList.take (i * 2) ++ rowE [x] ++ ROW.toList.drop (i * 2 + 1 * 2)).toArray := ⟨_, rfl⟩
  rw [← hcur2] at hg2
  have hs2 : cur2.size = G * 2 := by
    rw [hcur2]
    simp only [List.size_toArray, List.length_append, List.length_take, List.length_drop, Array.length_toList, rowE_len, hR1]
    simp only [List.length_cons, List.length_nil]
    omega
  have hgg : W2.drew.heap[g]? = some (.cells cur 108 (0, 0)) := (hk2.block g (by have := hb1.size; omega) (by intro e; injection e with e; omega)).trans ((hb1.block g hbg).trans hg)
  have hg2' : W2.drew.heap[w.heap.size]? = some (.cells cur2 108 (0, 0)) := hg2
  obtain ⟨W3, hc3, hg3, hk3⟩ := copy_E W2.drew w.heap.size ((i + 1) * 2) (l.length + 1 - (i + 1)) (G - (i + 1)) ⟨g, i * 2, none⟩ (l.length - i) (cap - i) (l.length - i) cur2 (l.drop i) hld (by show min _ _ = _; omega) hg2'
    (cells_E hgg (by rw [hld, ← rowE_drop, ← htk, List.drop_take]; congr 1; omega)) (by omega)
  obtain ⟨cur3, hcur3⟩ : ∃ c, c = (cur2.toList.take ((i + 1) * 2) ++ rowE (l.drop i) ++ cur2.toList.drop ((i + 1) * 2 + (l.length - i) * 2)).toArray := ⟨_, rfl⟩
  rw [← hcur3] at hg3
  have FIN : cur3.size = G * 2 ∧ cur3.toList.take ((l.length + 1) * 2) = rowE (l.take i ++ x :: l.drop i) := by
    refine ⟨?_, ?_⟩
    · rw [hcur3]
      simp only [List.size_toArray, List.length_append, List.length_take, List.length_drop, Array.length_toList, rowE_len, hs2]
      omega
    · have e1 : cur2.toList.take ((i + 1) * 2) = rowE (l.take i) ++ rowE [x] := by
        rw [hcur2, hR2]
        exact List.take_left' (by simp only [List.length_append, rowE_len, List.length_take, List.length_cons, List.length_nil]; omega)
      rw [hcur3, e1, show x :: l.drop i = [x] ++ l.drop i from rfl, rowE_append, rowE_append]
      rw [← List.append_assoc (rowE (l.take i)) (rowE [x])]
      exact List.take_left' (by simp only [List.length_append, rowE_len, List.length_take, List.length_drop, List.length_cons, List.length_nil]; omega)
  have hbl : Below w.heap.size w W3 := by
    refine ⟨hk3.os.trans (hk2.os.trans hb1.os), hk3.tape.trans (hk2.tape.trans hb1.tape), hk3.output.trans (hk2.output.trans hb1.output), ?_, fun k hk => ?_⟩
    · have h1 := hb1.size; have h2 := hk2.size; have h3 := hk3.size
      exact Nat.le_trans h1 (Nat.le_trans h2 h3)
    · have h1 := hb1.size; have h2 := hk2.size
      exact (hk3.block k (Nat.lt_of_lt_of_le hk (Nat.le_trans h1 h2)) (by intro e; injection e with e; omega)).trans ((hk2.block k (by omega) (by intro e; injection e with e; omega)).trans (hb1.block k hk))
  have hz2 : ¬ ((i : Int) = (l.length : Int)) := by omega
  have hz3 : (cap : Int) < (l.length : Int) + 1 := by omega
  have hw1 : IntKind.i64.wrap ((i : Int) + 1) = ((i + 1 : Nat) : Int) := by rw [IntKind.wrap_i64]; omega
  have hw2 : IntKind.i64.wrap ((l.length : Int) + 1) = ((l.length + 1 : Nat) : Int) := by rw [IntKind.wrap_i64]; omega
  have hbb1 : (0 : Int) ≤ (i : Int) + 1 := by omega
  have hb7 : (i : Int) ≤ (l.length : Int) + 1 := by omega
  have hb6 : i ≤ l.length := by omega
  have hb4 : ¬ (cap = i) := by omega
  have hGi : ¬ (G = i) := by omega
  have hGim : ¬ (G = i + 1) := by omega
  have HF := Lib.hid (And.intro (And.intro hG1 hG2) (And.intro FIN (And.intro hg3 hbl)))
  have HRZ := Lib.hid hrz
  have hw3 : wrap64 ((l.length : Int) + 1 - (i : Int)) = (l.length : Int) + 1 - (i : Int) := IntWalk.wrap64_in _ (by omega)
  have hc2 := hc2 3
  have HC3 := Lib.hid hc3
  have HHS := Lib.hid hs
  clear FIN hbl hcur2 hcur3 hg1 hg2 hg2' hgg hs2 hR1 hR2 hb1 hv1 hk2 hk3 hg3 hc3 hg hcs htk hv hold hkk hik hld hbg hbv hrz hs hG1 hG2 hi0 hz0 hzs hzb
  generalize hn : l.length = n at *
  go_enter Try.func116, Try.ntmps116
  go_wp2_with (at_builtin; refine Lib.wpList_append_run _ rfl _ _ _ _ rfl (.slice (some ⟨g, 0, none⟩) i cap) (.int .i64 ((n : Int) + 1 - (i : Int))) (by simp [Act.eval]) (by simp [Act.eval, hw3]) _ _ (HRZ.out _) ?_)
  go_region_law (refine step_copy_runI rfl _ _ 80 80 rfl _ _ (by simp [Act.eval, Act.put]) (by simp [Act.eval, Act.put]) (HC3.out _) ?_)
  go_wp2
  go_ret
  obtain ⟨⟨f0, f00⟩, ⟨f1, f2⟩, f3, f4⟩ := HF.out
  exact ⟨G, cur3, rfl, f3, f0, f00, f1, f2, f4⟩
/-- Insert, any road. -/
theorem insert_calls (v : Value) (l : List En) (i : Nat) (x : En) (vb : Nat) (w : World) (base : Nat) (hi : i ≤ l.length) (hR : OwnE w base v l) (hbase : base ≤ w.heap.size)
    (hv : w.heap[vb]? = some (.cells #[.string x.f0, .int .i64 x.f1] 108 (0, 0))) (hne : v.ownBlock ≠ some vb) (hs : l.length < 4294967296) :
    Calls Try.prog 116 #[v, .int .i64 i, .slice (some ⟨vb, 0, none⟩) 1 1] w fun e w' => ∃ v', e = .returned v' ∧ OwnE w' base v' (l.take i ++ x :: l.drop i) ∧ Below base w w' := by
  rcases Nat.lt_or_ge i l.length with hlt | hge
  · have h2 : (l.take i ++ x :: l.drop i).length = l.length + 1 := by rw [List.length_append, List.length_cons, List.length_take, List.length_drop]; omega
    rcases hR with ⟨rfl, rfl⟩ | ⟨g, cap, cur, rfl, hb, hh, hnc, hcm, hcs, htake⟩
    · simp at hlt
    · rcases Nat.lt_or_ge cap (l.length + 1) with hroom | hroom
      · refine (insert_grow g cap cur l i x vb w hlt hnc hroom hh hcs htake hv hs).mono ?_
        rintro e w' ⟨G, cur', rfl, h3, h4, h5, h6, h7, h8⟩
        refine ⟨_, rfl, .inr ⟨_, G, cur', by rw [h2], hbase, h3, by rw [h2]; exact h4, h5, h6, by rw [h2]; exact h7⟩, h8.mono hbase⟩
      · refine (insert_room g cap cur l i x vb w hlt hroom hcm hh hcs htake hv (fun e => hne (by rw [e]; rfl)) hs).mono ?_
        rintro e w' ⟨cur', rfl, h3, h6, h7, h8⟩
        refine ⟨_, rfl, .inr ⟨_, cap, cur', by rw [h2], hb, h3, by rw [h2]; exact hroom, hcm, h6, by rw [h2]; exact h7⟩, ⟨h8.os, h8.tape, h8.output, h8.size, fun k hk => h8.block k (Nat.lt_of_lt_of_le hk hbase) (by intro e; injection e with e; omega)⟩⟩
  · obtain rfl : i = l.length := by omega
    rw [List.take_length, List.drop_length]
    exact insert_end v l x vb w base hR hbase hv hs
end Go.Proofs.Ytjfigngmpagloaa.Tw

namespace Go.Proofs.Ytjfigngmpagloaa.Tw
open Go Go.RowKit Go.Shelf Go.Proofs Go.Proofs.Ytjfigngmpagloaa Go.Proofs.YtjfigngmpagloaaW.PrintWords Go.Proofs.Ytjfigngmpagloaa.Ext Go.Proofs.Ytjfigngmpagloaa.X Go.Proofs.Ytjfigngmpagloaa.Pu
set_option linter.unusedVariables false
set_option linter.unusedSimpArgs false
/-- One more, by its name. -/
def insE : List En → En → List En
  | [], x => [x]
  | a :: l, x => if bl a.f0 x.f0 = true then a :: insE l x else x :: a :: l
theorem insE_cut (x : En) : ∀ (l : List En) (lo : Nat), Cut l x.f0 lo → insE l x = l.take lo ++ x :: l.drop lo
  | [], lo, h => by have := h.le; simp at this; subst this; rfl
  | a :: l, 0, h => by
    have := h.ge 0 (Nat.le_refl _) (by simp)
    unfold insE
    rw [if_neg (by simpa using this)]; rfl
  | a :: l, lo + 1, h => by
    have h0 := h.lt 0 (by omega)
    unfold insE
    rw [if_pos (by simpa using h0), insE_cut x l lo ⟨by have := h.le; simp at this; omega, fun i hi => by have := h.lt (i + 1) (by omega); simpa using this, fun i hi hl => by have := h.ge (i + 1) (by omega) (by simp; omega); simpa using this⟩]
    rfl
theorem insE_len (x : En) : ∀ l : List En, (insE l x).length = l.length + 1
  | [] => rfl
  | a :: l => by unfold insE; split <;> simp [insE_len x l]
theorem insE_mem (x y : En) : ∀ l : List En, y ∈ insE l x ↔ y = x ∨ y ∈ l
  | [] => by simp [insE]
  | a :: l => by
    unfold insE
    split
    · rw [List.mem_cons, insE_mem x y l, List.mem_cons]
      constructor
      · rintro (h | h | h)
        · exact .inr (.inl h)
        · exact .inl h
        · exact .inr (.inr h)
      · rintro (h | h | h)
        · exact .inr (.inl h)
        · exact .inl h
        · exact .inr (.inr h)
    · rw [List.mem_cons]
theorem findE_none {l : List En} {s : ByteArray} (h : (findE l s).2 = false) : ∀ e ∈ l, e.f0 ≠ s := by
  unfold findE at h
  intro e he hs
  have : (l.find? (fun e => e.f0.toList == s.toList)).isSome = true := List.find?_isSome.2 ⟨e, he, by simp [hs]⟩
  revert h
  cases hq : l.find? (fun e => e.f0.toList == s.toList) with
  | none => rw [hq] at this; cases this
  | some q => intro h; cases h
theorem bl_tot {a b : ByteArray} (h : bl a b = false) (hne : a ≠ b) : bl b a = true := by
  have h1 := less_tot _ _ h
  rw [Bool.or_eq_true] at h1
  rcases h1 with h1 | h1
  · exact h1
  · refine absurd (toL_inj.1 ?_) hne
    exact (eq_of_beq h1).symm
theorem insE_rt (x : En) : ∀ l : List En, Rt l → (∀ e ∈ l, e.f0 ≠ x.f0) → Rt (insE l x)
  | [], _, _ => List.pairwise_singleton _ _
  | a :: l, h, hn => by
    obtain ⟨ha, hl⟩ := List.pairwise_cons.1 h
    unfold insE
    split
    · rename_i hb
      refine List.pairwise_cons.2 ⟨fun y hy => ?_, insE_rt x l hl (fun e he => hn e (List.mem_cons_of_mem _ he))⟩
      rcases (insE_mem x y l).1 hy with rfl | hy
      · exact hb
      · exact ha y hy
    · rename_i hb
      have hxa := bl_tot (by simpa using hb) (hn a List.mem_cons_self)
      refine List.pairwise_cons.2 ⟨fun y hy => ?_, h⟩
      rcases List.mem_cons.1 hy with rfl | hy
      · exact hxa
      · exact bl_trans hxa (ha y hy)
theorem OwnE.lt {w : World} {base : Nat} {v : Value} {l : List En} (h : OwnE w base v l) (k : Nat) (hk : v.ownBlock = some k) : k < w.heap.size := by
  rcases h with ⟨rfl, _⟩ | ⟨g, cap, cur, rfl, _, hh, _⟩
  · cases hk
  · injection hk with hk; subst hk; exact blk_lt hh
theorem OwnE.lower {w : World} {base base' : Nat} {v : Value} {l : List En} (h : OwnE w base v l) (hb : base' ≤ base) : OwnE w base' v l := by
  rcases h with ⟨rfl, h0⟩ | ⟨g, cap, cur, rfl, hg, r⟩
  · exact .inl ⟨rfl, h0⟩
  · exact .inr ⟨g, cap, cur, rfl, Nat.le_trans hb hg, r⟩
set_option maxRecDepth 1000000 in
theorem entsPut_calls (A : Option Addr) (c : Nat) (l : List En) (x : En) (w : World) (hr : Kd.C k108 w A l.length l) (hc : l.length ≤ c) (hl : l.length < 4294967296) (hR : Rt l) (hn : (findE l x.f0).2 = false) :
    Calls Try.prog 92 #[.slice A l.length c, .agg #[.string x.f0, .int .i64 x.f1]] w fun e w' => ∃ v', e = .returned v' ∧ OwnE w' w.heap.size v' (insE l x) ∧ Below w.heap.size w w' := by
  obtain ⟨lo, hcut, hf⟩ := exists_cut x.f0 l hR
  have hat : isAt l x.f0 lo = false := by
    cases h : isAt l x.f0 lo with
    | false => rfl
    | true => rw [hf, h] at hn; cases hn
  have HA := Lib.hid (fun W h => all_calls A c l W h hc hl hR)
  have HCL := Lib.hid (fun W h => clone_calls A c l W h hc hl)
  have HT := Lib.hid (fun A' c' W h hc' => at_ents_calls A' c' l x.f0 lo W h hc' hl hcut)
  rw [hat] at HT
  have HI := Lib.hid (fun v W base vb h1 h2 h3 h4 => insert_calls v l lo x vb W base hcut.le h1 h2 h3 h4 hl)
  rw [← insE_cut x l lo hcut] at HI
  have HR := Lib.hid hr
  obtain ⟨nm, k⟩ := x
  simp only [] at *
  clear hat hf hcut hR hr hl hc hn
  have HB := Lib.hid ((Below.refl w.heap.size w).alloc (Nat.le_refl _) (.cells #[.string nm, .int .i64 k] 108))
  have HBX := Lib.hid (show (w.alloc (.cells #[.string nm, .int .i64 k] 108)).heap[w.heap.size]? = _ from heap_alloc_new w _)
  go_enter Try.func92, Try.ntmps92
  go_wp2_with (first | (go_at_call 79; refine (HA.out _ (Kd.C_below HR.out HB.out)).mono ?_; rintro e w2 ⟨rfl, hb2⟩) | (go_at_call 81; refine (HCL.out _ (Kd.C_below (Kd.C_below HR.out HB.out) hb2)).mono ?_; rintro e w3 ⟨v, rfl, ho, hb3⟩; obtain ⟨A3, c3, rfl, hle3, hC3⟩ := Kd.R_reads ho; have HO3 := Lib.hid ho; have HC3 := Lib.hid hC3; have HLE := Lib.hid hle3; have hbx := (hb3.block _ (blk_lt ((hb2.block _ (blk_lt HBX.out)).trans HBX.out))).trans ((hb2.block _ (blk_lt HBX.out)).trans HBX.out); have HBX3 := Lib.hid hbx; have x0 : w3.cell? ⟨w.heap.size, 0, none⟩ = some (.string nm) := by { rw [blk_cell hbx]; rfl }; clear ho hC3 hle3 hbx) | (go_at_call 80; refine (HT.out _ _ _ HC3.out HLE.out).mono ?_; rintro e w4 ⟨rfl, hb4⟩; have hbx := (hb4.block _ (blk_lt HBX3.out)).trans HBX3.out; have HBX4 := Lib.hid hbx; have y0 : w4.cell? ⟨w.heap.size, 0, none⟩ = some (.string nm) := by { rw [blk_cell hbx]; rfl }; have y1 : w4.cell? ⟨w.heap.size, 1, none⟩ = some (.int .i64 k) := by { rw [blk_cell hbx]; rfl }; clear hbx) | (go_at_call 116; have hO4 := OwnE.ofR (Kd.R_below HO3.out hb4); refine (HI.out _ _ w2.heap.size _ (OwnE.ofR (Kd.R_below (Kd.R_below HO3.out hb4) ((Below.refl _ w4).alloc (Nat.le_refl _) _))) (Nat.le_trans (Nat.le_trans hb3.size hb4.size) (by simp)) (heap_alloc_new w4 _) (fun e => Nat.lt_irrefl _ (hO4.lt _ e))).mono ?_; rintro e w5 ⟨v', rfl, ho5, hb5⟩))
  go_ret
  exact ⟨_, rfl, ho5.lower (Nat.le_trans (by simp) hb2.size), (HB.out.trans (hb2.mono HB.out.size)).trans (((hb3.mono (Nat.le_trans HB.out.size hb2.size)).trans (hb4.mono (Nat.le_trans (Nat.le_trans HB.out.size hb2.size) hb3.size))).trans ((((Below.refl _ w4).alloc (Nat.le_refl _) _).mono (Nat.le_trans (Nat.le_trans (Nat.le_trans HB.out.size hb2.size) hb3.size) hb4.size)).trans (hb5.mono (Nat.le_trans HB.out.size hb2.size))))⟩
end Go.Proofs.Ytjfigngmpagloaa.Tw

namespace Go.Proofs.Ytjfigngmpagloaa.Tw
open Go Go.RowKit Go.Shelf Go.Proofs Go.Proofs.Ytjfigngmpagloaa Go.Proofs.YtjfigngmpagloaaW.PrintWords Go.Proofs.Ytjfigngmpagloaa.Ext Go.Proofs.Ytjfigngmpagloaa.X Go.Proofs.Ytjfigngmpagloaa.Pu
set_option linter.unusedVariables false
set_option linter.unusedSimpArgs false
/-- w' is w but for blocks p, B and new ones. -/
structure Frm (w w' : World) (p B : Nat) : Prop where
  os : w'.os = w.os
  tape : w'.tape = w.tape
  output : w'.output = w.output
  size : w.heap.size ≤ w'.heap.size
  block : ∀ k, k < w.heap.size → k ≠ p → k ≠ B → w'.heap[k]? = w.heap[k]?
theorem Frm.refl (w : World) (p B : Nat) : Frm w w p B := ⟨rfl, rfl, rfl, Nat.le_refl _, fun _ _ _ _ => rfl⟩
theorem Frm.trans {w w1 w2 : World} {p B : Nat} (h : Frm w w1 p B) (k : Frm w1 w2 p B) : Frm w w2 p B :=
  ⟨k.os.trans h.os, k.tape.trans h.tape, k.output.trans h.output, Nat.le_trans h.size k.size, fun j hj h1 h2 => (k.block j (Nat.lt_of_lt_of_le hj h.size) h1 h2).trans (h.block j hj h1 h2)⟩
theorem Frm.ofBelow {w w' : World} {p B : Nat} (h : Below w.heap.size w w') : Frm w w' p B := ⟨h.os, h.tape, h.output, h.size, fun k hk _ _ => h.block k hk⟩
theorem Frm.below {w w' : World} {p B base : Nat} (h : Frm w w' p B) (hb : base ≤ w.heap.size) (hp : base ≤ p) (hB : base ≤ B) : Below base w w' :=
  ⟨h.os, h.tape, h.output, h.size, fun k hk => h.block k (by omega) (by omega) (by omega)⟩
def TreeB (w : World) (p B : Nat) (T : Tr) : Prop := ∃ sv D, TreeIs w p T B sv D
theorem TreeB.at_ {w : World} {p B : Nat} {T : Tr} (h : TreeB w p B T) : TreeAt w p T := ⟨B, h⟩
theorem TreeB.below {w w' : World} {p B : Nat} {T : Tr} (h : TreeB w p B T) (hb : Below w.heap.size w w') : TreeB w' p B T := by
  obtain ⟨sv, D, h⟩ := h
  exact ⟨sv, D, h.below hb⟩
theorem EntsAt.frm {w w' : World} {p B : Nat} {s : Value} {l : List En} {mb : Option Nat} {y : Int} {t : TypeId} {es : Array MapEntry} {clock : Nat} (h : EntsAt w s l) (hp : w.heap[p]? = some (.cells #[.map mb, .int .i64 y] t (0, 0))) (hB : w.heap[B]? = some (.map es clock)) (hf : Frm w w' p B) : EntsAt w' s l := by
  obtain ⟨A, c, e1, e2, hC⟩ := h
  refine ⟨A, c, e1, e2, hC.1, hC.2.1, fun hn => ?_⟩
  obtain ⟨ad, eA, hc⟩ := hC.2.2 hn
  have key : ∀ (x : En) (q : List Value) (j : Nat), k108.K w x q → (∀ i u, q[i]? = some u → w.cell? (ad.add (j * k108.sz + i)) = some u) → ad.block < w.heap.size ∧ ad.block ≠ p ∧ ad.block ≠ B := by
    intro x q j hK hq
    obtain rfl := k108_open hK
    have h0 := hq 0 _ rfl
    have hbl : (ad.add (j * k108.sz + 0)).block = ad.block := by unfold Addr.add; split <;> rfl
    generalize ad.add (j * k108.sz + 0) = a0 at h0 hbl
    refine ⟨?_, ?_, ?_⟩
    · rw [← hbl]; exact block_lt_of_cell h0
    · intro e
      rw [e] at hbl
      obtain ⟨b, o, sp⟩ := a0
      subst hbl
      simp [World.cell?, hp] at h0
      cases sp with
      | none =>
        simp at h0
        match o, h0 with
        | 0, h0 => simp at h0
        | 1, h0 => simp at h0
        | n + 2, h0 => simp at h0
      | some q => simp at h0
    · intro e
      rw [e] at hbl
      obtain ⟨b, o, sp⟩ := a0
      subst hbl
      simp [World.cell?, hB] at h0
  refine ⟨ad, eA, fun j q hj => ?_⟩
  obtain ⟨cs, hl, hK, hq⟩ := hc j q hj
  obtain ⟨k1, k2, k3⟩ := key q cs j hK hq
  refine ⟨cs, hl, ?_, fun i u hu => ?_⟩
  · obtain rfl := k108_open hK
    exact k108_mk _ _
  · have := hq i u hu
    have hbl : (ad.add (j * k108.sz + i)).block = ad.block := by unfold Addr.add; split <;> rfl
    rw [← this]
    generalize ad.add (j * k108.sz + i) = a at hbl
    unfold World.cell?
    rw [hbl, hf.block _ k1 k2 k3]
theorem TreeIs.mapB {w : World} {p : Nat} {T : Tr} {B : Nat} {sv : Int → Value} {D : DataW Value} (h : TreeIs w p T B sv D) : ∃ es clock, w.heap[B]? = some (.map es clock) := by
  obtain ⟨es, clock, hb, _⟩ := h.map
  exact ⟨es, clock, hb⟩
theorem TreeIs.ne {w : World} {p : Nat} {T : Tr} {B : Nat} {sv : Int → Value} {D : DataW Value} (h : TreeIs w p T B sv D) : p ≠ B := by
  obtain ⟨es, clock, hb⟩ := h.mapB
  rintro rfl
  rw [h.ptr] at hb
  cases hb
def Tr.set (T : Tr) (n : Int) (x : Nd) : Tr := ⟨fun m => if m = n then some x else T.get m, if (T.get n).isSome then T.cnt else T.cnt + 1, T.last⟩
def Tr.bump (T : Tr) : Tr := { T with last := T.last + 1 }
theorem ownsMap_fit {H : Type} {P : Program} {k : TypeId} {R : Value → Option (DataW H × List MemPlace)} {w : World} {b n : Nat} {D : DataW H} (h : w.ownsMap P k R b n D) : w.ownsMap P k R b (Maps.size D) D := by
  obtain ⟨es, clock, hb, F, hs, rfl⟩ := h
  exact ⟨es, clock, hb, F, by simp [Maps.size, length_sorted], rfl⟩
theorem TreeIs.store {w : World} {p : Nat} {T : Tr} {B : Nat} {sv : Int → Value} {D : DataW Value} (h : TreeIs w p T B sv D) (n : Int) (hn : wf n) (x : Nd) (s : Value) (hs : EntsAt w s x.ents) (hc : T.cnt < 1000000) :
    ∃ w', (Instr.mapUpdate 140 (.map (some B)) (.int .i64 n) (ndV x s)).run Try.prog w = .ok () w' ∧ TreeB w' p B (T.set n x) ∧ Frm w w' p B := by
  have hkey : keyOf Try.prog 3 (.int .i64 n) = some (.int .i64 n) := Maps.keyOf_int_mk Try.underlying3 hn
  have hkl : WideAt.IsKeyLit (.int .i64 n) := by simp [WideAt.IsKeyLit]
  obtain ⟨es, clock, hb⟩ := h.mapB
  obtain ⟨w', hrun, hown, hturn⟩ := h.map.store keyed Try.underlying140 (by rw [h.cnt]; unfold maxLen; omega) hkey (d := .held (ndV x s)) (ps := []) rfl
  have hg := hturn.grown
  have hf : Frm w w' p B := ⟨hg.os, hg.tape, hg.output, hg.size, fun k hk _ h2 => hg.block k hk (fun e => h2 (Option.some.inj e))⟩
  have hsz : Maps.size (D.put (.int .i64 n) (.held (ndV x s))) = (T.set n x).cnt := by
    rw [Maps.size_put (h.map.tidy keyed), h.has n hn, h.cnt]; rfl
  refine ⟨w', hrun, ⟨fun m => if m = n then s else sv m, _, ⟨(hg.block p (blk_lt h.ptr) (fun e => h.ne (Option.some.inj e))).trans h.ptr, ownsMap_fit hown, hsz, fun m hm => ?_, fun m z hm => ?_, fun m y hm hy => ?_⟩⟩, hf⟩
  · by_cases e : m = n
    · subst e
      rw [Maps.has_put_same h.map.isMap hkl]
      simp [Tr.set]
    · rw [Maps.has_put_other (by intro e2; injection e2 with _ e2; exact e e2), h.has m hm]
      simp [Tr.set, e]
  · by_cases e : m = n
    · subst e
      rw [Maps.atKey_put_same h.map.isMap hkl]
      simp [Tr.set]
    · rw [Maps.atKey_put_other (by intro e2; injection e2 with _ e2; exact e e2), h.at_ m z hm]
      simp [Tr.set, e]
  · by_cases e : m = n
    · subst e
      simp [Tr.set] at hy
      subst hy
      simp only [if_true]
      exact hs.frm h.ptr hb hf
    · simp [Tr.set, e] at hy
      simp only [if_neg e]
      exact EntsAt.frm (h.ents m y hm hy) h.ptr hb hf
theorem TreeIs.bump {w : World} {p : Nat} {T : Tr} {B : Nat} {sv : Int → Value} {D : DataW Value} (h : TreeIs w p T B sv D) :
    TreeB (w.setCell ⟨p, 1, none⟩ (.int .i64 (T.last + 1))) p B T.bump ∧ Frm w (w.setCell ⟨p, 1, none⟩ (.int .i64 (T.last + 1))) p B := by
  obtain ⟨es, clock, hb⟩ := h.mapB
  have hk : ∀ k, k ≠ p → (w.setCell ⟨p, 1, none⟩ (.int .i64 (T.last + 1))).heap[k]? = w.heap[k]? := fun k hk => Below.heap_setCell w _ _ k hk
  have hf : Frm w (w.setCell ⟨p, 1, none⟩ (.int .i64 (T.last + 1))) p B := ⟨rfl, rfl, rfl, by simp, fun k _ h1 _ => hk k h1⟩
  refine ⟨⟨sv, D, ⟨?_, h.map.setCell h.ne.symm _, h.cnt, h.has, h.at_, fun m y hm hy => EntsAt.frm (h.ents m y hm hy) h.ptr hb hf⟩⟩, hf⟩
  rw [setCell_eq_setRow w p 1 _ _ _ _ h.ptr, setRow_heap w p _ _ _ _ h.ptr]
  rfl
end Go.Proofs.Ytjfigngmpagloaa.Tw
