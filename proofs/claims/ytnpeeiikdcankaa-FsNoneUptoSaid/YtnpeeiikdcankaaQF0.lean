/- Texts of this session, merged: Range, Spec, Shelf, PathA, WWords, PathB, AnyB, PathC, ExtPath, WLast, WTab, WQPut, WApart, WArr, WZeros, WFoot, WKept, WShare, WN, WEqStruct, WRepsOne, WGuard, WNEv, WMore, X0, Cmp, X2, Tree, Pure0, Ents, Insert, EntPut. -/
import Derived.RangeFuncNested
import Derived.RangeFuncBound
import Derived.RangeFuncCalls
import Derived.RangeFuncLeaves
import Derived.Lib.IndexLaws
import Derived.Lib.Bytes
import Derived.Lib.Join
import Derived.Lib.IndexAny
import Derived.Shelf.Small.Utf8
import Derived.Shelf.Small.Strs
import Derived.Shelf.Strings.Search1
import Derived.Shelf.Strings.Search2
import Derived.Shelf.Strings.Cut
import Derived.Shelf.LaysM
import Derived.Shelf.Strings.Shaped
import Derived.Shelf.Strings.Prefix
import Derived.Shelf.Strings.Runes
import Derived.Shelf.Strings.IndexAny
import Derived.Shelf.Strings.AsciiSet
import Derived.Shelf.Strings.IndexAnyAll
import Derived.Ground.Names2Prog
import Derived.Shelf.Slices.Clone
import Derived.Ground.SlgnProg
import Derived.Shelf.SlicesE.Clone
import Derived.Test.YtnpeeiikdcankaaProg
import Derived.RangeFuncBox
import Derived.Shelf.Abstract
import Derived.WalkKit
import Derived.WalkSpells
import Derived.OwnWalkIn
import Derived.TacticsInMore
import Derived.LoopNIn
import Derived.LoopIn
import Derived.Maps.AppendAt
import Derived.Deep.QuietTactic
import Derived.BigQuiet
import Derived.OpenShut
import Derived.Lib.Hide
import Derived.Below
import Derived.Deep.Draws
import Derived.Deep.AppendLies
import Derived.OwnWalk
import Derived.Laws.BytesArg
import Derived.Laws.MakeOwn
import Derived.Laws.OwnMore
import Derived.Deep.OwnRows
import Derived.Tactics
import Derived.Lib.ConvBytes
import Derived.Laws.Slices
import Derived.KernelRfl
import Derived.RowKit3
import Derived.Deep.LoopGhost
import Derived.WideLaws
import Derived.Deep.DeepCutAuto
import Derived.Deep.CutBlock
import Derived.Deep.RegionHeld3
import Derived.Laws.Rows
import Derived.Lib.AppendStr
import Derived.ArgAppend
import Derived.Laws.IdiomCopy
import Derived.RowKit
import Derived.WalkSmall
import Derived.Lib.OthersKept
import Derived.Lib.TrimU
import Derived.Laws.Runes
import Derived.IntWalk
import Derived.WalkMore
import Derived.OrdersHeld
import Derived.Laws.BitsLemmas
import Derived.Laws.StructEq
import Derived.WalkLawsBesides
import Derived.LoopTactic
import Derived.Outline
import Derived.Maps.OwnSet
import Derived.Lib.Overlaps
import Derived.Lib.AppendZerosOnto
import Derived.Laws.CopyOwn
import Derived.Laws.Externs
set_option linter.unusedVariables false
set_option linter.unusedSimpArgs false

set_option maxHeartbeats 8000000
set_option maxRecDepth 1000000
theorem Go.Proofs.Ytnpeeiikdcankaa.qh {p : Prop} (h : p) : Go.RowKit.Hid p := Go.Lib.hid h
namespace Go.Proofs.Ytnpeeiikdcankaa.Rg
open Go Go.RowKit
variable {F : Fence} {n : Nat} {P : Program}
def Iter {α : Type} (F : Fence) (n : Nat) (P : Program) (g : Nat) (lb : Array Value) (encs : α → Array Value) (Bs : Nat) (t : TypeId) (xs : List α) (w : World) : Prop :=
 ∀ (l : Nat) (J Jx : List α → World → Prop) (W : World), Below w.heap.size w W → AbidesFrom W.heap.size J → AbidesFrom W.heap.size Jx →
  (∀ pre W1 v, J pre W1 → J pre (W1.setCell ⟨Bs, 0, none⟩ v)) →
  (∀ pre x W1, J pre W1 → pre ++ [x] <+: xs → YieldAt F (n - 1) P l (encs x) W1 fun e W' =>
   (e = .returned (.bool true) ∧ J (pre ++ [x]) W' ∧ (∀ v, Boxed W1 Bs t v → Boxed W' Bs t v)) ∨ (e = .returned (.bool false) ∧ Jx (pre ++ [x]) W')) →
  J [] W →
  CallsIn F n P g (#[.func (.yield l) #[] #[]] ++ lb) W fun e W' => (∃ v, e = .returned v) ∧ (J xs W' ∨ (∃ pre, pre <+: xs ∧ Jx pre W'))
def post {α : Type} (Bs : Nat) (t : TypeId) (I : List α → World → Prop) (Ix : Code → List α → World → Prop) (xs : List α) (W : World) : Exit → Act → World → Prop
 | .normal, _, W' => KeepsOthers W W' ∧ (∀ v, Boxed W Bs t v → Boxed W' Bs t v) ∧ I xs W'
 | .ret, _, W' => KeepsOthers W W' ∧ Ix .ret xs W'
 | .exit id, _, W' => KeepsOthers W W' ∧ Ix (.exit id) xs W'
 | .goto t, _, W' => KeepsOthers W W' ∧ Ix (.goto t) xs W'
 | .panic _, _, _ => False
 | .outgrown, _, _ => False
theorem boxed_putObj {W : World} {B l : Nat} {t : TypeId} {v : Value} (h : Boxed W B t v) (o : Obj) (hne : B ≠ l) : Boxed (W.putObj l o) B t v := (World.putObj_heap_other hne).trans h
theorem heap_setCell_other {W : World} {B k : Nat} {v : Value} (hne : k ≠ B) : (W.setCell ⟨B, 0, none⟩ v).heap[k]? = W.heap[k]? := Below.heap_setCell W ⟨B, 0, none⟩ v k hne
theorem wpIn_range {α : Type} {g : Operand} {ps : Array Tmp} {assign body : Code} {Q : Exit → Act → World → Prop} {a : Act} {w : World}
  (hro : F.round = none) (h1 : 1 ≤ n) {gf : Nat} {lb : Array Value} (hg : a.eval g = .func (.func gf) #[] lb) (hFg : F.fn gf) (eg : ∀ args w, (callFunc gf args).run P w = .ok (.enter gf args) w)
  {encs : α → Array Value} {Bs : Nat} {t : TypeId} {xs : List α} {w0 : World} (hseq : Iter F (n - 1) P gf lb encs Bs t xs w0) (hBs : Bs < w.heap.size)
  (hb0 : Below w0.heap.size w0 w) (hps : ∀ x, (encs x).size = ps.size)
  (I : List α → World → Prop) (Ix : Code → List α → World → Prop) (hI : OwnFrom w.heap.size I) (hIx : ∀ c, OwnFrom w.heap.size (Ix c))
  (hIs : ∀ pre W v, I pre W → I pre (W.setCell ⟨Bs, 0, none⟩ v)) (h0 : I [] w) (a₁ : α → Act)
  (hassign : ∀ (l : Nat) (x : α) (W : World) (K : Act → World → Prop), K (a₁ x) W →
   assign.wpIn (F.inRound l) (n - 1 - 1) P (Exit.then K (fun _ _ _ => False)) { tmps := (ps.zip (encs x)).foldl (fun t (p, v) => t.setIfInBounds p v) a.tmps, defers := [] } W)
  (hbody : ∀ (l : Nat) (pre : List α) (x : α) (W : World), I pre W → pre ++ [x] <+: xs → body.wpIn (F.inRound l) (n - 1 - 1) P (post Bs t I Ix (pre ++ [x]) W) (a₁ x) W)
  (hdone : ∀ (D : Nat) (W : World), w.heap.size ≤ D → I xs W → W.heap[D]? = some (.deferred (some [])) → Q .normal { a with defers := { target := .collected D, args := #[] } :: a.defers } W)
  (hstop : ∀ (D : Nat) (c : Code) (pre : List α) (W : World), w.heap.size ≤ D → pre <+: xs → Ix c pre W → W.heap[D]? = some (.deferred (some [])) → c.wpIn F n P Q { a with defers := { target := .collected D, args := #[] } :: a.defers } W) :
  (Code.rangeFunc g ps assign body).wpIn F n P Q a w := by
 refine wpIn_rangeFunc fun fn hfn => ?_
 rw [hro]
 obtain ⟨L, hL⟩ : ∃ L : LoopState → Option Code → Loop, L = fun st pe => { state := st, pending := pe, fn, tmps := a.tmps, params := ps, assign, body, defers := w.heap.size } := ⟨_, rfl⟩
 obtain ⟨W1, hW1⟩ : ∃ W1, (w.alloc (.deferred (some []))).alloc (.loop (L .ready none)) = W1 := ⟨_, rfl⟩
 have lay1 : W1.heap[w.heap.size + 1]? = some (.loop (L .ready none)) := by
  rw [← hW1]; have := World.alloc_heap_new (w.alloc (.deferred (some []))) (.loop (L .ready none)); rwa [World.size_alloc] at this
 have lay0 : W1.heap[w.heap.size]? = some (.deferred (some [])) := by
  rw [← hW1]; exact (Below.heap_alloc _ _ _ (by simp)).trans (World.alloc_heap_new w _)
 have inv1 : I [] W1 := by rw [← hW1]; exact hI.alloc _ (hI.alloc _ h0)
 have below1 : Below w0.heap.size w0 W1 := by
  rw [← hW1]; exact hb0.trans ((((Below.refl _ w).alloc (Nat.le_refl _) _).alloc (by simp) _).mono hb0.size)
 refine ⟨w.heap.size + 1, [{ target := .collected w.heap.size, args := #[] }], W1, { target := .fn (.func gf) lb, args := #[.func (.yield (w.heap.size + 1)) #[] #[]] }, W1, gf,
  #[.func (.yield (w.heap.size + 1)) #[] #[]] ++ lb, W1, ?_, ?_, ?_, ?_, fun _ => h1, ?_⟩
 · rw [← hW1, hL]; exact run_enterLoop_outer _ _ _ _ _
 ·
  simp only [resolve, hg]
  simp [go_sem]
 · intro f' hf'; simp [Target.leads] at hf'; subst hf'; exact hFg
 · simp [invoke, go_sem, eg]
 ·
  have walk : ∀ {A B : World} {row : Option Nat}, (∀ r, row = some r → W1.heap.size ≤ r ∧ ∃ o : Obj, A.heap[r]? = some o ∧ o.isWalk = true) → (∀ r, row = some r → w.heap.size ≤ r ∧ ∃ o : Obj, A.heap[r]? = some o ∧ o.isCells = false) :=
   fun hr r e => by obtain ⟨hB, o, ho, hw⟩ := hr r e; exact ⟨by rw [← hW1] at hB; simp at hB; omega, o, ho, Obj.not_cells_of_walk hw⟩
  refine (hseq (w.heap.size + 1)
   (fun pre W => I pre W ∧ W.heap[w.heap.size + 1]? = some (.loop (L .ready none)) ∧ W.heap[w.heap.size]? = some (.deferred (some [])))
   (fun pre W => ∃ c, Ix c pre W ∧ W.heap[w.heap.size + 1]? = some (.loop (L .done (some c))) ∧ W.heap[w.heap.size]? = some (.deferred (some [])))
   W1 below1
   (fun s A B row hs hg' hr => ⟨hI s A B row hs.1 hg' (walk (B := B) hr), (grownBy_keeps hg' (fun r e => (hr r e).2) hs.2.1 rfl).trans hs.2.1, (grownBy_keeps hg' (fun r e => (hr r e).2) hs.2.2 rfl).trans hs.2.2⟩)
   (fun s A B row ⟨c, hc, hl, hk⟩ hg' hr => ⟨c, hIx c s A B row hc hg' (walk (B := B) hr), (grownBy_keeps hg' (fun r e => (hr r e).2) hl rfl).trans hl, (grownBy_keeps hg' (fun r e => (hr r e).2) hk rfl).trans hk⟩)
   (fun pre W v hs => ⟨hIs pre W v hs.1, (heap_setCell_other (by omega)).trans hs.2.1, (heap_setCell_other (by omega)).trans hs.2.2⟩)
   ?_ ⟨inv1, lay1, lay0⟩).mono ?_
  ·
   rintro pre x W ⟨hi, hl, hk⟩ hpx
   have hlt : w.heap.size + 1 < W.heap.size := (Array.getElem?_eq_some_iff.1 hl).1
   have hy := run_yield (P := P) (args := encs x) hl (by rw [hL]; exact hps x)
   rw [hL] at hy
   refine ⟨fn, _, assign, body, hy, roundIn_of_wpIn hfn (hassign _ x W _ ⟨_, run_beginRound hl (by rw [hL]), ?_⟩)⟩
   have hl2 : (W.putObj (w.heap.size + 1) (.loop { L .ready none with state := .busy })).heap[w.heap.size + 1]? = some (.loop { L .ready none with state := .busy }) := World.putObj_heap_same hlt
   have hk2 : (W.putObj (w.heap.size + 1) (.loop { L .ready none with state := .busy })).heap[w.heap.size]? = some (.deferred (some [])) := (World.putObj_heap_other (by omega)).trans hk
   refine wpIn_mono (hbody _ pre x _ (hI.putObj _ hi (by omega) hl rfl) hpx) ?_
   have fin : ∀ (jump : Option Code) (W3 : World), KeepsOthers (W.putObj (w.heap.size + 1) (.loop { L .ready none with state := .busy })) W3 →
     (Instr.endRound (w.heap.size + 1) jump).run P W3 = .ok (.bool jump.isNone) (W3.putObj (w.heap.size + 1) (.loop (L (if jump.isNone then .ready else .done) jump))) ∧
     W3.heap[w.heap.size + 1]? = some (.loop { L .ready none with state := .busy }) ∧
     (W3.putObj (w.heap.size + 1) (.loop (L (if jump.isNone then .ready else .done) jump))).heap[w.heap.size + 1]? = some (.loop (L (if jump.isNone then .ready else .done) jump)) ∧
     (W3.putObj (w.heap.size + 1) (.loop (L (if jump.isNone then .ready else .done) jump))).heap[w.heap.size]? = some (.deferred (some [])) := fun jump W3 hk3 => by
    have hl3 := hk3.same _ _ hl2 rfl
    have := run_endRound (P := P) jump hl3
    rw [hL] at this ⊢
    exact ⟨this, by rw [hL] at hl3; exact hl3, World.putObj_heap_same (Array.getElem?_eq_some_iff.1 hl3).1, (World.putObj_heap_other (by omega)).trans (hk3.same _ _ hk2 rfl)⟩
   rintro e a3 W3 hp
   cases e with
   | normal =>
    obtain ⟨hk3, hkp3, hi3⟩ := hp
    obtain ⟨hr, hl3, hl4, hk4⟩ := fin none W3 hk3
    exact ⟨_, _, hr, .inl ⟨rfl, ⟨hI.putObj _ hi3 (by omega) hl3 rfl, hl4, hk4⟩, fun v hv => boxed_putObj (hkp3 v (boxed_putObj hv _ (by omega))) _ (by omega)⟩⟩
   | ret =>
    obtain ⟨hk3, hi3⟩ := hp
    obtain ⟨hr, hl3, hl4, hk4⟩ := fin (some .ret) W3 hk3
    exact ⟨_, _, hr, .inr ⟨rfl, .ret, (hIx _).putObj _ hi3 (by omega) hl3 rfl, hl4, hk4⟩⟩
   | exit id =>
    obtain ⟨hk3, hi3⟩ := hp
    obtain ⟨hr, hl3, hl4, hk4⟩ := fin (some (.exit id)) W3 hk3
    exact ⟨_, _, hr, .inr ⟨rfl, .exit id, (hIx _).putObj _ hi3 (by omega) hl3 rfl, hl4, hk4⟩⟩
   | goto t =>
    obtain ⟨hk3, hi3⟩ := hp
    obtain ⟨hr, hl3, hl4, hk4⟩ := fin (some (.goto t)) W3 hk3
    exact ⟨_, _, hr, .inr ⟨rfl, .goto t, (hIx _).putObj _ hi3 (by omega) hl3 rfl, hl4, hk4⟩⟩
   | panic ch => exact hp.elim
   | outgrown => exact hp.elim
  ·
   rintro e W2 ⟨⟨v, rfl⟩, (⟨hi, hl, hk⟩ | ⟨pre, hSp, c, hi, hl, hk⟩)⟩
   · exact ⟨none, _, by have := run_endLoop (P := P) hl (by rw [hL]; simp); rw [hL] at this; exact this, hdone _ _ (Nat.le_refl _) (hI.putObj _ hi (by omega) hl rfl) ((World.putObj_heap_other (by omega)).trans hk)⟩
   · exact ⟨some c, _, by have := run_endLoop (P := P) hl (by rw [hL]; simp); rw [hL] at this; exact this, hstop _ c pre _ (Nat.le_refl _) hSp ((hIx c).putObj _ hi (by omega) hl rfl) ((World.putObj_heap_other (by omega)).trans hk)⟩
end Go.Proofs.Ytnpeeiikdcankaa.Rg

namespace Go.Proofs.Ytnpeeiikdcankaa.Sp
open Go Go.Lib
def mk (l : List UInt8) : ByteArray := ⟨l.toArray⟩
@[simp] theorem mk_data (l : List UInt8) : (mk l).data.toList = l := by simp [mk]
theorem mk_toList (l : List UInt8) : (mk l).toList = l := by rw [toList_data, mk_data]
theorem mk_of (s : ByteArray) : mk s.data.toList = s := by
 apply ByteArray.ext
 simp [mk]
theorem mk_size (l : List UInt8) : (mk l).size = l.length := by simp [mk, ByteArray.size]
theorem size_eq (s : ByteArray) : s.size = s.data.toList.length := by rw [Array.length_toList]; rfl
def keep (now : List UInt8) (r : List (List UInt8)) : List (List UInt8) := if now = [] ∨ now = [46] then r else now :: r
def go (now : List UInt8) : List UInt8 → List (List UInt8)
 | [] => keep now []
 | c :: l => if c = 47 then keep now (go [] l) else go (now ++ [c]) l
def parts (s : List UInt8) : List (List UInt8) := go [] s
def climb (out : List (List UInt8)) (p : List UInt8) : List (List UInt8) := if p = [46, 46] then out.dropLast else out ++ [p]
def climbs (l : List (List UInt8)) : List (List UInt8) := l.foldl climb []
def text (l : List (List UInt8)) : List UInt8 := 47 :: Lib.join l [47]
def clean (s : List UInt8) : List UInt8 := text (climbs (parts s))
theorem go_none (now l : List UInt8) (h : ∀ k : Nat, l[k]? ≠ some (47 : UInt8)) : go now l = keep (now ++ l) [] := by
 induction l generalizing now with
 | nil => simp [go]
 | cons c l ih =>
  have hc : c ≠ 47 := fun e => h 0 (by simp [e])
  rw [go, if_neg hc, ih _ (fun k => by simpa using h (k + 1))]
  simp
theorem go_at (now : List UInt8) (o : Nat) (l : List UInt8) (h : l[o]? = some (47 : UInt8)) (hb : ∀ k : Nat, k < o → l[k]? ≠ some (47 : UInt8)) : go now l = keep (now ++ l.take o) (go [] (l.drop (o + 1))) := by
 induction o generalizing now l with
 | zero =>
  cases l with
  | nil => simp at h
  | cons c l =>
   obtain rfl : c = 47 := by simpa using h
   rw [go, if_pos rfl]
   simp
 | succ o ih =>
  cases l with
  | nil => simp at h
  | cons c l =>
   have hc : c ≠ 47 := fun e => hb 0 (by omega) (by simp [e])
   rw [go, if_neg hc, ih _ _ (by simpa using h) (fun k hk => by simpa using hb (k + 1) (by omega))]
   simp
theorem parts_none (s : List UInt8) (h : indexByte s 47 = -1) : parts s = keep s [] := by
 rw [parts, go_none _ _ (indexByte_none h), List.nil_append]
theorem parts_at (s : List UInt8) (o : Nat) (h : indexByte s 47 = o) : parts s = keep (s.take o) (parts (s.drop (o + 1))) := by
 obtain ⟨h1, h2⟩ := indexByte_some h
 rw [parts, go_at _ o _ h1 h2, List.nil_append, parts]
@[simp] theorem parts_nil : parts [] = [] := by simp [parts, go, keep]
theorem keep_app (now : List UInt8) (r : List (List UInt8)) : keep now r = keep now [] ++ r := by unfold keep; split <;> simp
theorem keep_len (now : List UInt8) (r : List (List UInt8)) : (keep now r).length ≤ now.length + r.length := by
 unfold keep
 split
 · omega
 ·
  rename_i h
  cases now with
  | nil => simp at h
  | cons c l => simp; omega
theorem go_len (now l : List UInt8) : (go now l).length ≤ now.length + l.length := by
 induction l generalizing now with
 | nil => rw [go]; have := keep_len now []; simpa using this
 | cons c l ih =>
  rw [go]
  split
  ·
   have h1 := keep_len now (go [] l)
   have h2 := ih []
   simp at h2 ⊢
   omega
  ·
   have := ih (now ++ [c])
   simp at this ⊢
   omega
theorem parts_len (s : List UInt8) : (parts s).length ≤ s.length := by have := go_len [] s; simpa [parts] using this
def room (l : List (List UInt8)) : Nat := (l.map fun x => x.length + 1).sum
@[simp] theorem room_nil : room [] = 0 := rfl
@[simp] theorem room_cons (x : List UInt8) (l : List (List UInt8)) : room (x :: l) = x.length + 1 + room l := by simp [room]
theorem room_append (l m : List (List UInt8)) : room (l ++ m) = room l + room m := by simp [room]
theorem keep_room (now : List UInt8) (r : List (List UInt8)) : room (keep now r) ≤ now.length + 1 + room r := by
 unfold keep
 split
 · omega
 · simp
theorem go_room (now l : List UInt8) : room (go now l) ≤ now.length + l.length + 1 := by
 induction l generalizing now with
 | nil => rw [go]; have := keep_room now []; simpa using this
 | cons c l ih =>
  rw [go]
  split
  ·
   have h1 := keep_room now (go [] l)
   have h2 := ih []
   simp at h2 ⊢
   omega
  ·
   have := ih (now ++ [c])
   simp at this ⊢
   omega
theorem parts_room (s : List UInt8) : room (parts s) ≤ s.length + 1 := by have := go_room [] s; simpa [parts] using this
def check (s : List UInt8) : Int := if s = [] then 5 else if 64 < s.length ∨ (47 ∈ s ∨ 0 ∈ s) then 11 else if s = [46] ∨ s = [46, 46] then 6 else 0
def right (s : List UInt8) : Bool := decide (check s = 0)
theorem containsAny_iff (s chars : List UInt8) : Lib.containsAny s chars = true ↔ ∃ b ∈ s, b ∈ chars := by
 rw [Lib.containsAny, decide_eq_true_eq]
 induction s with
 | nil => simp [Lib.indexAny]
 | cons b l ih =>
  have hge := Lib.indexAny_ge chars l
  unfold Lib.indexAny
  by_cases h : chars.contains b = true
  ·
   rw [if_pos h]
   exact ⟨fun _ => ⟨b, by simp, by simpa using h⟩, fun _ => Int.le_refl _⟩
  ·
   rw [if_neg h]
   have hb : b ∉ chars := by simpa using h
   by_cases h2 : (Lib.indexAny l chars == -1) = true
   ·
    rw [if_pos h2]
    have h3 : Lib.indexAny l chars = -1 := by simpa using h2
    constructor
    · intro h4; omega
    ·
     rintro ⟨x, hx, hc⟩
     rcases List.mem_cons.1 hx with rfl | hx
     · exact absurd hc hb
     · have := ih.2 ⟨x, hx, hc⟩; omega
   ·
    rw [if_neg h2]
    have h3 : Lib.indexAny l chars ≠ -1 := by simpa using h2
    constructor
    ·
     intro _
     obtain ⟨x, hx, hc⟩ := ih.1 (by omega)
     exact ⟨x, List.mem_cons_of_mem _ hx, hc⟩
    · intro _; omega
end Go.Proofs.Ytnpeeiikdcankaa.Sp

namespace Go.Proofs
open Go.Shelf
def Try.lays119_ren : Go.Shelf.Ren := ⟨fun | 119 => 92 | n => n, fun | 21 => 21 | 4 => 4 | n => n, fun | n => n⟩
theorem Try.lays119 : Go.Proofs.Lays.n119 Try.prog Try.lays119_ren := {
 mixed := by kernel_rfl
 f119 := Try.func92.trans (congrArg some (by kernel_rfl))
 t4 := Try.underlying4
 a4 := Try.isAgg4
 z4 := Try.sizeOf4
 v4 := Try.zeroValue4
 t21 := Try.underlying21
 a21 := Try.isAgg21
 z21 := Try.sizeOf21
 v21 := Try.zeroValue21 }
theorem Try.utf8_ValidRune (r : Int) (w : World) :
  Calls Try.prog 92 #[.int .i32 r] w fun e w' => e = .returned (.bool (Lib.validRune r)) ∧ w' = w := Any.utf8_ValidRune Try.lays119 r w
def Try.lays137_ren : Go.Shelf.Ren := ⟨fun | 137 => 91 | 217 => 96 | 266 => 98 | n => n, fun | 9 => 9 | 5 => 5 | 3 => 3 | n => n, fun | n => n⟩
theorem Try.lays137 : Go.Proofs.Lays.n137 Try.prog Try.lays137_ren := {
 mixed := by kernel_rfl
 f137 := Try.func91.trans (congrArg some (by kernel_rfl))
 f217 := Try.func96.trans (congrArg some (by kernel_rfl))
 f266 := Try.func98.trans (congrArg some (by kernel_rfl))
 t3 := Try.underlying3
 a3 := Try.isAgg3
 z3 := Try.sizeOf3
 v3 := Try.zeroValue3
 t5 := Try.underlying5
 a5 := Try.isAgg5
 z5 := Try.sizeOf5
 v5 := Try.zeroValue5
 t9 := Try.underlying9
 a9 := Try.isAgg9
 z9 := Try.sizeOf9
 v9 := Try.zeroValue9 }
open Go.RowKit in
theorem Try.strings_IndexByte (s : ByteArray) (c : Int) (w : World) :
  Calls Try.prog 91 #[.string s, .int .u8 c] w fun e w' => e = .returned (.int .i64 (Lib.indexByte s.data.toList c.toNat.toUInt8)) ∧ w' = w := Any.strings_IndexByte Try.lays137 s c w
def Try.lays219_ren : Go.Shelf.Ren := ⟨fun | 219 => 90 | 217 => 96 | 225 => 94 | 224 => 93 | 267 => 97 | 266 => 98 | 314 => 99 | n => n, fun | 9 => 9 | 3 => 3 | 4 => 4 | 5 => 5 | 46 => 114 | 146 => 126 | 51 => 125 | n => n, fun | 1 => 0 | n => n⟩
theorem Try.lays219 : Go.Proofs.Lays.n219 Try.prog Try.lays219_ren := {
 mixed := by kernel_rfl
 f217 := Try.func96.trans (congrArg some (by kernel_rfl))
 f219 := Try.func90.trans (congrArg some (by kernel_rfl))
 f224 := Try.func93.trans (congrArg some (by kernel_rfl))
 f225 := Try.func94.trans (congrArg some (by kernel_rfl))
 f266 := Try.func98.trans (congrArg some (by kernel_rfl))
 f267 := Try.func97.trans (congrArg some (by kernel_rfl))
 f314 := Try.func99.trans (congrArg some (by kernel_rfl))
 t3 := Try.underlying3
 a3 := Try.isAgg3
 z3 := Try.sizeOf3
 v3 := Try.zeroValue3
 t4 := Try.underlying4
 a4 := Try.isAgg4
 z4 := Try.sizeOf4
 v4 := Try.zeroValue4
 t5 := Try.underlying5
 a5 := Try.isAgg5
 z5 := Try.sizeOf5
 v5 := Try.zeroValue5
 t9 := Try.underlying9
 a9 := Try.isAgg9
 z9 := Try.sizeOf9
 v9 := Try.zeroValue9
 t46 := Try.underlying114
 a46 := Try.isAgg114
 z46 := Try.sizeOf114
 v46 := Try.zeroValue114
 t51 := Try.underlying125
 a51 := Try.isAgg125
 z51 := Try.sizeOf125
 v51 := Try.zeroValue125
 t146 := Try.underlying126
 a146 := Try.isAgg126
 z146 := Try.sizeOf126
 v146 := Try.zeroValue126
 g1 := by kernel_rfl }
open Go.RowKit Go.Lib in
theorem Try.stringslite_Index_one (s : ByteArray) (c : UInt8) (w : World) :
  Calls Try.prog 90 #[.string s, .string ⟨#[c]⟩] w fun e w' => e = .returned (.int .i64 (Lib.indexByte s.data.toList c)) ∧ w' = w := Any.stringslite_Index_one Try.lays219 s c w
def Try.lays99_ren : Go.Shelf.Ren := ⟨fun | 99 => 78 | 206 => 84 | n => n, fun | 9 => 9 | 4 => 4 | 3 => 3 | n => n, fun | n => n⟩
theorem Try.lays99 : Go.Proofs.Lays.n99 Try.prog Try.lays99_ren := {
 mixed := by kernel_rfl
 f99 := Try.func78.trans (congrArg some (by kernel_rfl))
 f206 := Try.func84.trans (congrArg some (by kernel_rfl))
 t3 := Try.underlying3
 a3 := Try.isAgg3
 z3 := Try.sizeOf3
 v3 := Try.zeroValue3
 t4 := Try.underlying4
 a4 := Try.isAgg4
 z4 := Try.sizeOf4
 v4 := Try.zeroValue4
 t9 := Try.underlying9
 a9 := Try.isAgg9
 z9 := Try.sizeOf9
 v9 := Try.zeroValue9 }
open Go.RowKit Go.Lib in
theorem Try.strings_HasPrefix (s p : ByteArray) (w : World) :
  Calls Try.prog 78 #[.string s, .string p] w fun e w' => e = .returned (.bool (Lib.hasPrefix s.data.toList p.data.toList)) ∧ w' = w := Any.strings_HasPrefix Try.lays99 s p w
def Try.lays152_ren : Go.Shelf.Ren := ⟨fun | 152 => 85 | 137 => 91 | 119 => 92 | 224 => 93 | 225 => 94 | 217 => 96 | 266 => 98 | n => n, fun | 9 => 9 | 21 => 21 | 3 => 3 | 4 => 4 | 5 => 5 | 0 => 0 | 46 => 114 | n => n, fun | n => n⟩
theorem Try.lays152 : Go.Proofs.Lays.n152 Try.prog Try.lays152_ren := {
 mixed := by kernel_rfl
 f119 := Try.func92.trans (congrArg some (by kernel_rfl))
 f137 := Try.func91.trans (congrArg some (by kernel_rfl))
 f152 := Try.func85.trans (congrArg some (by kernel_rfl))
 f217 := Try.func96.trans (congrArg some (by kernel_rfl))
 f224 := Try.func93.trans (congrArg some (by kernel_rfl))
 f225 := Try.func94.trans (congrArg some (by kernel_rfl))
 f266 := Try.func98.trans (congrArg some (by kernel_rfl))
 t0 := Try.underlying0
 a0 := Try.isAgg0
 z0 := Try.sizeOf0
 v0 := Try.zeroValue0
 t3 := Try.underlying3
 a3 := Try.isAgg3
 z3 := Try.sizeOf3
 v3 := Try.zeroValue3
 t4 := Try.underlying4
 a4 := Try.isAgg4
 z4 := Try.sizeOf4
 v4 := Try.zeroValue4
 t5 := Try.underlying5
 a5 := Try.isAgg5
 z5 := Try.sizeOf5
 v5 := Try.zeroValue5
 t9 := Try.underlying9
 a9 := Try.isAgg9
 z9 := Try.sizeOf9
 v9 := Try.zeroValue9
 t21 := Try.underlying21
 a21 := Try.isAgg21
 z21 := Try.sizeOf21
 v21 := Try.zeroValue21
 t46 := Try.underlying114
 a46 := Try.isAgg114
 z46 := Try.sizeOf114
 v46 := Try.zeroValue114 }
open Go.RowKit Go.Lib in
theorem Try.strings_IndexRune_ascii (s : ByteArray) (r : Int) (w : World) (h0 : 0 ≤ r) (h1 : r < 128) :
  Calls Try.prog 85 #[.string s, .int .i32 r] w fun e w' => e = .returned (.int .i64 (Lib.indexByte s.data.toList r.toNat.toUInt8)) ∧ w' = w := Any.strings_IndexRune_ascii Try.lays152 s r w h0 h1
def Try.lays226_ren : Go.Shelf.Ren := ⟨fun | 226 => 86 | n => n, fun | 3 => 3 | 4 => 4 | n => n, fun | n => n⟩
theorem Try.lays226 : Go.Proofs.Lays.n226 Try.prog Try.lays226_ren := {
 mixed := by kernel_rfl
 f226 := Try.func86.trans (congrArg some (by kernel_rfl))
 t3 := Try.underlying3
 a3 := Try.isAgg3
 z3 := Try.sizeOf3
 v3 := Try.zeroValue3
 t4 := Try.underlying4
 a4 := Try.isAgg4
 z4 := Try.sizeOf4
 v4 := Try.zeroValue4 }
open Go.RowKit Go.Lib in
theorem Try.strings_shouldUseASCIISet (n : Int) (w : World) :
  Calls Try.prog 86 #[.int .i64 n] w fun e w' => e = .returned (.bool (decide (8 < n))) ∧ w' = w := Any.strings_shouldUseASCIISet Try.lays226 n w
def Try.lays153_ren : Go.Shelf.Ren := ⟨fun | 153 => 79 | 152 => 85 | 226 => 86 | 227 => 87 | 228 => 88 | 137 => 91 | 119 => 92 | 224 => 93 | 225 => 94 | 217 => 96 | 266 => 98 | n => n, fun | 9 => 9 | 3 => 3 | 4 => 4 | 5 => 5 | 21 => 21 | 117 => 118 | 116 => 117 | 0 => 0 | 46 => 114 | 124 => 123 | n => n, fun | n => n⟩
theorem Try.lays153 : Go.Proofs.Lays.n153 Try.prog Try.lays153_ren := {
 mixed := by kernel_rfl
 f119 := Try.func92.trans (congrArg some (by kernel_rfl))
 f137 := Try.func91.trans (congrArg some (by kernel_rfl))
 f152 := Try.func85.trans (congrArg some (by kernel_rfl))
 f153 := Try.func79.trans (congrArg some (by kernel_rfl))
 f217 := Try.func96.trans (congrArg some (by kernel_rfl))
 f224 := Try.func93.trans (congrArg some (by kernel_rfl))
 f225 := Try.func94.trans (congrArg some (by kernel_rfl))
 f226 := Try.func86.trans (congrArg some (by kernel_rfl))
 f227 := Try.func87.trans (congrArg some (by kernel_rfl))
 f228 := Try.func88.trans (congrArg some (by kernel_rfl))
 f266 := Try.func98.trans (congrArg some (by kernel_rfl))
 t0 := Try.underlying0
 a0 := Try.isAgg0
 z0 := Try.sizeOf0
 v0 := Try.zeroValue0
 t3 := Try.underlying3
 a3 := Try.isAgg3
 z3 := Try.sizeOf3
 v3 := Try.zeroValue3
 t4 := Try.underlying4
 a4 := Try.isAgg4
 z4 := Try.sizeOf4
 v4 := Try.zeroValue4
 t5 := Try.underlying5
 a5 := Try.isAgg5
 z5 := Try.sizeOf5
 v5 := Try.zeroValue5
 t9 := Try.underlying9
 a9 := Try.isAgg9
 z9 := Try.sizeOf9
 v9 := Try.zeroValue9
 t21 := Try.underlying21
 a21 := Try.isAgg21
 z21 := Try.sizeOf21
 v21 := Try.zeroValue21
 t46 := Try.underlying114
 a46 := Try.isAgg114
 z46 := Try.sizeOf114
 v46 := Try.zeroValue114
 t116 := Try.underlying117
 a116 := Try.isAgg117
 z116 := Try.sizeOf117
 t117 := Try.underlying118
 a117 := Try.isAgg118
 z117 := Try.sizeOf118
 v117 := Try.zeroValue118
 t124 := Try.underlying123
 a124 := Try.isAgg123
 z124 := Try.sizeOf123
 v124 := Try.zeroValue123 }
open Go.RowKit Go.Lib in
theorem Try.strings_IndexAny_long (hv116 : ∀ w, (zeroValue 117).run Try.prog w = .ok (.agg (Array.replicate 256 (.bool false))) w) (s chars : ByteArray) (w : World) (h2 : 2 ≤ chars.size) (h8 : 8 < s.size) (hs : s.size < 4294967281) (hcs : chars.size < 4294967281) (hascii : ∀ (j : Nat) b, chars.data.toList[j]? = some b → b.toNat < 128) :
  Calls Try.prog 79 #[.string s, .string chars] w fun e w' => e = .returned (.int .i64 (Lib.indexAny s.data.toList chars.data.toList)) ∧ w' = ((w.alloc (.cells (Lib.setCells chars.data.toList) 117)).alloc (.cells (Lib.setCells chars.data.toList) 117)) := Any.strings_IndexAny_long Try.lays153 hv116 (by kernel_rfl) s chars w h2 h8 hs hcs hascii
end Go.Proofs

namespace Go.Proofs.Ytnpeeiikdcankaa.Pa
open Go Go.RowKit Go.Shelf Go.Proofs Go.Proofs.Ytnpeeiikdcankaa
def cutOne (s : ByteArray) (c : UInt8) : ByteArray := if 0 ≤ Lib.indexByte s.data.toList c then Sp.mk (s.data.toList.take (Lib.indexByte s.data.toList c).toNat) else s
def cutRest (s : ByteArray) (c : UInt8) : ByteArray := if 0 ≤ Lib.indexByte s.data.toList c then Sp.mk (s.data.toList.drop ((Lib.indexByte s.data.toList c).toNat + 1)) else Sp.mk []
theorem cut_yes (s : ByteArray) (c : UInt8) (w : World) (o : Nat) (ho : Lib.indexByte s.data.toList c = o) (hlt : o < s.size) (hs : s.size < 4294967295) :
  Calls Try.prog 83 #[.string s, .string ⟨#[c]⟩] w fun e w' => e = .returned (.tuple #[.string (s.extract 0 o), .string (s.extract (o + 1) s.size), .bool true]) ∧ ∃ n, w' = w.drewN n := by
 have h1 := Try.stringslite_Index_one s c w
 rw [ho] at h1
 have H1 := qh h1
 clear h1 ho
 go_enter Try.func83, Try.ntmps83
 go_wp2_with (go_at_call 90; refine H1.out.mono ?_; rintro e w' ⟨rfl, rfl⟩)
 go_quiet (fail)
 go_wp2
 go_ret3
 exact ⟨by simp, _, rfl⟩
theorem cut_no (s : ByteArray) (c : UInt8) (w : World) (ho : Lib.indexByte s.data.toList c = -1) :
  Calls Try.prog 83 #[.string s, .string ⟨#[c]⟩] w fun e w' => e = .returned (.tuple #[.string s, .string ⟨#[]⟩, .bool false]) ∧ ∃ n, w' = w.drewN n := by
 have h1 := Try.stringslite_Index_one s c w
 rw [ho] at h1
 have H1 := qh h1
 clear h1 ho
 go_enter Try.func83, Try.ntmps83
 go_wp2_with (go_at_call 90; refine H1.out.mono ?_; rintro e w' ⟨rfl, rfl⟩)
 go_ret3
 exact ⟨by simp, 0, rfl⟩
theorem index_lt {l : List UInt8} {c : UInt8} {o : Nat} (h : Lib.indexByte l c = o) : o < l.length := by
 have h1 := (Lib.indexByte_some h).1
 exact (List.getElem?_eq_some_iff.1 h1).1
theorem lite_cut (s : ByteArray) (c : UInt8) (w : World) (hs : s.size < 4294967295) :
  Calls Try.prog 83 #[.string s, .string ⟨#[c]⟩] w fun e w' => e = .returned (.tuple #[.string (cutOne s c), .string (cutRest s c), .bool (decide (0 ≤ Lib.indexByte s.data.toList c))]) ∧ ∃ n, w' = w.drewN n := by
 have hge := Lib.indexByte_ge s.data.toList c
 by_cases h : 0 ≤ Lib.indexByte s.data.toList c
 ·
  obtain ⟨o, ho⟩ := Int.eq_ofNat_of_zero_le h
  have hlt := index_lt ho
  rw [← Sp.size_eq] at hlt
  refine (cut_yes s c w o ho hlt hs).mono ?_
  rintro e w' ⟨rfl, hw⟩
  refine ⟨?_, hw⟩
  rw [cutOne, cutRest, if_pos h, if_pos h, ho]
  have e1 : s.extract 0 o = Sp.mk (s.data.toList.take o) := by
   rw [← Sp.mk_of (s.extract 0 o), Lib.extract_data]; simp
  have e2 : s.extract (o + 1) s.size = Sp.mk (s.data.toList.drop (o + 1)) := by
   rw [← Sp.mk_of (s.extract (o + 1) s.size), Lib.extract_data]
   congr 1
   rw [List.take_of_length_le]
   rw [List.length_drop, ← Sp.size_eq]
   omega
  rw [e1, e2]
  simp
 ·
  have ho : Lib.indexByte s.data.toList c = -1 := by omega
  refine (cut_no s c w ho).mono ?_
  rintro e w' ⟨rfl, hw⟩
  refine ⟨?_, hw⟩
  rw [cutOne, cutRest, if_neg h, if_neg h]
  simp [Sp.mk, h]
theorem cut_calls (s : ByteArray) (c : UInt8) (w : World) (hs : s.size < 4294967295) :
  Calls Try.prog 77 #[.string s, .string ⟨#[c]⟩] w fun e w' => e = .returned (.tuple #[.string (cutOne s c), .string (cutRest s c), .bool (decide (0 ≤ Lib.indexByte s.data.toList c))]) ∧ ∃ n, w' = w.drewN n := by
 have h1 := lite_cut s c w hs
 generalize cutOne s c = x at *
 generalize cutRest s c = y at *
 generalize decide (0 ≤ Lib.indexByte s.data.toList c) = z at *
 have H1 := qh h1
 clear h1
 go_enter Try.func77, Try.ntmps77
 go_wp2_with (go_at_call 83; refine H1.out.mono ?_; rintro e w' ⟨rfl, ⟨nn, rfl⟩⟩)
 go_ret3
 exact ⟨rfl, nn, rfl⟩
theorem cut_parts (rest : List UInt8) (h : rest ≠ []) : Sp.parts rest = Sp.keep (cutOne (Sp.mk rest) 47).data.toList (Sp.parts (cutRest (Sp.mk rest) 47).data.toList) ∧ (cutRest (Sp.mk rest) 47).size < (Sp.mk rest).size := by
 have hge := Lib.indexByte_ge rest 47
 have hpos : 0 < rest.length := List.length_pos_iff.2 h
 rw [cutOne, cutRest, Sp.mk_data]
 by_cases h0 : 0 ≤ Lib.indexByte rest 47
 ·
  obtain ⟨o, ho⟩ := Int.eq_ofNat_of_zero_le h0
  have hlt := index_lt ho
  rw [if_pos h0, if_pos h0, ho]
  refine ⟨by simpa using Sp.parts_at rest o ho, ?_⟩
  rw [Sp.mk_size, Sp.mk_size]
  simp
  omega
 ·
  have ho : Lib.indexByte rest 47 = -1 := by omega
  rw [if_neg h0, if_neg h0]
  refine ⟨by simpa using Sp.parts_none rest ho, ?_⟩
  rw [Sp.mk_size, Sp.mk_size]
  simpa using hpos
theorem grown_drewN (w : World) (n : Nat) : w.grownBy (w.drewN n) none := ⟨rfl, rfl, rfl, Nat.le_refl _, fun _ _ _ => rfl⟩
def boxLen (W : World) (B : Nat) : Nat := match W.cell? ⟨B, 0, none⟩ with | some (.string s) => s.size | _ => 0
theorem boxLen_eq {W : World} {B : Nat} {t : TypeId} {s : ByteArray} (h : Boxed W B t (.string s)) : boxLen W B = s.size := by rw [boxLen, h.cell]
theorem iter (n : Nat) (hn : 1 ≤ n) (Bs : Nat) (s : List UInt8) (w : World) (hs : s.length < 4294967295) (hb0 : Boxed w Bs 9 (.string (Sp.mk s))) :
  Rg.Iter Fence.wide n Try.prog 76 #[.pointer (some ⟨Bs, 0, none⟩)] (fun x : List UInt8 => #[Value.string (Sp.mk x)]) Bs 9 (Sp.parts s) w := by
 intro l J Jx W hW hJ _ hS hY h0
 have hbW : Boxed W Bs 9 (.string (Sp.mk s)) := (hW.block Bs hb0.lt).trans hb0
 clear hb0
 refine callsIn_of_wp Try.func76 rfl trivial ?_ rfl
 simp only [Try.ntmps76, List.size_toArray, List.length_cons, List.length_nil, Nat.reduceAdd, Nat.reduceSub, Array.replicate_succ, Array.replicate_zero, List.push_toArray, List.append_toArray, List.nil_append, List.cons_append]
 gi_wp2
 gi_loopw [3] (fun p wr => ∃ (pre : List (List UInt8)) (rest : List UInt8), Sp.parts s = pre ++ Sp.parts rest ∧ rest.length ≤ s.length ∧ Boxed wr Bs 9 (.string (Sp.mk rest)) ∧ J pre wr) (fun p wr => boxLen wr Bs)
 case atStart => exact ⟨[], s, rfl, Nat.le_refl _, hbW, h0⟩
 case round =>
  obtain ⟨pre, rest, hx, hle, hbr, hJs⟩ := hrel
  have hc := hbr.cell
  have HX := qh hx
  clear hx
  have hfz := hbr.frozen
  by_cases h0 : rest = []
  ·
   subst h0
   have h1 : (Sp.mk []).toList = [] := Sp.mk_toList _
   generalize Sp.mk [] = r at *
   gi_wp2
   go_end0
   have hp : pre = Sp.parts s := by rw [HX.out]; simp
   exact ⟨⟨_, rfl⟩, .inl (hp ▸ hJs)⟩
  ·
   have h1 : ((Sp.mk rest).toList == []) = false := by rw [Sp.mk_toList]; simpa using h0
   have h2 : (!(Sp.mk rest).toList.isEmpty) = true := by rw [Sp.mk_toList]; simpa using h0
   have hlr : (Sp.mk rest).size < 4294967295 := by rw [Sp.mk_size]; omega
   obtain ⟨hk, hlt⟩ := cut_parts rest h0
   obtain ⟨r, hr⟩ : ∃ r, r = Sp.mk rest := ⟨_, rfl⟩
   rw [← hr] at hc h1 h2 hlr hk hlt hbr
   have hC := cut_calls r 47
   generalize decide (0 ≤ Lib.indexByte r.data.toList 47) = z at *
   obtain ⟨a, ha⟩ : ∃ a, a = cutOne r 47 := ⟨_, rfl⟩
   obtain ⟨b, hb⟩ : ∃ b, b = cutRest r 47 := ⟨_, rfl⟩
   rw [← ha, ← hb] at hC
   rw [← ha, ← hb] at hk
   rw [← hb] at hlt
   have HR := qh hr
   have HB := qh hbr
   have HK := qh hk
   have HC := qh hC
   have hlen : (b.data.toList).length ≤ s.length := by
    have e1 := HR.out
    have e2 : r.size = rest.length := by rw [e1, Sp.mk_size]
    rw [← Sp.size_eq]; omega
   clear hr hbr hk hC ha hb
   have hJd : ∀ nn, J pre (wr.drewN nn) := fun nn => hJ pre wr _ none hJs (grown_drewN wr nn) (fun r e => by cases e)
   have hBd : ∀ nn, Boxed (wr.drewN nn) Bs 9 (.string r) := fun nn => HB.out
   have HJ := qh hJd
   have HD := qh hBd
   clear hJd hBd
   by_cases ha : a.data.toList = [] ∨ a.data.toList = [46]
   ·
    have hk2 : Sp.parts rest = Sp.parts b.data.toList := by rw [HK.out, Sp.keep, if_pos ha]
    have HK2 := qh hk2
    clear hk2
    have hz : a.toList = [] ∨ a.toList = [46] := by rw [Lib.toList_data]; exact ha
    clear ha
    rcases hz with hz | hz
    all_goals
     gi_wp2_with (refine ⟨trivial, ?_⟩; gi_at_call 77; refine (callsIn_wide.2 (HC.out _ hlr)).mono ?_; rintro e w' ⟨rfl, ⟨nn, rfl⟩⟩)
     refine ⟨fun _ h => (by cases h), ?_⟩
     gi_wp2
     go_roundw
     case rel => exact ⟨pre, b.data.toList, by rw [HX.out, HK2.out], hlen, by rw [Sp.mk_of]; exact (HD.out nn).set _, hS _ _ _ (HJ.out nn)⟩
     case measure => rw [boxLen_eq ((HD.out nn).set _), boxLen_eq HB.out]; exact hlt
   ·
    have hk2 : Sp.parts rest = a.data.toList :: Sp.parts b.data.toList := by rw [HK.out, Sp.keep, if_neg ha]
    have HK2 := qh hk2
    clear hk2
    have ha1 : (a.toList == []) = false := by rw [Lib.toList_data]; simpa using fun h => ha (.inl h)
    have ha2 : (a.toList == [46]) = false := by rw [Lib.toList_data]; simpa using fun h => ha (.inr h)
    have ha3 : ¬ a.toList = [] := by rw [Lib.toList_data]; exact fun h => ha (.inl h)
    have ha4 : ¬ a.toList = [46] := by rw [Lib.toList_data]; exact fun h => ha (.inr h)
    clear ha
    have hYd : ∀ nn, YieldAt Fence.wide (n - 1) Try.prog l #[.string a] (wr.drewN nn) _ := fun nn => (by have h := hY pre a.data.toList (wr.drewN nn) (HJ.out nn) ⟨Sp.parts b.data.toList, by rw [HX.out, HK2.out]; simp⟩; rw [Sp.mk_of] at h; exact h)
    have HY := qh hYd
    clear hYd
    gi_wp2_with (refine ⟨trivial, ?_⟩; gi_at_call 77; refine (callsIn_wide.2 (HC.out _ hlr)).mono ?_; rintro e w' ⟨rfl, ⟨nn, rfl⟩⟩; obtain ⟨fn, tm, asg, bd, hy, hR⟩ := HY.out nn)
    refine hR.mono ?_
    rintro e W3 (⟨rfl, hJ3, hk3⟩ | ⟨rfl, hJx3⟩)
    ·
     have hb3 := hk3 _ (HD.out nn)
     have hc3 := hb3.cell
     have hf3 := hb3.frozen
     gi_wp2
     go_roundw
     case rel => exact ⟨pre ++ [a.data.toList], b.data.toList, by rw [HX.out, HK2.out]; simp, hlen, by rw [Sp.mk_of]; exact hb3.set _, hS _ _ _ hJ3⟩
     case measure => rw [boxLen_eq (hb3.set _), boxLen_eq HB.out]; exact hlt
    ·
     gi_wp2
     refine bodyPost_ret (results_none rfl _ _ _) rfl ?_
     exact ⟨⟨_, rfl⟩, .inr ⟨pre ++ [a.data.toList], ⟨Sp.parts b.data.toList, by rw [HX.out, HK2.out]; simp⟩, hJx3⟩⟩
end Go.Proofs.Ytnpeeiikdcankaa.Pa

-- PRINTED BY print.sh 35421559b90ae4d0a3588c463048766b98c2df88dd9212a6774a882060cdf62d: not written by this session
-- PRINTED WORDS (module Derived/Print/Words.lean): go-wishes' parts 1 to 38 and go-gate-2's additions: AI agents of Go's test side, Mon Nov 16 2026; no person has read them. Plain theorems and definitions: no macro, no elab, no axiom.
namespace Go.Proofs.YtnpeeiikdcankaaW.PrintWords
open Go.RowKit
structure Aside0 (p : Prop) : Prop where mk :: (out : p)
structure Drawn0 (w w' : World) : Prop where mk :: (out : ∃ n, w' = w.drewN n)
theorem Drawn0.refl (w : World) : Drawn0 w w := ⟨⟨0, rfl⟩⟩
theorem Drawn0.step {w w' : World} (h : Drawn0 w w') (n : Nat) : Drawn0 w (w'.drewN n) := by
 obtain ⟨m, rfl⟩ := h
 exact ⟨⟨m + n, World.drewN_drewN ..⟩⟩
theorem Drawn0.grown {w w' : World} (h : Drawn0 w w') : Grown w w' := by
 obtain ⟨n, rfl⟩ := h
 induction n with
 | zero => exact Grown.refl _
 | succ n ih => rw [← World.drew_drewN]; exact Grown.drew ih
theorem Drawn0.below {w w' : World} (h : Drawn0 w w') : Below w.heap.size w w' := by
 obtain ⟨n, rfl⟩ := h
 induction n with
 | zero => exact Below.refl _ _
 | succ n ih => rw [← World.drew_drewN]; exact ih.drew
def rd (xs : List Int) (i : Int) : Int := xs.getD i.toNat 0
theorem below_alloc {w W : World} (h : Below w.heap.size w W) (o : Obj) : Below w.heap.size w (W.alloc o) := h.alloc h.size o
theorem below_drew {B : Nat} {w W : World} (h : Below B w W) : Below B w W.drew := ⟨h.os, h.tape, h.output, h.size, h.block⟩
theorem pw_below_drewN {B : Nat} {w W : World} (h : Below B w W) (n : Nat) : Below B w (W.drewN n) := ⟨h.os, h.tape, h.output, h.size, h.block⟩
theorem grown_of_below {w w1 : World} (h : Below w.heap.size w w1) (row : Option Nat) : w.grownBy w1 row := ⟨h.os, h.tape, h.output, h.size, fun i hi _ => h.block i hi⟩
theorem pw_cell_below {w w1 : World} (h : Below w.heap.size w w1) {a : Addr} {v : Value} (hc : w.cell? a = some v) : w1.cell? a = some v := (h.cell (World.block_lt_of_cell? w a hc)).trans hc
def ReadsInt (w : World) (k : IntKind) (A : Option Addr) (n : Nat) (xs : List Int) : Prop :=
 xs.length = n ∧ n ≤ 9223372036854775807 ∧ (0 < n → ∃ ad, A = some ad ∧ ∀ j, j < n → w.cell? (ad.add j) = some (.int k (xs.getD j 0)))
theorem ReadsInt.at_ {w : World} {k : IntKind} {A : Option Addr} {n : Nat} {xs : List Int} (h : ReadsInt w k A n xs) (i : Int) (h0 : 0 ≤ i) (h1 : i < n) : ∃ ad, A = some ad ∧ w.cell? (ad.add i.toNat) = some (.int k (rd xs i)) := by
 obtain ⟨ad, e, hc⟩ := h.2.2 (by omega)
 exact ⟨ad, e, hc _ (by omega)⟩
theorem ReadsInt.below {w w1 : World} {k : IntKind} {A : Option Addr} {n : Nat} {xs : List Int} (h : ReadsInt w k A n xs) (hb : Below w.heap.size w w1) : ReadsInt w1 k A n xs :=
 ⟨h.1, h.2.1, fun hn => by
  obtain ⟨ad, e, hc⟩ := h.2.2 hn
  exact ⟨ad, e, fun j hj => pw_cell_below hb (hc j hj)⟩⟩
theorem own_nil (W : World) (base : Nat) (e : TypeId) (size : Nat) : W.ownsRow base e size (.slice none 0 0) 0 [] := ⟨by simp, .inl ⟨rfl, rfl⟩⟩
theorem own_base {w : World} {base : Nat} {e : TypeId} {size n : Nat} {v : Value} {xs : List Value} (h : w.ownsRow base e size v n xs) (k : Nat) (hk : v.ownBlock = some k) : base ≤ k := by
 rcases h.2 with ⟨rfl, _⟩ | ⟨g, cap, cur, rfl, hb, _⟩
 · simp [Value.ownBlock] at hk
 ·
  have : g = k := by simpa [Value.ownBlock] using hk
  omega
theorem own_lt {w : World} {base : Nat} {e : TypeId} {size n : Nat} {v : Value} {xs : List Value} (h : w.ownsRow base e size v n xs) (k : Nat) (hk : v.ownBlock = some k) : k < w.heap.size := by
 rcases h.2 with ⟨rfl, _⟩ | ⟨g, cap, cur, rfl, hb, hh, _⟩
 · simp [Value.ownBlock] at hk
 ·
  have : g = k := by simpa [Value.ownBlock] using hk
  subst this
  exact (Array.getElem?_eq_some_iff.1 hh).1
theorem pw_own_below {w w1 : World} {base : Nat} {e : TypeId} {size n : Nat} {v : Value} {xs : List Value} (h : w.ownsRow base e size v n xs) (hb : Below w.heap.size w w1) : w1.ownsRow base e size v n xs :=
 h.kept (grown_of_below hb none) (by cases v.ownBlock <;> simp)
theorem own_other {w w1 : World} {base : Nat} {e : TypeId} {size n : Nat} {v : Value} {xs : List Value} (h : w.ownsRow base e size v n xs) {row : Option Nat} (hg : w.grownBy w1 row) (hne : v.ownBlock = none ∨ v.ownBlock ≠ row) : w1.ownsRow base e size v n xs := h.kept hg hne
section
variable {P : Program} {ops : Array Oper} {rest : List Oper} {o : Oper} {a : Act} {Q : Exit → Act → World → Prop}
end
section
variable {P : Program}
end
section
variable {P : Program} {ops : Array Oper} {rest : List Oper} {o : Oper} {a : Act} {Q : Exit → Act → World → Prop}
end
def LeO {α : Type} (a b : Option α) : Prop := ∀ r, a = some r → b = some r
theorem LeO.refl {α : Type} (a : Option α) : LeO a a := fun _ h => h
theorem LeO.none {α : Type} (b : Option α) : LeO Option.none b := fun _ h => by cases h
theorem LeO.trans {α : Type} {a b c : Option α} (h : LeO a b) (k : LeO b c) : LeO a c := fun r hr => k r (h r hr)
theorem LeO.bind {α β : Type} {a a' : Option α} {f f' : α → Option β} (h : LeO a a') (k : ∀ x, LeO (f x) (f' x)) : LeO (a.bind f) (a'.bind f') := by
 intro r hr
 obtain ⟨x, hx, hf⟩ := Option.bind_eq_some_iff.1 hr
 exact Option.bind_eq_some_iff.2 ⟨x, h x hx, k x r hf⟩
theorem LeO.map {α β : Type} {a a' : Option α} (f : α → β) (h : LeO a a') : LeO (a.map f) (a'.map f) := by
 intro r hr
 obtain ⟨x, hx, hf⟩ := Option.map_eq_some_iff.1 hr
 exact Option.map_eq_some_iff.2 ⟨x, h x hx, hf⟩
theorem more_rounds {α : Type} {g : Nat → Option α} (h : ∀ k, LeO (g k) (g (k + 1))) (k : Nat) : ∀ j, LeO (g k) (g (k + j))
 | 0 => LeO.refl _
 | j + 1 => (more_rounds h k j).trans (h (k + j))
theorem at_rounds {α : Type} {g : Nat → Option α} (h : ∀ k, LeO (g k) (g (k + 1))) {k k' : Nat} (hk : k ≤ k') {r : α} (hr : g k = some r) : g k' = some r := by
 have := more_rounds h k (k' - k) r hr
 rwa [Nat.add_sub_cancel' hk] at this
def Reps {α : Type} (R : α → List Value → Prop) (size : Nat) (ps : List α) (cs : List Value) : Prop :=
 cs.length = ps.length * size ∧ ∀ j p, ps[j]? = some p → R p ((cs.drop (j * size)).take size)
theorem Reps.none {α : Type} (R : α → List Value → Prop) (size : Nat) : Reps R size [] [] := ⟨by simp, fun j p h => by simp at h⟩
theorem Reps.snoc {α : Type} {R : α → List Value → Prop} {size : Nat} {ps : List α} {cs c : List Value} {p : α} (h : Reps R size ps cs) (hp : R p c) (hc : c.length = size) : Reps R size (ps ++ [p]) (cs ++ c) := by
 refine ⟨by rw [List.length_append, h.1, hc, List.length_append, List.length_singleton, Nat.add_mul, Nat.one_mul], fun j q hq => ?_⟩
 rcases Nat.lt_or_ge j ps.length with hj | hj
 ·
  rw [List.getElem?_append_left hj] at hq
  have h1 : j * size + size ≤ cs.length := by rw [h.1, ← Nat.succ_mul]; exact Nat.mul_le_mul_right _ hj
  have h2 := h.2 j q hq
  rw [List.drop_append_of_le_length (by omega), List.take_append_of_le_length (by rw [List.length_drop]; omega)]
  exact h2
 ·
  have hj' : j = ps.length := by
   have := (List.getElem?_eq_some_iff.1 hq).1
   rw [List.length_append, List.length_singleton] at this
   omega
  subst hj'
  have hq' : p = q := by simpa using hq
  subst hq'
  rw [← h.1, List.drop_left, ← hc, List.take_length]
  exact hp
theorem Reps.imp_ {α : Type} {R R' : α → List Value → Prop} {size : Nat} {ps : List α} {cs : List Value} (h : Reps R size ps cs) (hR : ∀ p c, R p c → R' p c) : Reps R' size ps cs := ⟨h.1, fun j p hj => hR _ _ (h.2 j p hj)⟩
def ReadsRow {α : Type} (R : α → List Value → Prop) (size : Nat) (w : World) (A : Option Addr) (n : Nat) (ps : List α) : Prop :=
 ps.length = n ∧ n ≤ 9223372036854775807 ∧ (0 < n → ∃ ad, A = some ad ∧ ∀ j p, ps[j]? = some p → ∃ c, c.length = size ∧ R p c ∧ ∀ i u, c[i]? = some u → w.cell? (ad.add (j * size + i)) = some u)
theorem ReadsRow.get_ {α : Type} {R : α → List Value → Prop} {size : Nat} {w : World} {A : Option Addr} {n : Nat} {ps : List α} (h : ReadsRow R size w A n ps) (d : α) (i : Int) (h0 : 0 ≤ i) (h1 : i < n) :
  ∃ ad c, A = some ad ∧ c.length = size ∧ R (ps.getD i.toNat d) c ∧ ∀ j u, c[j]? = some u → w.cell? (ad.add (i.toNat * size + j)) = some u := by
 obtain ⟨ad, e, hc⟩ := h.2.2 (by omega)
 have hl : i.toNat < ps.length := by have := h.1; omega
 obtain ⟨c, hs, hr, hcell⟩ := hc i.toNat _ (List.getElem?_eq_getElem hl)
 refine ⟨ad, c, e, hs, ?_, hcell⟩
 rw [List.getD_eq_getElem?_getD, List.getElem?_eq_getElem hl]
 exact hr
theorem ReadsRow.imp_ {α : Type} {R R' : α → List Value → Prop} {size : Nat} {w w1 : World} {A : Option Addr} {n : Nat} {ps : List α} (h : ReadsRow R size w A n ps) (hb : Below w.heap.size w w1) (hR : ∀ p c, R p c → R' p c) : ReadsRow R' size w1 A n ps :=
 ⟨h.1, h.2.1, fun hn => by
  obtain ⟨ad, e, hc⟩ := h.2.2 hn
  refine ⟨ad, e, fun j p hj => ?_⟩
  obtain ⟨c, hs, hr, hcell⟩ := hc j p hj
  exact ⟨c, hs, hR _ _ hr, fun i u hu => pw_cell_below hb (hcell i u hu)⟩⟩
theorem own_reads_row {α : Type} {R : α → List Value → Prop} {w : World} {base n size : Nat} {e : TypeId} {v : Value} {ps : List α} {cs : List Value} (h : w.ownsRow base e size v n cs) (hR : Reps R size ps cs) (hn : ps.length = n) :
  ∃ A c, v = .slice A n c ∧ ReadsRow R size w A n ps := by
 rcases Nat.eq_zero_or_pos n with h0 | h0
 ·
  rcases h.2 with ⟨rfl, rfl⟩ | ⟨g, cap, cur, rfl, _⟩
  · exact ⟨none, 0, rfl, hn, by omega, fun hp => absurd hp (by omega)⟩
  · exact ⟨_, cap, rfl, hn, by omega, fun hp => absurd hp (by omega)⟩
 ·
  obtain ⟨g, cap, rfl, _, _⟩ := h.form h0
  have hm : n ≤ 9223372036854775807 := by
   rcases h.2 with ⟨_, h1⟩ | ⟨g', cap', cur, he, _, _, h1, h2, _⟩
   · omega
   ·
    simp only [maxLen] at h2
    omega
  refine ⟨_, cap, rfl, hn, hm, fun _ => ⟨_, rfl, fun j p hj => ⟨(cs.drop (j * size)).take size, ?_, hR.2 j p hj, fun i u hu => ?_⟩⟩⟩
  ·
   have hjl := (List.getElem?_eq_some_iff.1 hj).1
   have h1 : j * size + size ≤ cs.length := by rw [hR.1, ← Nat.succ_mul]; exact Nat.mul_le_mul_right _ hjl
   rw [List.length_take, List.length_drop]
   omega
  ·
   refine h.cells (g := g) rfl _ u ?_
   rw [List.getElem?_take] at hu
   split at hu
   ·
    rw [List.getElem?_drop] at hu
    exact hu
   · cases hu
theorem add_field (ad : Addr) (m j : Nat) (hj : 0 < j) : ad.add (m + j) = ⟨(ad.add m).block, (ad.add m).off + j, none⟩ := by
 unfold Addr.add
 by_cases hm : m = 0
 ·
  subst hm
  simp [Nat.ne_of_gt hj]
 · simp [hm, Nat.add_assoc]
section
variable {P : Program} {ops : Array Oper} {rest : List Oper} {o : Oper} {a : Act} {Q : Exit → Act → World → Prop}
theorem print_append_cells {w0 W : World} (base : Nat) (hgd : o.guard = none) (s x : Operand) (t e : TypeId) (z : Value) (size bytes : Nat)
  (ho : o.op = .call { callee := .builtin .append, args := #[s, x], argTypes := #[t, t] })
  (ht : P.underlying t = some (.slice e)) (hinfo : (P.info? e).map (fun i => (i.zero, i.size, i.bytes)) = some (some z, size, bytes)) (hz : z.cells.size = size) (hs0 : 0 < size) (hb0 : 0 < bytes)
  (v : Value) (n : Nat) (xs ys : List Value) (hs : a.eval s = v) (hx : a.eval x = .slice (some ⟨W.heap.size, 0, none⟩) 1 1) (hys : ys.length = size) (h1 : ∀ u ∈ ys, u.oneCell' = true)
  (HO : W.ownsRow base e size v n xs) (HB : Below base w0 W) (hbase : base ≤ W.heap.size) (hl : (n + 1) * bytes ≤ 140737488355328)
  (h : ∀ v1 w1, w1.ownsRow base e size v1 (n + 1) (xs ++ ys) → Below base w0 w1 → W.grownBy w1 v.ownBlock → (v1.ownBlock = v.ownBlock ∨ ∃ b, v1.ownBlock = some b ∧ W.heap.size ≤ b) → wpList P ops Q rest (a.put o.dst v1) w1) :
  wpList P ops Q (o :: rest) a (W.alloc (.cells ys.toArray e)) := by
 obtain ⟨i0, hi, hzz⟩ := Option.map_eq_some_iff.1 hinfo
 simp only [Prod.mk.injEq] at hzz
 obtain ⟨hz0, hz1, hz2⟩ := hzz
 have hlen : n + 1 ≤ 140737488355328 := Nat.le_trans (Nat.le_mul_of_pos_right _ hb0) hl
 refine wpList_append_own_at (W.alloc (.cells ys.toArray e)) hgd s x t ho base e i0 z size bytes ht hi hz0 hz1 hz2 hz hs0 v n xs hs (HO.alloc _) ⟨W.heap.size, 0, none⟩ 1 1 ys hx (by rw [hys]; simp)
  (by simpa using World.news_of_block (cs := ys.toArray) (t := e) (fr := (0, 0)) (heap_alloc_new W (.cells ys.toArray e))) h1 (by simp only [maxLen]; omega) hl (by simp; omega) ?_
 intro v1 w1 hown hg _ hat
 refine h v1 w1 hown ((HB.alloc hbase _).grown hg (by simp; omega) (own_base HO)) (World.grownBy.trans (World.grownBy_alloc W _ _) hg) ?_
 rcases hat with hat | hat
 · exact .inl hat
 · exact .inr ⟨_, hat, by simp⟩
end
theorem own_ne {w : World} {base : Nat} {e t : TypeId} {size n g : Nat} {v : Value} {xs : List Value} {cs : Array Value} (h : w.ownsRow base e size v n xs) (hg : w.heap[g]? = some (.cells cs t (0, 0))) (hne : e ≠ t) : some g ≠ v.ownBlock := by
 rcases h.2 with ⟨rfl, _⟩ | ⟨g', cap, cur, rfl, _, hh, _⟩
 · simp [Value.ownBlock]
 ·
  intro he
  have : g = g' := by simpa [Value.ownBlock] using he
  subst this
  rw [hg] at hh
  injection hh with hh
  injection hh with _ ht
  exact hne ht.symm
theorem blk_set {w : World} {g : Nat} {t : TypeId} {cs : Array Value} (h : w.heap[g]? = some (.cells cs t (0, 0))) (i : Nat) (u : Value) : (w.setCell ⟨g, i, none⟩ u).heap[g]? = some (.cells (cs.setIfInBounds i u) t (0, 0)) := by
 simp [World.setCell, Array.getElem?_modify, h]
theorem blk_lt {w : World} {g : Nat} {o : Obj} (h : w.heap[g]? = some o) : g < w.heap.size := (Array.getElem?_eq_some_iff.1 h).1
theorem blk_cell {w : World} {g : Nat} {t : TypeId} {cs : Array Value} (h : w.heap[g]? = some (.cells cs t (0, 0))) (i : Nat) : w.cell? ⟨g, i, none⟩ = cs[i]? := cell_of_row w g i cs t (0, 0) h
theorem blk_frozen {w : World} {g : Nat} {t : TypeId} {cs : Array Value} (h : w.heap[g]? = some (.cells cs t (0, 0))) (i : Nat) : w.frozen? ⟨g, i, none⟩ = false := by simp [World.frozen?, h]
theorem blk_grown {w w1 : World} {g : Nat} {o : Obj} {row : Option Nat} (h : w.heap[g]? = some o) (hg : w.grownBy w1 row) (hne : some g ≠ row) : w1.heap[g]? = some o := (hg.block g (blk_lt h) hne).trans h
def KeepBut (w w' : World) (g : Nat) (row : Option Nat) : Prop := w.heap.size ≤ w'.heap.size ∧ ∀ i, i < w.heap.size → i ≠ g → some i ≠ row → w'.heap[i]? = w.heap[i]?
theorem KeepBut.refl (w : World) (g : Nat) (row : Option Nat) : KeepBut w w g row := ⟨Nat.le_refl _, fun _ _ _ _ => rfl⟩
theorem KeepBut.of_below {w w1 : World} (h : Below w.heap.size w w1) (g : Nat) (row : Option Nat) : KeepBut w w1 g row := ⟨h.size, fun i hi _ _ => h.block i hi⟩
theorem KeepBut.trans {w w1 w2 : World} {g : Nat} {row row1 : Option Nat} (h : KeepBut w w1 g row) (k : KeepBut w1 w2 g row1) (hr : row1 = row ∨ ∃ b, row1 = some b ∧ w.heap.size ≤ b) : KeepBut w w2 g row :=
 ⟨Nat.le_trans h.1 k.1, fun i hi hg hn => by
  refine (k.2 i (Nat.lt_of_lt_of_le hi h.1) hg ?_).trans (h.2 i hi hg hn)
  rcases hr with rfl | ⟨b, rfl, hb⟩
  · exact hn
  ·
   intro e
   injection e with e
   omega⟩
theorem KeepBut.blk {w w1 : World} {g g' : Nat} {row : Option Nat} {o : Obj} (h : KeepBut w w1 g row) (hb : w.heap[g']? = some o) (hg : g' ≠ g) (hr : some g' ≠ row) : w1.heap[g']? = some o := (h.2 g' (blk_lt hb) hg hr).trans hb
theorem KeepBut.own {w w1 : World} {g : Nat} {row : Option Nat} {base : Nat} {e : TypeId} {size n : Nat} {v : Value} {xs : List Value} (h : KeepBut w w1 g row) (ho : w.ownsRow base e size v n xs) (hg : v.ownBlock ≠ some g) (hr : v.ownBlock = none ∨ v.ownBlock ≠ row) : w1.ownsRow base e size v n xs := by
 obtain ⟨h1, h2⟩ := ho
 refine ⟨h1, ?_⟩
 rcases h2 with h2 | ⟨b, cap, cur, rfl, hb, hh, r⟩
 · exact .inl h2
 ·
  refine .inr ⟨b, cap, cur, rfl, hb, h.blk hh ?_ ?_, r⟩
  ·
   intro e
   exact hg (by rw [← e]; rfl)
  ·
   rcases hr with hr | hr
   · simp [Value.ownBlock] at hr
   · exact hr
def Ev {α : Type} (g : Nat → Option α) (r : α) : Prop := ∃ K, ∀ k, K ≤ k → g k = some r
theorem Ev.of {α : Type} {g : Nat → Option α} {r : α} (hg : ∀ k, LeO (g k) (g (k + 1))) {k : Nat} (h : g k = some r) : Ev g r := ⟨k, fun _ hk => at_rounds hg hk h⟩
theorem Ev.now {α : Type} (r : α) : Ev (fun _ => some r) r := ⟨0, fun _ _ => rfl⟩
theorem Ev.rounds {α : Type} {g : Nat → Option α} {r : α} (h : Ev g r) : ∃ k, g k = some r := by
 obtain ⟨K, h⟩ := h
 exact ⟨K, h K (Nat.le_refl _)⟩
theorem Ev.bind {α β : Type} {g : Nat → Option α} {f : Nat → α → Option β} {a : α} {r : β} (h : Ev g a) (k : Ev (fun n => f n a) r) : Ev (fun n => (g n).bind (f n)) r := by
 obtain ⟨K, h⟩ := h
 obtain ⟨K', k⟩ := k
 refine ⟨max K K', fun n hn => ?_⟩
 have h1 := h n (by omega)
 have h2 := k n (by omega)
 simp only [h1, Option.bind_some]
 exact h2
theorem Ev.step {α : Type} {g f : Nat → Option α} {r : α} (h : ∀ k, g (k + 1) = f k) (k : Ev f r) : Ev g r := by
 obtain ⟨K, k⟩ := k
 refine ⟨K + 1, fun n hn => ?_⟩
 obtain ⟨m, rfl⟩ : ∃ m, n = m + 1 := ⟨n - 1, by omega⟩
 rw [h]
 exact k m (by omega)
theorem Ev.congr {α : Type} {g f : Nat → Option α} {r : α} (h : ∀ k, g k = f k) (k : Ev f r) : Ev g r := by
 obtain ⟨K, k⟩ := k
 exact ⟨K, fun n hn => (h n).trans (k n hn)⟩
section
variable {P : Program} {ops : Array Oper} {o : Oper} {a : Act} {Q : Exit → Act → World → Prop} {K : Act → World → Prop}
end
theorem own_weaken {w : World} {base base' : Nat} {e : TypeId} {size n : Nat} {v : Value} {xs : List Value} (h : w.ownsRow base e size v n xs) (hb : base' ≤ base) : w.ownsRow base' e size v n xs := by
 obtain ⟨h1, h2⟩ := h
 refine ⟨h1, ?_⟩
 rcases h2 with h2 | ⟨g, cap, cur, rfl, hg, r⟩
 · exact .inl h2
 · exact .inr ⟨g, cap, cur, rfl, Nat.le_trans hb hg, r⟩
section
variable {α : Type} {enc : α → Value} {d : α}
def encs (enc : α → Value) (xs : List α) : List Value := xs.map enc
def rdOf (d : α) (xs : List α) (i : Int) : α := xs.getD i.toNat d
theorem encs_length (xs : List α) : (encs enc xs).length = xs.length := by simp [encs]
def ReadsOf (enc : α → Value) (d : α) (w : World) (A : Option Addr) (n : Nat) (xs : List α) : Prop :=
 xs.length = n ∧ n ≤ 9223372036854775807 ∧ (0 < n → ∃ ad, A = some ad ∧ ∀ j, j < n → w.cell? (ad.add j) = some (enc (xs.getD j d)))
theorem ReadsOf.at_ {w : World} {A : Option Addr} {n : Nat} {xs : List α} (h : ReadsOf enc d w A n xs) (i : Int) (h0 : 0 ≤ i) (h1 : i < n) : ∃ ad, A = some ad ∧ w.cell? (ad.add i.toNat) = some (enc (rdOf d xs i)) := by
 obtain ⟨ad, e, hc⟩ := h.2.2 (by omega)
 exact ⟨ad, e, hc _ (by omega)⟩
theorem ReadsOf.below {w w1 : World} {A : Option Addr} {n : Nat} {xs : List α} (h : ReadsOf enc d w A n xs) (hb : Below w.heap.size w w1) : ReadsOf enc d w1 A n xs :=
 ⟨h.1, h.2.1, fun hn => by
  obtain ⟨ad, e, hc⟩ := h.2.2 hn
  exact ⟨ad, e, fun j hj => pw_cell_below hb (hc j hj)⟩⟩
end
section
variable {α : Type} {P : Program} {ops : Array Oper} {rest : List Oper} {o : Oper} {a : Act} {Q : Exit → Act → World → Prop}
end
section
variable {P : Program}
end
theorem own_le {w : World} {base n m c size : Nat} {e : TypeId} {A : Option Addr} {xs : List Value} (h : w.ownsRow base e size (.slice A m c) n xs) : m ≤ c := by
 rcases h.2 with ⟨he, _⟩ | ⟨g, cap, cur, he, _, _, hnc, _⟩
 ·
  injection he with _ h2 h3
  omega
 ·
  injection he with _ h2 h3
  omega
def OwnRow {α : Type} (R : α → List Value → Prop) (e : TypeId) (size : Nat) (w : World) (base : Nat) (v : Value) (ps : List α) : Prop :=
 ∃ inner, w.ownsRow base e size v ps.length inner ∧ Reps R size ps inner
section
variable {α : Type} {R R' : α → List Value → Prop} {e : TypeId} {size : Nat} {w w1 : World} {base : Nat} {v : Value} {ps : List α}
theorem OwnRow.none_ (R : α → List Value → Prop) (e : TypeId) (size : Nat) (w : World) (base : Nat) : OwnRow R e size w base (.slice none 0 0) [] := ⟨[], own_nil _ _ _ _, Reps.none _ _⟩
theorem OwnRow.imp_ (h : OwnRow R e size w base v ps) (hR : ∀ p c, R p c → R' p c) : OwnRow R' e size w base v ps := by
 obtain ⟨inner, ho, hr⟩ := h
 exact ⟨inner, ho, hr.imp_ hR⟩
theorem OwnRow.below (h : OwnRow R e size w base v ps) (hb : Below w.heap.size w w1) : OwnRow R e size w1 base v ps := by
 obtain ⟨inner, ho, hr⟩ := h
 exact ⟨inner, pw_own_below ho hb, hr⟩
theorem OwnRow.other (h : OwnRow R e size w base v ps) {row : Option Nat} (hg : w.grownBy w1 row) (hne : v.ownBlock = none ∨ v.ownBlock ≠ row) : OwnRow R e size w1 base v ps := by
 obtain ⟨inner, ho, hr⟩ := h
 exact ⟨inner, own_other ho hg hne, hr⟩
theorem OwnRow.keep (h : OwnRow R e size w base v ps) {g : Nat} {t : TypeId} {cells : Array Value} (hb : w.heap[g]? = some (.cells cells t (0, 0))) (ht : e ≠ t) (hk : KeepBut w w1 g none) : OwnRow R e size w1 base v ps := by
 obtain ⟨inner, ho, hr⟩ := h
 exact ⟨inner, hk.own ho (Ne.symm (own_ne ho hb ht)) (by cases v.ownBlock <;> simp), hr⟩
theorem OwnRow.lower (h : OwnRow R e size w base v ps) {base' : Nat} (hb : base' ≤ base) : OwnRow R e size w base' v ps := by
 obtain ⟨inner, ho, hr⟩ := h
 exact ⟨inner, own_weaken ho hb, hr⟩
theorem OwnRow.reads (h : OwnRow R e size w base v ps) : ∃ A c, v = .slice A ps.length c ∧ ps.length ≤ c ∧ ReadsRow R size w A ps.length ps := by
 obtain ⟨inner, ho, hr⟩ := h
 obtain ⟨A, c, rfl, hrow⟩ := own_reads_row ho hr rfl
 exact ⟨A, c, rfl, own_le ho, hrow⟩
end
section
variable {P : Program} {ops : Array Oper} {rest : List Oper} {o : Oper} {a : Act} {Q : Exit → Act → World → Prop} {α : Type} {R : α → List Value → Prop}
theorem OwnRow.append {w0 W : World} (base : Nat) (hgd : o.guard = none) (s x : Operand) (t e : TypeId) (z : Value) (size bytes : Nat)
  (ho : o.op = .call { callee := .builtin .append, args := #[s, x], argTypes := #[t, t] })
  (ht : P.underlying t = some (.slice e)) (hinfo : (P.info? e).map (fun i => (i.zero, i.size, i.bytes)) = some (some z, size, bytes)) (hz : z.cells.size = size) (hs0 : 0 < size) (hb0 : 0 < bytes)
  (v : Value) (ps : List α) (p : α) (cs : List Value) (hs : a.eval s = v) (hx : a.eval x = .slice (some ⟨W.heap.size, 0, none⟩) 1 1) (hp : R p cs) (hcs : cs.length = size) (h1 : ∀ u ∈ cs, u.oneCell' = true)
  (HO : OwnRow R e size W base v ps) (HB : Below base w0 W) (hbase : base ≤ W.heap.size) (hl : (ps.length + 1) * bytes ≤ 140737488355328)
  (h : ∀ v1 w1, OwnRow R e size w1 base v1 (ps ++ [p]) → Below base w0 w1 → W.grownBy w1 v.ownBlock → (v1.ownBlock = v.ownBlock ∨ ∃ b, v1.ownBlock = some b ∧ W.heap.size ≤ b) → wpList P ops Q rest (a.put o.dst v1) w1) :
  wpList P ops Q (o :: rest) a (W.alloc (.cells cs.toArray e)) := by
 obtain ⟨inner, hown, hr⟩ := HO
 refine print_append_cells base hgd s x t e z size bytes ho ht hinfo hz hs0 hb0 v ps.length inner cs hs hx hcs h1 hown HB hbase hl ?_
 intro v1 w1 hown1 hb1 hg1 hat1
 exact h v1 w1 ⟨inner ++ cs, by rw [List.length_append, List.length_singleton]; exact hown1, hr.snoc hp hcs⟩ hb1 hg1 hat1
end
section
variable {P : Program} {ops : Array Oper} {o : Oper} {a : Act} {Q : Exit → Act → World → Prop} {K : Act → World → Prop} {α : Type} {R : α → List Value → Prop}
end
theorem ReadsRow.inner_ {α : Type} {R : α → List Value → Prop} {size : Nat} {w : World} {ad : Addr} {n : Nat} {ps : List α} (h : ReadsRow R size w (some ad) n ps) :
  ∃ inner, Reps R size ps inner ∧ ∀ j u, inner[j]? = some u → w.cell? (ad.add j) = some u := by
 have key : ∀ m, m ≤ ps.length → ∃ inner, Reps R size (ps.take m) inner ∧ ∀ j u, inner[j]? = some u → w.cell? (ad.add j) = some u := by
  intro m
  induction m with
  | zero => exact fun _ => ⟨[], Reps.none _ _, fun j u hu => by simp at hu⟩
  | succ m ih =>
   intro hm
   obtain ⟨inner, hr, hc⟩ := ih (by omega)
   obtain ⟨ad', he, hcell⟩ := h.2.2 (by have := h.1; omega)
   injection he with he
   subst he
   obtain ⟨c, hcl, hp, hcc⟩ := hcell m _ (List.getElem?_eq_getElem (show m < ps.length by omega))
   refine ⟨inner ++ c, ?_, fun j u hu => ?_⟩
   ·
    rw [List.take_succ_eq_append_getElem (show m < ps.length by omega)]
    exact hr.snoc hp hcl
   ·
    have hil : inner.length = m * size := by rw [hr.1, List.length_take, Nat.min_eq_left (by omega)]
    rcases Nat.lt_or_ge j inner.length with hj | hj
    ·
     rw [List.getElem?_append_left hj] at hu
     exact hc j u hu
    ·
     rw [List.getElem?_append_right hj] at hu
     have := hcc (j - inner.length) u hu
     rwa [hil, Nat.add_sub_cancel' (by omega)] at this
 obtain ⟨inner, hr, hc⟩ := key ps.length (Nat.le_refl _)
 rw [List.take_length] at hr
 exact ⟨inner, hr, hc⟩
section
variable {α : Type} {P : Program}
theorem ReadsOf.len_ {enc : α → Value} {d : α} {w : World} {A : Option Addr} {n : Nat} {xs : List α} (h : ReadsOf enc d w A n xs) : ReadsOf enc d w A xs.length xs := by rw [h.1]; exact h
end
section
variable {P : Program} {ops : Array Oper} {rest : List Oper} {o : Oper} {a : Act} {Q : Exit → Act → World → Prop}
end
structure Kd (α : Type) where
 sz : Nat
 E : List Nat
 K : World → α → List Value → Prop
 M : World → Nat → (Nat → Prop) → α → List Value → Prop
 K_len : ∀ {w x cs}, K w x cs → cs.length = sz
 K_one : ∀ {w x cs}, K w x cs → ∀ u ∈ cs, u.oneCell' = true
 K_below : ∀ {w w1 : World} {x cs}, Below w.heap.size w w1 → K w x cs → K w1 x cs
 K_of_M : ∀ {w base ok x cs}, M w base ok x cs → K w x cs
 M_mono : ∀ {w base ok ok' x cs}, (∀ k, ok k → ok' k) → M w base ok x cs → M w base ok' x cs
 M_bound : ∀ {w : World} {base ok x cs}, M w base ok x cs → M w base (fun k => ok k ∧ base ≤ k ∧ k < w.heap.size ∧ ∃ q, q ∈ E ∧ ∃ cells, w.heap[k]? = some (.cells cells q (0, 0))) x cs
 M_move : ∀ {w w1 : World} {base ok x cs}, (∀ k, ok k → w1.heap[k]? = w.heap[k]?) → M w base ok x cs → M w1 base ok x cs
 M_lower : ∀ {w base base' ok x cs}, base' ≤ base → M w base ok x cs → M w base' ok x cs
theorem own_move {w w1 : World} {base : Nat} {e : TypeId} {size n : Nat} {v : Value} {xs : List Value} (h : w.ownsRow base e size v n xs) (hm : ∀ k, v.ownBlock = some k → w1.heap[k]? = w.heap[k]?) : w1.ownsRow base e size v n xs := by
 obtain ⟨h1, h2⟩ := h
 refine ⟨h1, ?_⟩
 rcases h2 with h2 | ⟨g, cap, cur, rfl, hg, hh, r⟩
 · exact .inl h2
 · exact .inr ⟨g, cap, cur, rfl, hg, (hm g (by simp [Value.ownBlock])).trans hh, r⟩
theorem own_typed {w : World} {base : Nat} {e : TypeId} {size n : Nat} {v : Value} {xs : List Value} (h : w.ownsRow base e size v n xs) (k : Nat) (hk : v.ownBlock = some k) : ∃ cells, w.heap[k]? = some (.cells cells e (0, 0)) := by
 rcases h.2 with ⟨rfl, _⟩ | ⟨g, cap, cur, rfl, hg, hh, r⟩
 · simp [Value.ownBlock] at hk
 ·
  have : g = k := by simpa [Value.ownBlock] using hk
  subst this
  exact ⟨cur, hh⟩
namespace Kd
def C {α : Type} (d : Kd α) (w : World) (A : Option Addr) (n : Nat) (xs : List α) : Prop := ReadsRow (d.K w) d.sz w A n xs
def R {α : Type} (d : Kd α) (e : Nat) (w : World) (base : Nat) (ok : Nat → Prop) (v : Value) (xs : List α) : Prop :=
 (∀ k, v.ownBlock = some k → ok k) ∧ OwnRow (d.M w base (fun k => ok k ∧ some k ≠ v.ownBlock)) e d.sz w base v xs
section
variable {α : Type} {d : Kd α} {e : Nat} {w w1 : World} {base : Nat} {ok ok' : Nat → Prop} {v : Value} {xs : List α}
theorem C_below {A : Option Addr} {n : Nat} (h : d.C w A n xs) (hb : Below w.heap.size w w1) : d.C w1 A n xs := ReadsRow.imp_ h hb (fun _ _ hp => d.K_below hb hp)
theorem R_nil (d : Kd α) (e : Nat) (w : World) (base : Nat) (ok : Nat → Prop) : d.R e w base ok (.slice none 0 0) [] := ⟨fun k hk => by simp [Value.ownBlock] at hk, OwnRow.none_ _ _ _ _ _⟩
theorem R_mono (h : d.R e w base ok v xs) (hok : ∀ k, ok k → ok' k) : d.R e w base ok' v xs := ⟨fun k hk => hok k (h.1 k hk), h.2.imp_ (fun _ _ hp => d.M_mono (fun k hk => ⟨hok k hk.1, hk.2⟩) hp)⟩
theorem R_bound (h : d.R e w base ok v xs) : d.R e w base (fun k => ok k ∧ base ≤ k ∧ k < w.heap.size ∧ ∃ q, q ∈ e :: d.E ∧ ∃ cells, w.heap[k]? = some (.cells cells q (0, 0))) v xs := by
 obtain ⟨h0, inner, ho, hr⟩ := h
 refine ⟨fun k hk => ?_, inner, ho, hr.imp_ (fun _ _ hp => d.M_mono (fun k hk => ?_) (d.M_bound hp))⟩
 ·
  obtain ⟨cells, hc⟩ := own_typed ho k hk
  exact ⟨h0 k hk, own_base ho k hk, own_lt ho k hk, e, List.mem_cons_self, cells, hc⟩
 ·
  obtain ⟨⟨h1, h2⟩, h3, h4, q, hq, hc⟩ := hk
  exact ⟨⟨h1, h3, h4, q, List.mem_cons_of_mem _ hq, hc⟩, h2⟩
theorem R_move (h : d.R e w base ok v xs) (hm : ∀ k, ok k → w1.heap[k]? = w.heap[k]?) : d.R e w1 base ok v xs := by
 obtain ⟨h0, inner, ho, hr⟩ := h
 exact ⟨h0, inner, own_move ho (fun k hk => hm k (h0 k hk)), hr.imp_ (fun _ _ hp => d.M_move (fun k hk => hm k hk.1) hp)⟩
theorem R_lower {base' : Nat} (h : d.R e w base ok v xs) (hb : base' ≤ base) : d.R e w base' ok v xs := by
 obtain ⟨h0, inner, ho, hr⟩ := h
 exact ⟨h0, inner, own_weaken ho hb, hr.imp_ (fun _ _ hp => d.M_lower hb hp)⟩
theorem R_step (h : d.R e w base ok v xs) (hm : ∀ k, ok k → k < w.heap.size → w1.heap[k]? = w.heap[k]?) : d.R e w1 base ok v xs :=
 R_mono (R_move (R_bound h) (fun k hk => hm k hk.1 hk.2.2.1)) (fun _ hk => hk.1)
theorem R_below (h : d.R e w base ok v xs) (hb : Below w.heap.size w w1) : d.R e w1 base ok v xs := R_step h (fun k _ hk => hb.block k hk)
theorem R_far (h : d.R e w base ok v xs) {p : Addr} (hok : ∀ k, ok k → k ≠ p.block) (u : Value) : d.R e (w.setCell p u) base ok v xs := R_step h (fun k ho _ => Below.heap_setCell w p u k (hok k ho))
theorem R_reads (h : d.R e w base ok v xs) : ∃ A c, v = .slice A xs.length c ∧ xs.length ≤ c ∧ d.C w A xs.length xs := by
 obtain ⟨A, c, he, hl, hr⟩ := OwnRow.reads h.2
 exact ⟨A, c, he, hl, hr.imp_ (Below.refl _ _) (fun _ _ hp => d.K_of_M hp)⟩
end
def scalar {α : Type} (enc : α → Value) (h1 : ∀ x, (enc x).oneCell' = true) : Kd α where
 sz := 1
 E := []
 K := fun _ x cs => cs = [enc x]
 M := fun _ _ _ x cs => cs = [enc x]
 K_len := fun h => by rw [h]; rfl
 K_one := fun h u hu => by
  rw [h] at hu
  rw [List.mem_singleton.1 hu]
  exact h1 _
 K_below := fun _ h => h
 K_of_M := fun h => h
 M_mono := fun _ h => h
 M_bound := fun h => h
 M_move := fun _ h => h
 M_lower := fun _ h => h
def int (k : IntKind) : Kd Int := scalar (Value.int k) (fun _ => rfl)
def bool : Kd Bool := scalar Value.bool (fun _ => rfl)
def string : Kd ByteArray := scalar Value.string (fun _ => rfl)
def slice {α : Type} (e : Nat) (d : Kd α) : Kd (List α) where
 sz := 1
 E := e :: d.E
 K := fun w xs cs => ∃ A c, cs = [.slice A xs.length c] ∧ xs.length ≤ c ∧ d.C w A xs.length xs
 M := fun w base ok xs cs => ∃ v, cs = [v] ∧ d.R e w base ok v xs
 K_len := by
  rintro w x cs ⟨A, c, rfl, _⟩
  rfl
 K_one := by
  rintro w x cs ⟨A, c, rfl, _⟩ u hu
  rw [List.mem_singleton.1 hu]
  rfl
 K_below := by
  rintro w w1 x cs hb ⟨A, c, rfl, hl, hr⟩
  exact ⟨A, c, rfl, hl, C_below hr hb⟩
 K_of_M := by
  rintro w base ok x cs ⟨v, rfl, h⟩
  obtain ⟨A, c, rfl, hl, hr⟩ := R_reads h
  exact ⟨A, c, rfl, hl, hr⟩
 M_mono := by
  rintro w base ok ok' x cs hok ⟨v, rfl, h⟩
  exact ⟨v, rfl, R_mono h hok⟩
 M_bound := by
  rintro w base ok x cs ⟨v, rfl, h⟩
  exact ⟨v, rfl, R_bound h⟩
 M_move := by
  rintro w w1 base ok x cs hm ⟨v, rfl, h⟩
  exact ⟨v, rfl, R_move h hm⟩
 M_lower := by
  rintro w base base' ok x cs hb ⟨v, rfl, h⟩
  exact ⟨v, rfl, R_lower h hb⟩
def pair {α β : Type} (a : Kd α) (b : Kd β) : Kd (α × β) where
 sz := a.sz + b.sz
 E := a.E ++ b.E
 K := fun w x cs => ∃ c0 c1, cs = c0 ++ c1 ∧ a.K w x.1 c0 ∧ b.K w x.2 c1
 M := fun w base ok x cs => ∃ c0 c1, cs = c0 ++ c1 ∧ a.M w base ok x.1 c0 ∧ b.M w base ok x.2 c1
 K_len := by
  rintro w x cs ⟨c0, c1, rfl, h0, h1⟩
  rw [List.length_append, a.K_len h0, b.K_len h1]
 K_one := by
  rintro w x cs ⟨c0, c1, rfl, h0, h1⟩ u hu
  rcases List.mem_append.1 hu with hu | hu
  · exact a.K_one h0 u hu
  · exact b.K_one h1 u hu
 K_below := by
  rintro w w1 x cs hb ⟨c0, c1, rfl, h0, h1⟩
  exact ⟨c0, c1, rfl, a.K_below hb h0, b.K_below hb h1⟩
 K_of_M := by
  rintro w base ok x cs ⟨c0, c1, rfl, h0, h1⟩
  exact ⟨c0, c1, rfl, a.K_of_M h0, b.K_of_M h1⟩
 M_mono := by
  rintro w base ok ok' x cs hok ⟨c0, c1, rfl, h0, h1⟩
  exact ⟨c0, c1, rfl, a.M_mono hok h0, b.M_mono hok h1⟩
 M_bound := by
  rintro w base ok x cs ⟨c0, c1, rfl, h0, h1⟩
  refine ⟨c0, c1, rfl, a.M_mono ?_ (a.M_bound h0), b.M_mono ?_ (b.M_bound h1)⟩
  ·
   rintro k ⟨h2, h3, h4, q, hq, hc⟩
   exact ⟨h2, h3, h4, q, List.mem_append_left _ hq, hc⟩
  ·
   rintro k ⟨h2, h3, h4, q, hq, hc⟩
   exact ⟨h2, h3, h4, q, List.mem_append_right _ hq, hc⟩
 M_move := by
  rintro w w1 base ok x cs hm ⟨c0, c1, rfl, h0, h1⟩
  exact ⟨c0, c1, rfl, a.M_move hm h0, b.M_move hm h1⟩
 M_lower := by
  rintro w base base' ok x cs hb ⟨c0, c1, rfl, h0, h1⟩
  exact ⟨c0, c1, rfl, a.M_lower hb h0, b.M_lower hb h1⟩
def iso {α β : Type} (d : Kd α) (f : β → α) : Kd β where
 sz := d.sz
 E := d.E
 K := fun w x cs => d.K w (f x) cs
 M := fun w base ok x cs => d.M w base ok (f x) cs
 K_len := d.K_len
 K_one := d.K_one
 K_below := d.K_below
 K_of_M := d.K_of_M
 M_mono := d.M_mono
 M_bound := d.M_bound
 M_move := d.M_move
 M_lower := d.M_lower
def bot {α : Type} (sz : Nat) (E : List Nat) : Kd α where
 sz := sz
 E := E
 K := fun _ _ _ => False
 M := fun _ _ _ _ _ => False
 K_len := fun h => h.elim
 K_one := fun h => h.elim
 K_below := fun _ h => h
 K_of_M := fun h => h
 M_mono := fun _ h => h
 M_bound := fun h => h
 M_move := fun _ h => h
 M_lower := fun _ h => h
def upto {α : Type} (F : Kd α → Kd α) (sz : Nat) (E : List Nat) : Nat → Kd α
 | 0 => bot sz E
 | n + 1 => F (upto F sz E n)
theorem C_get {α : Type} {d : Kd α} {w : World} {A : Option Addr} {n : Nat} {xs : List α} (h : d.C w A n xs) (z : α) (i : Int) (h0 : 0 ≤ i) (h1 : i < n) :
  ∃ ad c, A = some ad ∧ c.length = d.sz ∧ d.K w (xs.getD i.toNat z) c ∧ ∀ j u, c[j]? = some u → w.cell? (ad.add (i.toNat * d.sz + j)) = some u := ReadsRow.get_ h z i h0 h1
section
variable {P : Program} {ops : Array Oper} {rest : List Oper} {o : Oper} {a : Act} {Q : Exit → Act → World → Prop} {α : Type}
end
section
variable {P : Program} {ops : Array Oper} {o : Oper} {a : Act} {Q : Exit → Act → World → Prop} {Kc : Act → World → Prop} {α : Type}
end
theorem reps_scalar {α : Type} {enc : α → Value} (xs : List α) : Reps (fun (x : α) (cs : List Value) => cs = [enc x]) 1 xs (encs enc xs) := by
 refine ⟨by simp [encs], fun j p hj => ?_⟩
 obtain ⟨hl, hp⟩ := List.getElem?_eq_some_iff.1 hj
 have hl' : j < (encs enc xs).length := by rw [encs_length]; exact hl
 rw [Nat.mul_one, List.drop_eq_getElem_cons hl']
 simp [encs, hp]
theorem R_of_own {α : Type} {enc : α → Value} {h1 : ∀ x, (enc x).oneCell' = true} {e : Nat} {w : World} {base : Nat} {ok : Nat → Prop} {v : Value} {xs : List α} (ho : w.ownsRow base e 1 v xs.length (encs enc xs)) (hok : ∀ k, v.ownBlock = some k → ok k) : (scalar enc h1).R e w base ok v xs := ⟨hok, encs enc xs, ho, reps_scalar xs⟩
theorem reads_of_C {α : Type} {enc : α → Value} {d : α} {h1 : ∀ x, (enc x).oneCell' = true} {w : World} {A : Option Addr} {n : Nat} {xs : List α} (h : (scalar enc h1).C w A n xs) : ReadsOf enc d w A n xs := by
 refine ⟨h.1, h.2.1, fun hn => ?_⟩
 obtain ⟨ad, e, hc⟩ := h.2.2 hn
 refine ⟨ad, e, fun j hj => ?_⟩
 have hl : j < xs.length := by have := h.1; omega
 obtain ⟨c, _, hK, hcell⟩ := hc j _ (List.getElem?_eq_getElem hl)
 have hK' : c = [enc xs[j]] := hK
 subst hK'
 have := hcell 0 _ rfl
 simpa [scalar, List.getD_eq_getElem?_getD, List.getElem?_eq_getElem hl] using this
end Kd
namespace Kd
section
variable {α : Type} {F : Kd α → Kd α} {sz : Nat} {E : List Nat} {hs : ∀ n, (upto F sz E n).sz = sz} {hE : ∀ n q, q ∈ (upto F sz E n).E → q ∈ E}
end
end Kd
namespace Kd
end Kd
namespace Kd
section
variable {α β : Type} {d : Kd α} {d' : Kd β} {e e' : Nat} {w w1 W : World} {base b b' : Nat} {ok ok' okv oku : Nat → Prop} {v u : Value} {xs : List α} {ys : List β}
theorem C_drew {A : Option Addr} {n : Nat} (h : d.C w A n xs) : d.C w.drew A n xs := C_below h (below_drew (Below.refl _ _))
theorem C_nil (d : Kd α) (w : World) : d.C w none ([] : List α).length [] := ⟨rfl, by simp, fun h => absurd h (Nat.lt_irrefl 0)⟩
end
section
variable {w W : World} {A : Option Addr} {n : Nat}
theorem at_string {xs : List ByteArray} (h : Kd.string.C w A n xs) (i : Int) (h0 : 0 ≤ i) (h1 : i < n) : ∃ ad, A = some ad ∧ w.cell? (ad.add i.toNat) = some (.string (rdOf ByteArray.empty xs i)) :=
 ReadsOf.at_ (reads_of_C (enc := Value.string) (d := ByteArray.empty) (h1 := fun _ => rfl) h) i h0 h1
variable {α : Type} {enc : α → Value} {h1 : ∀ x, (enc x).oneCell' = true} {e base g cap : Nat} {ok : Nat → Prop} {xs : List α}
end
section
variable {P : Program} {ops : Array Oper} {rest : List Oper} {o : Oper} {a : Act} {Q : Exit → Act → World → Prop}
variable {α : Type}
end
end Kd
section
variable {P : Program}
end
def QRow (w : World) (base : Nat) (e : TypeId) (size : Nat) (v : Value) (n : Nat) (xs : List Value) : Prop :=
  xs.length = n * size ∧
  ((n = 0 ∧ ∃ A, v = .slice A 0 0 ∧ ∀ a, A = some a → base ≤ a.block ∧ ∃ cur, w.heap[a.block]? = some (.cells cur e (0, 0))) ∨
   ∃ g off cap cur, v = .slice (some ⟨g, off * size, none⟩) n cap ∧ base ≤ g ∧ w.heap[g]? = some (.cells cur e (0, 0)) ∧ n ≤ cap ∧ off + cap ≤ maxLen ∧ cur.size = (off + cap) * size ∧ (cur.toList.drop (off * size)).take (n * size) = xs)
section
variable {w w1 : World} {base n size : Nat} {e : TypeId} {v : Value} {xs : List Value}
end
section
variable {P : Program}
end
namespace Kd
def Q {α : Type} (d : Kd α) (e : Nat) (w : World) (base : Nat) (ok : Nat → Prop) (v : Value) (xs : List α) : Prop :=
 (∀ k, v.ownBlock = some k → ok k) ∧ ∃ inner, QRow w base e d.sz v xs.length inner ∧ Reps (d.M w base (fun k => ok k ∧ some k ≠ v.ownBlock)) d.sz xs inner
section
variable {α : Type} {d : Kd α} {e : Nat} {w w1 W : World} {base : Nat} {ok ok' : Nat → Prop} {v : Value} {xs : List α}
end
section
variable {P : Program} {ops : Array Oper} {rest : List Oper} {o : Oper} {a : Act} {Q' : Exit → Act → World → Prop} {Kc : Act → World → Prop} {α : Type}
end
end Kd
namespace Kd
section
variable {α : Type} {d : Kd α} {e e' : Nat} {w w1 W : World} {base : Nat} {ok : Nat → Prop} {u v : Value} {xs : List α}
end
end Kd
namespace Kd
section
variable {α : Type} {d : Kd α} {e base g n cap : Nat} {ok okp : Nat → Prop} {W : World} {xs : List α}
end
end Kd
namespace Kd
section
variable {α : Type} {F : Kd α → Kd α} {sz : Nat} {E : List Nat} {hs : ∀ n, (upto F sz E n).sz = sz} {hE : ∀ n q, q ∈ (upto F sz E n).E → q ∈ E}
end
end Kd
namespace Kd
theorem reps_append {α : Type} {R : α → List Value → Prop} {size : Nat} {ps qs : List α} {cs ds : List Value} (h : Reps R size ps cs) (h' : Reps R size qs ds) : Reps R size (ps ++ qs) (cs ++ ds) := by
 refine ⟨by rw [List.length_append, List.length_append, h.1, h'.1, Nat.add_mul], fun j p hj => ?_⟩
 rcases Nat.lt_or_ge j ps.length with hlt | hge
 ·
  rw [List.getElem?_append_left hlt] at hj
  have hle : j * size + size ≤ cs.length := by rw [h.1, ← Nat.succ_mul]; exact Nat.mul_le_mul_right _ hlt
  rw [List.drop_append_of_le_length (by omega), List.take_append_of_le_length (by rw [List.length_drop]; omega)]
  exact h.2 j p hj
 ·
  rw [List.getElem?_append_right hge] at hj
  have h2 := h'.2 (j - ps.length) p hj
  have hle : ps.length * size ≤ j * size := Nat.mul_le_mul_right _ hge
  rw [List.drop_append, List.drop_eq_nil_of_le (by rw [h.1]; exact hle), List.nil_append, h.1, ← Nat.sub_mul]
  exact h2
section
variable {P : Program} {ops : Array Oper} {rest : List Oper} {o : Oper} {a : Act} {Q : Exit → Act → World → Prop} {α : Type}
theorem R_append_rows (d : Kd α) {Rr : α → List Value → Prop} {w0 W : World} (base : Nat) (hgd : o.guard = none) (s x : Operand) (t e : TypeId) (z : Value) (bytes : Nat)
  (ho : o.op = .call { callee := .builtin .append, args := #[s, x], argTypes := #[t, t] })
  (ht : P.underlying t = some (.slice e)) (hinfo : (P.info? e).map (fun i => (i.zero, i.size, i.bytes)) = some (some z, d.sz, bytes)) (hz : z.cells.size = d.sz) (hs0 : 0 < d.sz) (hb0 : 0 < bytes)
  (v : Value) (xs ys : List α) (A : Option Addr) (m c : Nat) (ok okp : Nat → Prop) (hs : a.eval s = v) (hx : a.eval x = .slice A m c)
  (HO : d.R e W base ok v xs) (HR : ReadsRow Rr d.sz W A m ys) (hKM : ∀ x cs, Rr x cs → d.M W base okp x cs) (hokp : ∀ k, okp k → ok k ∧ some k ≠ v.ownBlock) (hfresh : ∀ k, W.heap.size ≤ k → ok k)
  (HB : Below base w0 W) (hbase : base ≤ W.heap.size) (hl : (xs.length + m) * bytes ≤ 140737488355328)
  (h : ∀ v1 w1, d.R e w1 base ok v1 (xs ++ ys) → Below base w0 w1 → W.grownBy w1 v.ownBlock → (v1.ownBlock = v.ownBlock ∨ ∃ b, v1.ownBlock = some b ∧ W.heap.size ≤ b) → wpList P ops Q rest (a.put o.dst v1) w1) :
  wpList P ops Q (o :: rest) a W := by
 obtain ⟨i0, hi, hzz⟩ := Option.map_eq_some_iff.1 hinfo
 simp only [Prod.mk.injEq] at hzz
 obtain ⟨hz0, hz1, hz2⟩ := hzz
 have hm : ys.length = m := HR.1
 have hlen : xs.length + m ≤ 140737488355328 := Nat.le_trans (Nat.le_mul_of_pos_right _ hb0) hl
 obtain ⟨hok, inner, hown, hr⟩ := HO
 have hrun : ∃ v1 w1, (Builtin.append_ #[t, t] o.type #[v, .slice A m c]).run P W = .ok v1 w1 ∧ d.R e w1 base ok v1 (xs ++ ys) ∧ W.grownBy w1 v.ownBlock ∧ (v1.ownBlock = v.ownBlock ∨ ∃ b, v1.ownBlock = some b ∧ W.heap.size ≤ b) := by
  rcases A with _ | ad
  ·
   have h0 : m = 0 := by
    rcases Nat.eq_zero_or_pos m with h0 | h0
    · exact h0
    ·
     obtain ⟨ad, h, _⟩ := HR.2.2 h0
     cases h
   subst h0
   obtain rfl : ys = [] := List.eq_nil_of_length_eq_zero hm
   refine ⟨v, W, ?_, by rw [List.append_nil]; exact ⟨hok, inner, hown, hr⟩, World.grownBy.refl W _, .inl rfl⟩
   rcases hown.2 with ⟨rfl, hn⟩ | ⟨g, cap, cur, rfl, _, _, hnc, _⟩
   · simp [Builtin.append_, run_underlying ht, sizeOf, typeInfo, hi, Builtin.lenOf, Builtin.firstCells]
   · simp [Builtin.append_, run_underlying ht, sizeOf, typeInfo, hi, Builtin.lenOf, Builtin.firstCells, hnc, storeCells]
  ·
   obtain ⟨news, hnr, hnc⟩ := ReadsRow.inner_ HR
   have hnM : Reps (d.M W base okp) d.sz ys news := hnr.imp_ (fun p c hp => hKM p c hp)
   have hone : ∀ u ∈ news, u.oneCell' = true := by
    intro u hu
    obtain ⟨q, hq, rfl⟩ := List.mem_iff_getElem.1 hu
    have hql : q / d.sz < ys.length := by
     rw [Nat.div_lt_iff_lt_mul hs0]
     rw [← hnM.1]
     exact hq
    have hc := hnM.2 (q / d.sz) _ (List.getElem?_eq_getElem hql)
    refine d.K_one (d.K_of_M hc) _ ?_
    rw [List.mem_iff_getElem?]
    refine ⟨q % d.sz, ?_⟩
    rw [List.getElem?_take, if_pos (Nat.mod_lt _ hs0), List.getElem?_drop, Nat.mul_comm, Nat.div_add_mod, List.getElem?_eq_getElem hq]
   obtain ⟨v1, w1, hrun, h2, hg, _, hat⟩ := run_append_own_at (P := P) W base t o.type e i0 z d.sz bytes ht hi hz0 hz1 hz2 hz hs0 v xs.length inner hown ad m c news (by rw [hnM.1, hm]) hnc hone (by simp only [maxLen]; omega) hl hbase
   have hat' : v1.ownBlock = v.ownBlock ∨ ∃ b, v1.ownBlock = some b ∧ W.heap.size ≤ b := by
    rcases hat with hat | hat
    · exact .inl hat
    · exact .inr ⟨_, hat, Nat.le_refl _⟩
   have hne : ∀ k, some k ≠ v.ownBlock → k < W.heap.size → some k ≠ v1.ownBlock := by
    intro k hk hlt
    rcases hat' with hat | ⟨b, hb, hle⟩
    · rw [hat]; exact hk
    ·
     rw [hb]
     intro he
     injection he with he
     omega
   have step : ∀ {q : α} {c : List Value} {o : Nat → Prop}, d.M W base o q c → (∀ k, o k → ok k ∧ some k ≠ v.ownBlock) → d.M w1 base (fun k => ok k ∧ some k ≠ v1.ownBlock) q c := by
    intro q c o hq ho
    have h1 := d.M_move (w1 := w1) (fun k hk => hg.block k hk.2.2.1 (ho k hk.1).2) (d.M_bound hq)
    exact d.M_mono (fun k hk => ⟨(ho k hk.1).1, hne k (ho k hk.1).2 hk.2.2.1⟩) h1
   refine ⟨v1, w1, hrun, ⟨fun k hk => ?_, inner ++ news, by rw [List.length_append, hm]; exact h2, reps_append (hr.imp_ (fun _ _ hq => step hq (fun _ hk => hk))) (hnM.imp_ (fun _ _ hq => step hq hokp))⟩, hg, hat'⟩
   rcases hat' with hat | ⟨b, hb, hle⟩
   · exact hok k (hat ▸ hk)
   ·
    rw [hb] at hk
    injection hk with hk
    exact hfresh k (by omega)
 obtain ⟨v1, w1, hr1, h1, hg, hat⟩ := hrun
 refine wpList_plain hgd fun K hK => ?_
 unfold Oper.wp execOp
 simp only [ho, resolve, invoke, builtin, Sem.run_bind, Sem.run_pure, Result.andThen_ok, List.map_toArray, List.map_cons, List.map_nil, hs, hx, hr1]
 exact hK _ _ (h v1 w1 h1 (HB.grown hg hbase (own_base hown)) hg hat)
end
end Kd
namespace Kd
section
variable {P : Program} {ops : Array Oper} {rest : List Oper} {o : Oper} {a : Act} {Q : Exit → Act → World → Prop} {α : Type}
end
end Kd
theorem add_add (a : Addr) (i j : Nat) : (a.add i).add j = a.add (i + j) := by
 unfold Addr.add
 by_cases h1 : i = 0 <;> by_cases h2 : j = 0 <;> simp [h1, h2, Nat.add_assoc]
namespace Kd
section
variable {α : Type} {k : Kd α} {w : World} {A : Option Addr} {xs : List α} {m c : Nat}
theorem C_take (h : k.C w A xs.length xs) (hm : m ≤ xs.length) : k.C w A (xs.take m).length (xs.take m) := by
 have hl : (xs.take m).length = m := by rw [List.length_take]; omega
 refine ⟨rfl, by rw [hl]; have := h.2.1; omega, fun hp => ?_⟩
 obtain ⟨ad, e, hc⟩ := h.2.2 (by omega)
 refine ⟨ad, e, fun j p hj => hc j p ?_⟩
 rw [List.getElem?_take] at hj
 split at hj
 · exact hj
 · cases hj
theorem C_drop (h : k.C w A xs.length xs) (hm : m ≤ xs.length) (hc : xs.length ≤ c) : k.C w (if c = m then A else A.map (·.add (m * k.sz))) (xs.drop m).length (xs.drop m) := by
 have hl : (xs.drop m).length = xs.length - m := List.length_drop
 refine ⟨rfl, by rw [hl]; have := h.2.1; omega, fun hp => ?_⟩
 rw [hl] at hp
 obtain ⟨ad, rfl, hcell⟩ := h.2.2 (by omega)
 rw [if_neg (by omega)]
 refine ⟨ad.add (m * k.sz), rfl, fun j p hj => ?_⟩
 rw [List.getElem?_drop] at hj
 obtain ⟨cs, h1, h2, h3⟩ := hcell (m + j) p hj
 refine ⟨cs, h1, h2, fun i u hu => ?_⟩
 rw [add_add, show m * k.sz + (j * k.sz + i) = (m + j) * k.sz + i by rw [Nat.add_mul]; omega]
 exact h3 i u hu
end
end Kd
section
variable {P : Program}
end
theorem ReadsInt.nil (W : World) (k : IntKind) : ReadsInt W k none ([] : List Int).length [] := ⟨rfl, by simp, fun h => absurd h (Nat.lt_irrefl 0)⟩
theorem ReadsInt.drewN {W : World} {k : IntKind} {A : Option Addr} {n : Nat} {xs : List Int} (h : ReadsInt W k A n xs) (m : Nat) : ReadsInt (W.drewN m) k A n xs := h
theorem keep_cell {w W : World} {g : Nat} (h : KeepBut w W g none) {a : Addr} {v : Value} (hc : w.cell? a = some v) (hne : a.block ≠ g) : W.cell? a = some v := by
 have := h.2 a.block (World.block_lt_of_cell? w a hc) hne (by simp)
 simpa [World.cell?, this] using hc
theorem add_block (a : Addr) (i : Nat) : (a.add i).block = a.block := by unfold Addr.add; split <;> rfl
theorem ReadsOf.nil {α : Type} (enc : α → Value) (d : α) (W : World) : ReadsOf enc d W none ([] : List α).length [] := ⟨rfl, by simp, fun h => absurd h (Nat.lt_irrefl 0)⟩
theorem ReadsOf.drewN {α : Type} {enc : α → Value} {d : α} {W : World} {A : Option Addr} {n : Nat} {xs : List α} (h : ReadsOf enc d W A n xs) (m : Nat) : ReadsOf enc d (W.drewN m) A n xs := h
theorem ReadsInt.keep {w W : World} {k : IntKind} {A : Option Addr} {n g : Nat} {xs : List Int} (h : ReadsInt w k A n xs) (hk : KeepBut w W g none) (hf : ∀ ad, A = some ad → 0 < n → ad.block ≠ g) : ReadsInt W k A n xs :=
 ⟨h.1, h.2.1, fun hn => by
  obtain ⟨ad, e, hc⟩ := h.2.2 hn
  exact ⟨ad, e, fun j hj => keep_cell hk (hc j hj) (by rw [add_block]; exact hf ad e hn)⟩⟩
theorem ReadsOf.keep {α : Type} {enc : α → Value} {d : α} {w W : World} {A : Option Addr} {n g : Nat} {xs : List α} (h : ReadsOf enc d w A n xs) (hk : KeepBut w W g none) (hf : ∀ ad, A = some ad → 0 < n → ad.block ≠ g) : ReadsOf enc d W A n xs :=
 ⟨h.1, h.2.1, fun hn => by
  obtain ⟨ad, e, hc⟩ := h.2.2 hn
  exact ⟨ad, e, fun j hj => keep_cell hk (hc j hj) (by rw [add_block]; exact hf ad e hn)⟩⟩
namespace Kd
section
variable {α β : Type} {d : Kd α} {d' : Kd β} {e e' base base' n : Nat} {ok ok' : Nat → Prop} {w W w1 W1 : World} {v u : Value} {xs : List α} {ys : List β} {A : Option Addr} {c : Nat}
end
section
variable {α : Type} {enc : α → Value} {h1 : ∀ x, (enc x).oneCell' = true} {w W : World} {A : Option Addr} {n g : Nat} {xs : List α}
end
end Kd
namespace Kd
section
variable {α : Type} {d : Kd α} {e base g : Nat} {ok : Nat → Prop} {w w1 : World} {v : Value} {xs : List α} {o : Obj}
end
end Kd
section
variable {P : Program} {ops : Array Oper} {rest : List Oper} {o : Oper} {a : Act} {Q : Exit → Act → World → Prop}
end
namespace Kd
section
variable {α : Type} {enc : α → Value} {h1 : ∀ x, (enc x).oneCell' = true} {e base g n cap : Nat} {ok : Nat → Prop} {W : World} {xs : List α}
end
end Kd
section
variable {P : Program} {ops : Array Oper} {rest : List Oper} {o : Oper} {a : Act} {Q : Exit → Act → World → Prop}
end
namespace Kd
section
variable {α : Type} {enc : α → Value} {h1 : ∀ x, (enc x).oneCell' = true} {e base g n cap : Nat} {ok : Nat → Prop} {W : World} {xs : List α}
end
end Kd
section
variable {P : Program} {ops : Array Oper} {rest : List Oper} {o : Oper} {a : Act} {Q : Exit → Act → World → Prop} {W : World}
end
section
variable {P : Program} {ops : Array Oper} {o : Oper} {a : Act} {Q : Exit → Act → World → Prop} {Kc : Act → World → Prop}
namespace Kd
variable {α : Type}
theorem R_append_rows_step (d : Kd α) {Rr : α → List Value → Prop} {w0 W : World} (base : Nat) (hw : Region.wanted o (yielded ops a.tmps) = true) (s x : Operand) (t e : TypeId) (z : Value) (bytes : Nat)
  (ho : o.op = .call { callee := .builtin .append, args := #[s, x], argTypes := #[t, t] })
  (ht : P.underlying t = some (.slice e)) (hinfo : (P.info? e).map (fun i => (i.zero, i.size, i.bytes)) = some (some z, d.sz, bytes)) (hz : z.cells.size = d.sz) (hs0 : 0 < d.sz) (hb0 : 0 < bytes)
  (v : Value) (xs ys : List α) (A : Option Addr) (m c : Nat) (ok okp : Nat → Prop) (hs : a.eval s = v) (hx : a.eval x = .slice A m c)
  (HO : d.R e W base ok v xs) (HR : ReadsRow Rr d.sz W A m ys) (hKM : ∀ x cs, Rr x cs → d.M W base okp x cs) (hokp : ∀ k, okp k → ok k ∧ some k ≠ v.ownBlock) (hfresh : ∀ k, W.heap.size ≤ k → ok k)
  (HB : Below base w0 W) (hbase : base ≤ W.heap.size) (hl : (xs.length + m) * bytes ≤ 140737488355328)
  (h : ∀ v1 w1, d.R e w1 base ok v1 (xs ++ ys) → Below base w0 w1 → W.grownBy w1 v.ownBlock → (v1.ownBlock = v.ownBlock ∨ ∃ b, v1.ownBlock = some b ∧ W.heap.size ≤ b) → Kc (a.put o.dst v1) w1) :
  if Region.wanted o (yielded ops a.tmps) = true then Oper.wp P o a W Kc Q else Kc (a.put o.dst undef) W := by
 obtain ⟨i0, hi, hzz⟩ := Option.map_eq_some_iff.1 hinfo
 simp only [Prod.mk.injEq] at hzz
 obtain ⟨hz0, hz1, hz2⟩ := hzz
 have hm : ys.length = m := HR.1
 have hlen : xs.length + m ≤ 140737488355328 := Nat.le_trans (Nat.le_mul_of_pos_right _ hb0) hl
 obtain ⟨hok, inner, hown, hr⟩ := HO
 have hrun : ∃ v1 w1, (Builtin.append_ #[t, t] o.type #[v, .slice A m c]).run P W = .ok v1 w1 ∧ d.R e w1 base ok v1 (xs ++ ys) ∧ W.grownBy w1 v.ownBlock ∧ (v1.ownBlock = v.ownBlock ∨ ∃ b, v1.ownBlock = some b ∧ W.heap.size ≤ b) := by
  rcases A with _ | ad
  ·
   have h0 : m = 0 := by
    rcases Nat.eq_zero_or_pos m with h0 | h0
    · exact h0
    ·
     obtain ⟨ad, h, _⟩ := HR.2.2 h0
     cases h
   subst h0
   obtain rfl : ys = [] := List.eq_nil_of_length_eq_zero hm
   refine ⟨v, W, ?_, by rw [List.append_nil]; exact ⟨hok, inner, hown, hr⟩, World.grownBy.refl W _, .inl rfl⟩
   rcases hown.2 with ⟨rfl, hn⟩ | ⟨g, cap, cur, rfl, _, _, hnc, _⟩
   · simp [Builtin.append_, run_underlying ht, sizeOf, typeInfo, hi, Builtin.lenOf, Builtin.firstCells]
   · simp [Builtin.append_, run_underlying ht, sizeOf, typeInfo, hi, Builtin.lenOf, Builtin.firstCells, hnc, storeCells]
  ·
   obtain ⟨news, hnr, hnc⟩ := ReadsRow.inner_ HR
   have hnM : Reps (d.M W base okp) d.sz ys news := hnr.imp_ (fun p c hp => hKM p c hp)
   have hone : ∀ u ∈ news, u.oneCell' = true := by
    intro u hu
    obtain ⟨q, hq, rfl⟩ := List.mem_iff_getElem.1 hu
    have hql : q / d.sz < ys.length := by
     rw [Nat.div_lt_iff_lt_mul hs0]
     rw [← hnM.1]
     exact hq
    have hc := hnM.2 (q / d.sz) _ (List.getElem?_eq_getElem hql)
    refine d.K_one (d.K_of_M hc) _ ?_
    rw [List.mem_iff_getElem?]
    refine ⟨q % d.sz, ?_⟩
    rw [List.getElem?_take, if_pos (Nat.mod_lt _ hs0), List.getElem?_drop, Nat.mul_comm, Nat.div_add_mod, List.getElem?_eq_getElem hq]
   obtain ⟨v1, w1, hrun, h2, hg, _, hat⟩ := run_append_own_at (P := P) W base t o.type e i0 z d.sz bytes ht hi hz0 hz1 hz2 hz hs0 v xs.length inner hown ad m c news (by rw [hnM.1, hm]) hnc hone (by simp only [maxLen]; omega) hl hbase
   have hat' : v1.ownBlock = v.ownBlock ∨ ∃ b, v1.ownBlock = some b ∧ W.heap.size ≤ b := by
    rcases hat with hat | hat
    · exact .inl hat
    · exact .inr ⟨_, hat, Nat.le_refl _⟩
   have hne : ∀ k, some k ≠ v.ownBlock → k < W.heap.size → some k ≠ v1.ownBlock := by
    intro k hk hlt
    rcases hat' with hat | ⟨b, hb, hle⟩
    · rw [hat]; exact hk
    ·
     rw [hb]
     intro he
     injection he with he
     omega
   have step : ∀ {q : α} {c : List Value} {o : Nat → Prop}, d.M W base o q c → (∀ k, o k → ok k ∧ some k ≠ v.ownBlock) → d.M w1 base (fun k => ok k ∧ some k ≠ v1.ownBlock) q c := by
    intro q c o hq ho
    have h1 := d.M_move (w1 := w1) (fun k hk => hg.block k hk.2.2.1 (ho k hk.1).2) (d.M_bound hq)
    exact d.M_mono (fun k hk => ⟨(ho k hk.1).1, hne k (ho k hk.1).2 hk.2.2.1⟩) h1
   refine ⟨v1, w1, hrun, ⟨fun k hk => ?_, inner ++ news, by rw [List.length_append, hm]; exact h2, reps_append (hr.imp_ (fun _ _ hq => step hq (fun _ hk => hk))) (hnM.imp_ (fun _ _ hq => step hq hokp))⟩, hg, hat'⟩
   rcases hat' with hat | ⟨b, hb, hle⟩
   · exact hok k (hat ▸ hk)
   ·
    rw [hb] at hk
    injection hk with hk
    exact hfresh k (by omega)
 obtain ⟨v1, w1, hr1, h1, hg, hat⟩ := hrun
 rw [if_pos hw]
 unfold Oper.wp execOp
 simp only [ho, resolve, invoke, builtin, Sem.run_bind, Sem.run_pure, Result.andThen_ok, List.map_toArray, List.map_cons, List.map_nil, hs, hx, hr1]
 exact h v1 w1 h1 (HB.grown hg hbase (own_base hown)) hg hat
end Kd
end
section
variable {P : Program} {tmps : Array Value} {w : World}
end
namespace Kd
section
variable {P : Program} {α : Type}
end
section
variable {P : Program} {ops : Array Oper} {rest : List Oper} {o : Oper} {a : Act} {Q : Exit → Act → World → Prop} {Kc : Act → World → Prop} {α : Type}
end
end Kd
end Go.Proofs.YtnpeeiikdcankaaW.PrintWords
theorem Go.Proofs.Ytnpeeiikdcankaa.qa {p : Prop} (h : p) : Go.Proofs.YtnpeeiikdcankaaW.PrintWords.Aside0 p := ⟨h⟩

namespace Go.Proofs.Ytnpeeiikdcankaa.Pa
open Go.Proofs.YtnpeeiikdcankaaW.PrintWords (own_weaken)
open Go Go.RowKit Go.Shelf Go.Proofs Go.Proofs.Ytnpeeiikdcankaa
attribute [local go_sem] Oper.semAt_some
theorem infoS : (Try.prog.info? 9).map (fun i => (i.zero, i.size, i.bytes)) = some (some (.string ⟨#[]⟩), 1, 16) := by kernel_rfl
def encP (l : List (List UInt8)) : List Value := l.map fun x => Value.string (Sp.mk x)
theorem parts_maker (n : Nat) (s : ByteArray) (w : World) :
  CallsIn Fence.wide n Try.prog 63 #[.string s] w fun e w' => e = .returned (.func (.func 76) #[] #[.pointer (some ⟨w.heap.size, 0, none⟩)]) ∧ w' = w.alloc (.cells #[.string s] 9) := by
 refine callsIn_of_wp Try.func63 rfl trivial ?_ rfl
 simp only [Try.ntmps63, List.size_toArray, List.length_cons, List.length_nil, Nat.reduceAdd, Nat.reduceSub, Array.replicate_succ, Array.replicate_zero, List.push_toArray, List.append_toArray, List.nil_append, List.cons_append]
 gi_wp2
 go_ret
 exact ⟨rfl, rfl⟩
def Inv (w : World) (f : List (List UInt8) → List (List UInt8)) (pre : List (List UInt8)) (W : World) : Prop :=
 (∃ v, Boxed W w.heap.size 75 v ∧ W.ownsRow (w.heap.size + 2) 9 1 v (f pre).length (encP (f pre)) ∧ True) ∧ Below w.heap.size w W ∧ w.heap.size + 2 ≤ W.heap.size
theorem inv_own (w : World) (B : Nat) (hB : w.heap.size ≤ B) (f : List (List UInt8) → List (List UInt8)) : OwnFrom B (Inv w f) :=
 OwnFrom.and (Own.from (holdsRow_own (w.heap.size + 2) w.heap.size 75 9 1 (fun pre => (f pre).length) (fun pre => encP (f pre)) (fun _ _ => True)) _) (OwnFrom.and (ownFrom_below (Nat.le_refl _) hB) (fun s W W' row h hg _ => Nat.le_trans h hg.size))
theorem block_ge {W : World} {b e sz n : Nat} {v : Value} {xs : List Value} (h : W.ownsRow b e sz v n xs) : ∀ k, v.ownBlock = some k → b ≤ k := Go.Proofs.YtnpeeiikdcankaaW.PrintWords.own_base h
theorem inv_set (w : World) (f : List (List UInt8) → List (List UInt8)) (pre : List (List UInt8)) (W : World) (v : Value) (h : Inv w f pre W) : Inv w f pre (W.setCell ⟨w.heap.size + 1, 0, none⟩ v) := by
 obtain ⟨⟨u, hb, hr, _⟩, hB, hz⟩ := h
 refine ⟨⟨u, hb.other (by omega) _, hr.kept (grownBy_setCell' W _ v) (.inr ?_), trivial⟩, hB.setCell (p := ⟨w.heap.size + 1, 0, none⟩) (by simp) v, by simpa using hz⟩
 intro e
 have := block_ge hr _ e
 omega
theorem parts_in (n : Nat) (hn : 3 ≤ n) (s : ByteArray) (w : World) (hs : s.size < 4294967295) :
  CallsIn Fence.wide n Try.prog 46 #[.string s] w fun e W' => ∃ v, e = .returned v ∧ W'.ownsRow w.heap.size 9 1 v (Sp.parts s.data.toList).length (encP (Sp.parts s.data.toList)) ∧ Below w.heap.size w W' := by
 have h1 : 1 ≤ n := by omega
 obtain ⟨i0, hi, hz0, hz1, hz2⟩ := info_parts infoS
 refine callsIn_of_wp_marks Try.func46 rfl trivial ?_ rfl
 simp only [Try.ntmps46, List.size_toArray, List.length_cons, List.length_nil, Nat.reduceAdd, Nat.reduceSub, Array.replicate_succ, Array.replicate_zero, List.push_toArray, List.append_toArray, List.nil_append, List.cons_append]
 gi_wp2_with (refine ⟨trivial, ?_⟩; gi_at_call 63; refine (parts_maker (n - 1) _ _).mono ?_; rintro e w' ⟨rfl, rfl⟩)
 have bO := Boxed.new w 75 (.slice none 0 0)
 have bN := Boxed.new (w.alloc (.cells #[.slice none 0 0] 75)) 9 (.string s)
 rw [World.size_alloc] at bN
 have hB0 : Below w.heap.size w ((w.alloc (.cells #[.slice none 0 0] 75)).alloc (.cells #[.string s] 9)) := ((Below.refl _ w).alloc (Nat.le_refl _) _).alloc (by simp) _
 have bN2 : Boxed ((w.alloc (.cells #[.slice none 0 0] 75)).alloc (.cells #[.string s] 9)) (w.heap.size + 1) 9 (.string (Sp.mk s.data.toList)) := by rw [Sp.mk_of]; exact bN
 have hpl := Sp.parts_len s.data.toList
 rw [← Sp.size_eq] at hpl
 refine Rg.wpIn_range rfl h1 (gf := 76) (lb := #[.pointer (some ⟨w.heap.size + 1, 0, none⟩)]) rfl trivial (enters_of Try.func76 (by kernel_rfl) rfl)
  (iter (n - 1) (by omega) (w.heap.size + 1) s.data.toList _ (by rw [← Sp.size_eq]; omega) bN2) (by simp) (Below.refl _ _) (fun _ => rfl)
  (Inv w (fun pre => pre)) (fun _ _ _ => False) (inv_own w _ (by simp; omega) _) (fun _ _ _ _ _ hs _ _ => hs) (inv_set w _)
  ⟨⟨_, bO.alloc _, World.ownsRow_nil _ _ _ _, trivial⟩, hB0, by simp⟩
  (fun x => { tmps := #[.string s, undef, .slice none 0 0, .pointer (some ⟨w.heap.size, 0, none⟩), .string (Sp.mk x), .string s, .func (.func 76) #[] #[.pointer (some ⟨w.heap.size + 1, 0, none⟩)], .string (Sp.mk x), undef, undef, undef, undef, undef], defers := [] }) ?assign ?body ?done ?stop
 case assign =>
  intro l x W K hK
  gi_wp2
  exact hK
 case body =>
  rintro l pre x W ⟨⟨v, hv, hrow, _⟩, hB, hz⟩ hpx
  have hrow : W.ownsRow (w.heap.size + 2) 9 1 v pre.length (encP pre) := hrow
  have hle := hpx.length_le
  simp only [List.length_append, List.length_singleton] at hle
  have hc := hv.cell
  have hsz := hB.size
  gi_wp2_with (gi_at_builtin; go_must (refine wpListIn_append_own _ rfl _ _ 75 rfl (w.heap.size + 2) 9 i0 (.string ⟨#[]⟩) 1 16 Try.underlying75 hi hz0 hz1 hz2 rfl (by decide) _ _ _ rfl (hrow.alloc _) ⟨W.heap.size, 0, none⟩ 1 1 [.string (Sp.mk x)] rfl rfl (cell_one_new _ _ _) (by simp [Value.oneCell']) (by unfold maxLen; omega) (by omega) (by simp; omega) ?_); intro v' w1 hown' hgrow _; obtain ⟨g', cap', rfl⟩ := ownsRow_succ hown'; obtain ⟨hv1, hv2, hr2, hk2, hb2⟩ := hv.appended (by decide) (own_weaken hrow (by omega)) hB.size (Nat.le_refl _) (own_weaken hown' (by omega)) hgrow; have hbs := qh (fun (u : Value) (hu : Boxed W (w.heap.size + 1) 9 u) => ((hu.alloc (.cells #[.string (Sp.mk x)] 9)).kept hgrow (fun e => by have := block_ge hrow _ e.symm; omega)).other (B' := w.heap.size) (by omega) (Value.slice (some ⟨g', 0, none⟩) (pre.length + 1) cap')); have hrw := qh (hown'.kept (grownBy_setCell' w1 w.heap.size (Value.slice (some ⟨g', 0, none⟩) (pre.length + 1) cap')) (.inr (hv1.not_row (by decide) hown').symm)); have hc1 := hv1.cell; have hf1 := hv1.frozen)
  exact ⟨hk2, hbs.out, ⟨_, hv2, by simpa [encP] using hrw.out, trivial⟩, hB.trans hb2, Nat.le_trans hz (by have := hb2.size; have := hk2.size; omega)⟩
 case done =>
  rintro D W hD ⟨⟨v, hv, hrow, _⟩, hB, hz⟩ hK
  have hc := hv.cell
  gi_wp2
  refine ⟨by simp, .inl ⟨_, _, rfl, run_takeDeferred hK, ?_⟩⟩
  exact ⟨_, results_tmp rfl _ _ _, v, rfl, own_weaken (ownsRow_putObj hrow _ hK rfl) (by omega), hB.trans (belowK_b (w := w) (Nat.le_refl _) W D _ _ (by simp at hD; omega) hK rfl rfl)⟩
 case stop =>
  rintro D c pre W _ _ h _
  exact h.elim
end Go.Proofs.Ytnpeeiikdcankaa.Pa

namespace Go.Proofs.Ytnpeeiikdcankaa.An
open Go Go.RowKit Go.Proofs Go.Proofs.Ytnpeeiikdcankaa
theorem below_dn {B : Nat} {a w : World} (h : Below B a w) (n : Nat) : Below B a (w.drewN n) := h.trans ⟨rfl, rfl, rfl, Nat.le_refl _, fun _ _ => rfl⟩
def Ascii (s : ByteArray) : Prop := ∀ (j : Nat) b, s.data.toList[j]? = some b → b.toNat < 128
theorem Ascii.at_ {s : ByteArray} (h : Ascii s) (j : Nat) (hj : j < s.size) : (s[j]'hj).toNat < 128 := h j _ (Lib.data_getElem? s j hj)
theorem encode_high {r : Int} (h0 : 128 ≤ r) (h1 : r ≤ 1114111) : 2 ≤ (Utf8.encode r).size ∧ (Utf8.encode r).size ≤ 4 ∧ ∀ (j : Nat) (hj : j < (Utf8.encode r).size), 128 ≤ ((Utf8.encode r)[j]'hj).toNat := by
 have key : ∀ c : Nat, 128 ≤ c → c ≤ 1114111 → ∀ s : ByteArray, s = (if c < 0x80 then (⟨#[UInt8.ofNat c]⟩ : ByteArray) else if c < 0x800 then ⟨#[UInt8.ofNat (0xC0 + c / 64), UInt8.ofNat (0x80 + c % 64)]⟩ else if c < 0x10000 then ⟨#[UInt8.ofNat (0xE0 + c / 4096), UInt8.ofNat (0x80 + c / 64 % 64), UInt8.ofNat (0x80 + c % 64)]⟩ else ⟨#[UInt8.ofNat (0xF0 + c / 262144), UInt8.ofNat (0x80 + c / 4096 % 64), UInt8.ofNat (0x80 + c / 64 % 64), UInt8.ofNat (0x80 + c % 64)]⟩) → 2 ≤ s.size ∧ s.size ≤ 4 ∧ ∀ (j : Nat) (hj : j < s.size), 128 ≤ (s[j]'hj).toNat := by
  intro c hc0 hc1 s hs
  have hb : ∀ n : Nat, 128 ≤ n → n < 256 → 128 ≤ (UInt8.ofNat n).toNat := by
   intro n hn0 hn1
   rw [UInt8.toNat_ofNat', Nat.mod_eq_of_lt (by simpa using hn1)]
   exact hn0
  rw [if_neg (by omega)] at hs
  split at hs
  ·
   subst hs
   refine ⟨by simp [ByteArray.size], by simp [ByteArray.size], ?_⟩
   intro j hj
   have hj' : j < 2 := hj
   rcases j with _ | _ | j
   · exact hb _ (by omega) (by omega)
   · exact hb _ (by omega) (by omega)
   · omega
  ·
   split at hs
   ·
    subst hs
    refine ⟨by simp [ByteArray.size], by simp [ByteArray.size], ?_⟩
    intro j hj
    have hj' : j < 3 := hj
    rcases j with _ | _ | _ | j
    · exact hb _ (by omega) (by omega)
    · exact hb _ (by omega) (by omega)
    · exact hb _ (by omega) (by omega)
    · omega
   ·
    subst hs
    refine ⟨by simp [ByteArray.size], by simp [ByteArray.size], ?_⟩
    intro j hj
    have hj' : j < 4 := hj
    rcases j with _ | _ | _ | _ | j
    · exact hb _ (by omega) (by omega)
    · exact hb _ (by omega) (by omega)
    · exact hb _ (by omega) (by omega)
    · exact hb _ (by omega) (by omega)
    · omega
 have hc : 128 ≤ (if Utf8.valid r then r.toNat else Utf8.runeError) ∧ (if Utf8.valid r then r.toNat else Utf8.runeError) ≤ 1114111 := by
  split
  · omega
  · simp [Utf8.runeError]
 exact key _ hc.1 hc.2 _ rfl
theorem decode_low (s : ByteArray) (i : Nat) (h : (s.get! i).toNat < 128) : Utf8.decode s i = ((s.get! i).toNat, 1) := by
 unfold Utf8.decode
 simp only [Nat.add_zero]
 rw [if_pos (by omega)]
theorem decode_high (s : ByteArray) (i : Nat) (h : 128 ≤ (s.get! i).toNat) : 128 ≤ (Utf8.decode s i).1 ∧ (Utf8.decode s i).1 ≤ 1114111 ∧ ∀ k, k < (Utf8.decode s i).2 → 128 ≤ (s.get! (i + k)).toNat := by
 have hl : ∀ j, (s.get! j).toNat < 256 := fun j => (s.get! j).toNat_lt
 have h0 := hl i
 have h1 := hl (i + 1)
 have h2 := hl (i + 2)
 have h3 := hl (i + 3)
 have one : ∀ k, k < 1 → 128 ≤ (s.get! (i + k)).toNat := fun k hk => by
  obtain rfl : k = 0 := by omega
  simpa using h
 unfold Utf8.decode
 simp only [Nat.add_zero]
 rw [if_neg (by omega)]
 simp only [Utf8.runeError, Bool.and_eq_true, beq_iff_eq, decide_eq_true_eq]
 split
 ·
  rename_i hc
  split
  ·
   rename_i hv
   refine ⟨by simpa using hv, by simp only; omega, ?_⟩
   intro k hk
   have hk' : k < 2 := hk
   rcases k with _ | _ | k
   · simpa using h
   · show 128 ≤ (s.get! (i + 1)).toNat; omega
   · omega
  · exact ⟨by simp, by simp, one⟩
 ·
  split
  ·
   rename_i hc
   split
   ·
    rename_i hv
    refine ⟨by have := hv.1; simp only; omega, by simp only; omega, ?_⟩
    intro k hk
    have hk' : k < 3 := hk
    rcases k with _ | _ | _ | k
    · simpa using h
    · show 128 ≤ (s.get! (i + 1)).toNat; omega
    · show 128 ≤ (s.get! (i + 2)).toNat; omega
    · omega
   · exact ⟨by simp, by simp, one⟩
  ·
   split
   ·
    rename_i hc
    split
    ·
     rename_i hv
     refine ⟨by have := hv.1; simp only; omega, ?_, ?_⟩
     ·
      have := hv.2
      simp only [Utf8.valid] at this
      simp at this
      simp only
      omega
     ·
      intro k hk
      have hk' : k < 4 := hk
      rcases k with _ | _ | _ | _ | k
      · simpa using h
      · show 128 ≤ (s.get! (i + 1)).toNat; omega
      · show 128 ≤ (s.get! (i + 2)).toNat; omega
      · show 128 ≤ (s.get! (i + 3)).toNat; omega
      · omega
    · exact ⟨by simp, by simp, one⟩
   · exact ⟨by simp, by simp, one⟩
theorem index_rune_err (chars : ByteArray) (ha : Ascii chars) (w : World) :
  Calls Try.prog 85 #[.string chars, .int .i32 65533] w fun e w' => e = .returned (.int .i64 (-1)) ∧ Below w.heap.size w w' := by
 go_enter Try.func85, Try.ntmps85
 go_wp2
 go_loopg [] chars.size (fun gf wx => ∃ pos : Nat, wx.heap[w.heap.size]? = some (.stringIter chars pos) ∧ Below w.heap.size w wx ∧ chars.size ≤ pos + gf)
 case atStart => exact ⟨0, World.iter_heap w chars 0, (Below.refl _ w).alloc (Nat.le_refl _) _, by omega⟩
 case round =>
  obtain ⟨pos, hit, hbw, hfu⟩ := hrel
  by_cases hps : pos < chars.size
  ·
   obtain ⟨g', rfl⟩ : ∃ g', gk = g' + 1 := ⟨gk - 1, by omega⟩
   have hlow := ha.at_ pos hps
   have hnx : ∀ ty, (Instr.next (.pointer (some ⟨w.heap.size, 0, none⟩)) true ty).run Try.prog wr = _ := fun ty => Lib.run_next_ascii_at wr w.heap.size chars pos ty hit hps hlow
   have hit2 := Lib.iterAt_heap wr w.heap.size chars pos (pos + 1) hit
   have hbw2 := Lib.below_iterAt hbw (k := w.heap.size) (Nat.le_refl _) chars (pos + 1)
   obtain ⟨C, hC⟩ : ∃ C, (chars[pos]'hps).toNat = C := ⟨_, rfl⟩
   rw [hC] at hnx hlow
   have hne : (((C : Nat) : Int) == 65533) = false := beq_eq_false_iff_ne.2 (by omega)
   clear hC
   go_wp2
   go_roundg g'
   case measure => omega
   case rel => exact ⟨pos + 1, hit2, hbw2, by omega⟩
  ·
   have hnx : ∀ ty, (Instr.next (.pointer (some ⟨w.heap.size, 0, none⟩)) true ty).run Try.prog wr = _ := fun ty => Lib.run_next_end_at wr w.heap.size chars pos ty hit hps
   go_wp2
   go_ret
   exact ⟨rfl, hbw⟩
theorem index_none (s : ByteArray) (a : Nat) (ha : Ascii s) (c : UInt8) (hc : 128 ≤ c.toNat) : Lib.indexByte (s.extract a s.size).data.toList c = -1 := by
 have hge := Lib.indexByte_ge (s.extract a s.size).data.toList c
 by_cases h : 0 ≤ Lib.indexByte (s.extract a s.size).data.toList c
 ·
  obtain ⟨o, ho⟩ := Int.eq_ofNat_of_zero_le h
  have h1 := (Lib.indexByte_some ho).1
  rw [Lib.extract_data, List.getElem?_take] at h1
  split at h1
  ·
   rw [List.getElem?_drop] at h1
   have := ha _ _ h1
   omega
  · cases h1
 · omega
theorem index_rune_high (chars : ByteArray) (ha : Ascii chars) (hsz : chars.size < 4294967295) (r : Int) (h0 : 128 ≤ r) (h1 : r ≤ 1114111) (h2 : r ≠ 65533) (w : World) :
  Calls Try.prog 85 #[.string chars, .int .i32 r] w fun e w' => e = .returned (.int .i64 (-1)) ∧ Below w.heap.size w w' := by
 have b1 : (r == 65533) = false := beq_eq_false_iff_ne.2 h2
 have b2 : decide (0 ≤ r) = true := decide_eq_true (by omega)
 have b3 : decide (r < 128) = false := decide_eq_false (by omega)
 obtain ⟨e1, e2, e3⟩ := encode_high h0 h1
 obtain ⟨E, hE⟩ : ∃ E, Utf8.encode r = E := ⟨_, rfl⟩
 have HV := qh (Try.utf8_ValidRune r)
 cases hv : Lib.validRune r
 ·
  have HV2 := qh hv
  clear hv
  go_enter Try.func85, Try.ntmps85
  go_wp2_with (go_at_call 92; refine (HV.out _).mono ?_; rintro e w' ⟨rfl, hw⟩; rw [hw, HV2.out]; clear hw)
  go_ret
  exact ⟨rfl, Below.refl _ _⟩
 ·
  have HV2 := qh hv
  clear hv
  go_enter Try.func85, Try.ntmps85
  go_wp2_with (go_at_call 92; refine (HV.out _).mono ?_; rintro e w' ⟨rfl, hw⟩; rw [hw, HV2.out]; clear hw)
  go_step3
  have g1 : (2 : Int) ≤ (E.size : Int) := by rw [← hE]; omega
  have g2 : (E.size : Int) ≤ 4 := by rw [← hE]; omega
  have e3' : ∀ hj : E.size - 1 < E.size, 128 ≤ ((E[E.size - 1]'hj).toNat) := by subst hE; exact fun hj => e3 _ hj
  obtain ⟨m, hm⟩ : ∃ m, E.size = m + 1 := ⟨E.size - 1, by omega⟩
  have hmE : m < E.size := by omega
  have hlast : 128 ≤ (E[m]'hmE).toNat := by subst hE; exact e3 _ hmE
  have hnone := fun (hm1 : m < chars.size) => index_none chars (m + 1) ha (E[m]'hmE) hlast
  have HN := qh hnone
  have HM := qh hm
  have HI := qh (fun (x : ByteArray) (c : Int) W => Try.strings_IndexByte x c W)
  have gm1 : (1 : Int) ≤ (m : Int) := by omega
  have gm2 : (m : Int) ≤ 3 := by omega
  clear e1 e2 g1 g2 e3 e3' hnone HV HV2
  go_wp2
  clear hm hE
  have hd := HM.out
  go_loopw [9] (fun i wr => i = .int .i64 (m : Int) ∧ wr = w) (fun _ _ => 0)
  case atStart => exact ⟨rfl, rfl⟩
  case round =>
   obtain ⟨rfl, rfl⟩ := hrel
   by_cases hlt : (m : Int) < (chars.size : Int)
   ·
    have hlt2 : m < chars.size := by omega
    have hc1 := ha.at_ m hlt2
    have HN1 := qh (HN.out hlt2)
    obtain ⟨C, hC⟩ : ∃ C, (chars[m]'hlt2).toNat = C := ⟨_, rfl⟩
    obtain ⟨D, hD⟩ : ∃ D, (E[m]'hmE).toNat = D := ⟨_, rfl⟩
    rw [hC] at hc1
    rw [hD] at hlast
    have hne : (((C : Nat) : Int) != ((D : Nat) : Int)) = true := bne_iff_ne.2 (by omega)
    have q1 : IntKind.i64.wrap ((m : Int) + 1) = (m : Int) + 1 := IntWalk.i64_in _ (by omega)
    have q2 : (m : Int) + 1 ≤ (chars.size : Int) := by omega
    have q3 : ((m : Int) + 1).toNat = m + 1 := by omega
    have hsl : ∀ W : World, (Instr.slice 9 (.string chars) (some (.int .i64 ((m : Int) + 1))) none none).run Try.prog W = .ok (.string (chars.extract (m + 1) chars.size)) W := fun W => by
     have := run_slice_string_from_if (P := Try.prog) (w := W) 9 chars .i64 ((m : Int) + 1) Try.underlying9
     rw [this, if_pos (by omega)]
     rw [q3]
    have hcall : ∀ W : World, Calls Try.prog 91 #[.string (chars.extract (m + 1) chars.size), .int .u8 (D : Int)] W fun e w' => e = .returned (.int .i64 (-1)) ∧ w' = W := fun W => by
     have h := Try.strings_IndexByte (chars.extract (m + 1) chars.size) (D : Int) W
     have hu : ((D : Int).toNat.toUInt8) = E[m]'hmE := by rw [← hD]; simp
     rw [hu, HN1.out] at h
     exact h
    have HCALL := qh hcall
    clear hd hcall
    go_wp2
    go_step3
    go_wp2
    go_quiet (fail)
    go_wp2
    have hbq : Below wr.heap.size wr (wr.drewN nq) := below_dn (Below.refl _ _) nq
    obtain ⟨W2, hW2⟩ : ∃ W2, wr.drewN nq = W2 := ⟨_, rfl⟩
    rw [hW2] at hbq ⊢
    clear hW2
    go_quiet ((go_at_call 91; exact Calls.quiet_of_same (HCALL.out _)))
    go_wp2
    rw [Exit.noGoto_ret]
    go_simp
    simp +zetaDelta only [Exit.noGoto, Exit.inBlock, Exit.then]
    go_ret
    exact ⟨rfl, below_dn hbq _⟩
   ·
    clear hd
    go_wp2
    go_ret
    exact ⟨rfl, Below.refl _ _⟩
theorem getD_get (s : ByteArray) (i : Nat) : s.data.toList.getD i 0 = s.get! i := by
 cases s with
 | mk d =>
  show d.toList.getD i 0 = d[i]!
  by_cases h : i < d.size
  ·
   rw [getElem!_pos d i h]
   simp [List.getD, h]
  ·
   rw [getElem!_neg d i h]
   simp [List.getD, h]
   rfl
theorem get_of {s : ByteArray} {j : Nat} {b : UInt8} (h : s.data.toList[j]? = some b) : s.get! j = b := by
 have h1 : s.data.toList.getD j 0 = s.get! j := getD_get s j
 rw [← h1, List.getD_eq_getElem?_getD, h]
 rfl
theorem none_high {chars : ByteArray} (hc : Ascii chars) {b : UInt8} (hb : 128 ≤ b.toNat) : chars.data.toList.contains b = false := by
 rw [← Bool.not_eq_true, List.contains_iff_mem]
 intro hm
 obtain ⟨j, hj, e⟩ := List.getElem_of_mem hm
 have := hc j b (by rw [List.getElem?_eq_getElem hj, e])
 omega
theorem noany_more {s chars : List UInt8} {i k : Nat} (h : Lib.NoAny s chars i) (hk : ∀ j b, i ≤ j → j < i + k → s[j]? = some b → chars.contains b = false) : Lib.NoAny s chars (i + k) := fun j b hj hb => by
 by_cases e : j < i
 · exact h j b e hb
 · exact hk j b (by omega) hj hb
theorem index_any_short (s chars : ByteArray) (hc : Ascii chars) (h2 : 2 ≤ chars.size) (hcz : chars.size < 4294967281) (h8 : s.size ≤ 8) (w : World) :
  Calls Try.prog 79 #[.string s, .string chars] w fun e w' => e = .returned (.int .i64 (Lib.indexAny s.data.toList chars.data.toList)) ∧ Below w.heap.size w w' := by
 have hemp : chars.toList.isEmpty = false := by
  rw [Lib.toList_data]
  cases h : chars.data.toList with
  | nil => have := Sp.size_eq chars; rw [h, List.length_nil] at this; omega
  | cons _ _ => rfl
 have hn1 : ((chars.size : Int) == 1) = false := beq_eq_false_iff_ne.2 (by omega)
 have h8z : decide ((8 : Int) < (s.size : Int)) = false := decide_eq_false (by omega)
 have HC := qh hc
 clear hc
 go_enter Try.func79, Try.ntmps79
 go_wp2_with (go_at_call 86; refine (Try.strings_shouldUseASCIISet _ _).mono ?_; rintro e w' ⟨rfl, hw⟩; rw [hw, h8z])
 go_loopg [9, 10] s.size (fun g _ _ wx => ∃ pos : Nat, wx.heap[w.heap.size]? = some (.stringIter s pos) ∧ Below w.heap.size w wx ∧ s.size ≤ pos + g ∧ Lib.NoAny s.data.toList chars.data.toList pos)
 case atStart => exact ⟨0, World.iter_heap w s 0, (Below.refl _ w).alloc (Nat.le_refl _) _, by omega, Lib.NoAny.zero _ _⟩
 case round =>
  obtain ⟨pos, hit, hbw, hfu, hno⟩ := hrel
  have HNO := qh hno
  clear hno
  by_cases hps : pos < s.size
  ·
   obtain ⟨g', rfl⟩ : ∃ g', gk = g' + 1 := ⟨gk - 1, by omega⟩
   have hnx : ∀ ty, (Instr.next (.pointer (some ⟨w.heap.size, 0, none⟩)) true ty).run Try.prog wr = _ := fun ty => Lib.run_next_any_at wr w.heap.size s pos ty hit hps
   obtain ⟨x, hx⟩ : ∃ x : UInt8, s.data.toList[pos]? = some x := ⟨_, List.getElem?_eq_getElem (by rw [← Sp.size_eq]; exact hps)⟩
   have hg := get_of hx
   have HX := qh hx
   clear hx
   by_cases hlow : x.toNat < 128
   ·
    have hd : Utf8.decode s pos = (x.toNat, 1) := by rw [decode_low s pos (by rw [hg]; exact hlow), hg]
    rw [hd] at hnx
    have hit2 := Lib.iterAt_heap wr w.heap.size s pos (pos + 1) hit
    have hbw2 := Lib.below_iterAt hbw (k := w.heap.size) (Nat.le_refl _) s (pos + 1)
    have hcon := Lib.contains_iff_indexByte chars.data.toList x
    have hback : ((x.toNat : Int)).toNat.toUInt8 = x := by simp
    clear hd hg
    obtain ⟨W, hWd⟩ : ∃ W, wr.iterAt w.heap.size s (pos + 1) = W := ⟨_, rfl⟩
    simp only [hWd] at hnx
    rw [hWd] at hit2 hbw2
    clear hWd hit
    cases hin : chars.data.toList.contains x
    ·
     rw [hin] at hcon
     have hlt : ¬ ((0 : Int) ≤ Lib.indexByte chars.data.toList x) := of_decide_eq_false hcon.symm
     have HIN := qh hin
     clear hcon hin
     go_wp2_with (go_at_call 85; refine (Try.strings_IndexRune_ascii _ _ _ (by omega) (by omega)).mono ?_; rintro e w' ⟨rfl, hw⟩; rw [hw, hback])
     go_roundg g'
     case measure => omega
     case rel => exact ⟨pos + 1, hit2, hbw2, by omega, HNO.out.succ HX.out HIN.out⟩
    ·
     rw [hin] at hcon
     have hge : (0 : Int) ≤ Lib.indexByte chars.data.toList x := of_decide_eq_true hcon.symm
     have HIN := qh hin
     clear hcon hin
     go_wp2_with (go_at_call 85; refine (Try.strings_IndexRune_ascii _ _ _ (by omega) (by omega)).mono ?_; rintro e w' ⟨rfl, hw⟩; rw [hw, hback])
     go_ret
     exact ⟨by rw [Lib.indexAny_hit HNO.out HX.out HIN.out]; rfl, hbw2⟩
   ·
    obtain ⟨q1, q2, q3⟩ := decode_high s pos (by rw [hg]; omega)
    have hwd := Lib.width_pos s pos
    obtain ⟨R, hR⟩ : ∃ R, (Utf8.decode s pos).1 = R := ⟨_, rfl⟩
    obtain ⟨K, hK⟩ : ∃ K, (Utf8.decode s pos).2 = K := ⟨_, rfl⟩
    rw [hR, hK] at hnx
    rw [hK] at hwd q3
    rw [hR] at q1 q2
    have hit2 := Lib.iterAt_heap wr w.heap.size s pos (pos + K) hit
    have hbw2 := Lib.below_iterAt hbw (k := w.heap.size) (Nat.le_refl _) s (pos + K)
    obtain ⟨W, hWd⟩ : ∃ W, wr.iterAt w.heap.size s (pos + K) = W := ⟨_, rfl⟩
    simp only [hWd] at hnx
    rw [hWd] at hit2 hbw2
    clear hWd hit hR hK hg
    have hlt : W.heap.size = W.heap.size := rfl
    have HNEW := qh (noany_more (k := K) HNO.out (fun j b h1 h2 hb => none_high HC.out (by have := q3 (j - pos) (by omega); rw [show pos + (j - pos) = j by omega, get_of hb] at this; exact this)))
    have hcall : Calls Try.prog 85 #[.string chars, .int .i32 (R : Int)] W fun e w' => e = .returned (.int .i64 (-1)) ∧ Below W.heap.size W w' := by
     by_cases e : (R : Int) = 65533
     · rw [e]; exact index_rune_err chars HC.out W
     · exact index_rune_high chars HC.out (by omega) R (by omega) (by omega) e W
    have HCALL := qh hcall
    clear hcall q3 hlt
    go_wp2_with (go_at_call 85; refine HCALL.out.mono ?_; rintro e W3 ⟨rfl, hw3⟩)
    go_roundg g'
    case measure => omega
    case rel => exact ⟨pos + K, (hw3.block _ (Array.getElem?_eq_some_iff.1 hit2).1).trans hit2, hbw2.trans (hw3.mono hbw2.size), by omega, HNEW.out⟩
  ·
   have hnx : ∀ ty, (Instr.next (.pointer (some ⟨w.heap.size, 0, none⟩)) true ty).run Try.prog wr = _ := fun ty => Lib.run_next_end_at wr w.heap.size s pos ty hit hps
   go_wp2
   go_ret
   exact ⟨by rw [Lib.indexAny_none (fun j b hj hb => HNO.out j b (by rw [← Sp.size_eq] at hj; omega) hb)]; rfl, hbw⟩
theorem infoAs : (Try.prog.info? 117).map (fun i => (i.zero, i.size)) = some (some (.agg (Array.replicate 256 (.bool false))), 256) := by kernel_rfl
theorem index_any (s chars : ByteArray) (hc : Ascii chars) (h2 : 2 ≤ chars.size) (hcz : chars.size < 4294967281) (hs : s.size < 4294967281) (w : World) :
  Calls Try.prog 79 #[.string s, .string chars] w fun e w' => e = .returned (.int .i64 (Lib.indexAny s.data.toList chars.data.toList)) ∧ Below w.heap.size w w' := by
 by_cases h8 : s.size ≤ 8
 · exact index_any_short s chars hc h2 hcz h8 w
 ·
  refine (Try.strings_IndexAny_long ?_ s chars w h2 (by omega) hs hcz hc).mono fun e w' ⟨h1, h2⟩ => ⟨h1, ?_⟩
  · exact (zero_of_info infoAs).1
  ·
   rw [h2]
   exact ((Below.refl _ _).alloc (Nat.le_refl _) _).alloc (by simp) _
theorem contains_any (s chars : ByteArray) (hc : Ascii chars) (h2 : 2 ≤ chars.size) (hcz : chars.size < 4294967281) (hs : s.size < 4294967281) (w : World) :
  Calls Try.prog 68 #[.string s, .string chars] w fun e w' => e = .returned (.bool (Lib.containsAny s.data.toList chars.data.toList)) ∧ Below w.heap.size w w' := by
 have HI := qh (index_any s chars hc h2 hcz hs)
 clear hc
 go_enter Try.func68, Try.ntmps68
 go_wp2_with (go_at_call 79; refine (HI.out _).mono ?_; rintro e w' ⟨rfl, hw⟩)
 go_ret
 exact ⟨rfl, hw⟩
end Go.Proofs.Ytnpeeiikdcankaa.An

namespace Go.Proofs.Ytnpeeiikdcankaa.Pa
open Go.Proofs.YtnpeeiikdcankaaW.PrintWords (own_weaken)
open Go Go.RowKit Go.Shelf Go.Proofs Go.Proofs.Ytnpeeiikdcankaa
attribute [local go_sem] Oper.semAt_some
theorem slash_nul : An.Ascii ⟨#[47, 0]⟩ := by
 intro j b h
 have h2 : ([47, 0] : List UInt8)[j]? = some b := h
 rcases j with _ | _ | j
 · simp at h2; subst h2; decide
 · simp at h2; subst h2; decide
 · simp at h2
theorem any_slash (s : ByteArray) : Lib.containsAny s.data.toList (⟨#[47, 0]⟩ : ByteArray).data.toList = decide (47 ∈ s.data.toList ∨ 0 ∈ s.data.toList) := by
 rw [Bool.eq_iff_iff, Sp.containsAny_iff, decide_eq_true_eq]
 constructor
 ·
  rintro ⟨b, hb, hc⟩
  have hc2 : b ∈ ([47, 0] : List UInt8) := hc
  simp at hc2
  rcases hc2 with rfl | rfl
  · exact .inl hb
  · exact .inr hb
 ·
  rintro (h | h)
  · exact ⟨47, h, by simp⟩
  · exact ⟨0, h, by simp⟩
theorem check_calls (s : ByteArray) (hs : s.size < 4294967281) (w : World) :
  Calls Try.prog 49 #[.string s] w fun e w' => e = .returned (.int .i64 (Sp.check s.data.toList)) ∧ Below w.heap.size w w' := by
 have hc := An.contains_any s ⟨#[47, 0]⟩ slash_nul (by decide) (by decide) hs w
 rw [any_slash] at hc
 obtain ⟨B, hB⟩ : ∃ B, decide (47 ∈ s.data.toList ∨ 0 ∈ s.data.toList) = B := ⟨_, rfl⟩
 rw [hB] at hc
 have HC := qh hc
 obtain ⟨r, hr⟩ : ∃ r, Sp.check s.data.toList = r := ⟨_, rfl⟩
 rw [hr]
 unfold Sp.check at hr
 rw [← Sp.size_eq, ← Lib.toList_data] at hr
 rw [← Lib.toList_data] at hB
 by_cases h0 : s.toList = []
 ·
  rw [if_pos h0] at hr
  obtain rfl := hr
  clear hB hc
  go_enter Try.func49, Try.ntmps49
  go_wp2
  go_ret
  exact ⟨rfl, Below.refl _ _⟩
 ·
  rw [if_neg h0] at hr
  have h0a : (s.toList == []) = false := by simpa using h0
  by_cases h1 : (64 : Int) < (s.size : Int)
  ·
   rw [if_pos (.inl (by omega))] at hr
   obtain rfl := hr
   have h1a : decide ((64 : Int) < (s.size : Int)) = true := decide_eq_true h1
   clear hB hc
   go_enter Try.func49, Try.ntmps49
   go_wp2
   go_ret
   exact ⟨rfl, Below.refl _ _⟩
  ·
   have h1a : decide ((64 : Int) < (s.size : Int)) = false := decide_eq_false h1
   by_cases h2 : 47 ∈ s.toList ∨ 0 ∈ s.toList
   ·
    rw [if_pos (.inr h2)] at hr
    obtain rfl := hr
    obtain rfl : true = B := by rw [← hB]; exact (decide_eq_true h2).symm
    clear hB hc h2
    go_enter Try.func49, Try.ntmps49
    go_wp2_with (go_at_call 68; refine HC.out.mono ?_; rintro e w' ⟨rfl, hw⟩)
    go_ret
    exact ⟨rfl, hw⟩
   ·
    rw [if_neg (fun h => h.elim (fun h => by omega) h2)] at hr
    obtain rfl : false = B := by rw [← hB]; exact (decide_eq_false h2).symm
    clear hB hc h2
    by_cases h3 : s.toList = [46]
    ·
     rw [if_pos (.inl h3)] at hr
     obtain rfl := hr
     go_enter Try.func49, Try.ntmps49
     go_wp2_with (go_at_call 68; refine HC.out.mono ?_; rintro e w' ⟨rfl, hw⟩)
     go_ret
     exact ⟨rfl, hw⟩
    ·
     have h3a : (s.toList == [46]) = false := by simpa using h3
     by_cases h4 : s.toList = [46, 46]
     ·
      rw [if_pos (.inr h4)] at hr
      obtain rfl := hr
      go_enter Try.func49, Try.ntmps49
      go_wp2_with (go_at_call 68; refine HC.out.mono ?_; rintro e w' ⟨rfl, hw⟩)
      go_ret
      exact ⟨rfl, hw⟩
     ·
      have h4a : (s.toList == [46, 46]) = false := by simpa using h4
      rw [if_neg (fun h => h.elim h3 h4)] at hr
      obtain rfl := hr
      go_enter Try.func49, Try.ntmps49
      go_wp2_with (go_at_call 68; refine HC.out.mono ?_; rintro e w' ⟨rfl, hw⟩)
      go_ret
      exact ⟨rfl, hw⟩
def isPath (s : List UInt8) : Bool := decide (s.length ≤ 1024) && decide (Sp.clean s = s) && (Sp.parts s).all Sp.right
end Go.Proofs.Ytnpeeiikdcankaa.Pa

namespace Go.Proofs.Ytnpeeiikdcankaa.Ext
open Go Go.RowKit Go.Proofs Go.Proofs.Ytnpeeiikdcankaa Go.Proofs.YtnpeeiikdcankaaW.PrintWords
def bs (l : List (List UInt8)) : List ByteArray := l.map Sp.mk
theorem encP_bs (l : List (List UInt8)) : Pa.encP l = encs Value.string (bs l) := by simp [Pa.encP, bs, encs]
theorem bs_len (l : List (List UInt8)) : (bs l).length = l.length := by simp [bs]
def path_Parts.f (a0 : ByteArray) : Option (List ByteArray) := if a0.size < 4294967281 then some (bs (Sp.parts a0.data.toList)) else none
theorem path_Parts.calls (a0 : ByteArray) (r : List ByteArray) (w : World) (h : path_Parts.f a0 = some r) :
  Calls Try.prog 46 #[.string a0] w fun e w' => ∃ v0_ : Value, e = .returned (v0_) ∧ Kd.R Kd.string 9 w' w.heap.size (fun _ => True) v0_ r ∧ Below w.heap.size w w' := by
 unfold path_Parts.f at h
 split at h
 ·
  rename_i hs
  obtain rfl := Option.some.inj h
  refine ((callsIn_wide (n := 3)).1 (Pa.parts_in 3 (by omega) a0 w (by omega))).mono ?_
  rintro e w' ⟨v, rfl, ho, hb⟩
  rw [encP_bs, ← bs_len] at ho
  exact ⟨v, rfl, Kd.R_of_own ho (fun _ _ => trivial), hb⟩
 · cases h
def path_Clean.f (a0 : ByteArray) : Option ByteArray := if a0.size < 4294967281 then some (Sp.mk (Sp.clean a0.data.toList)) else none
def path_Is.f (a0 : ByteArray) : Option Bool := if a0.size < 4294967281 then some (Pa.isPath a0.data.toList) else none
def name_Check.f (a0 : ByteArray) : Option Int := if a0.size < 4294967281 then some (Sp.check a0.data.toList) else none
theorem name_Check.calls (a0 : ByteArray) (r : Int) (w : World) (h : name_Check.f a0 = some r) :
  Calls Try.prog 49 #[.string a0] w fun e w' => e = .returned (.int .i64 r) ∧ Below w.heap.size w w' := by
 unfold name_Check.f at h
 split at h
 ·
  rename_i hs
  obtain rfl := Option.some.inj h
  exact Pa.check_calls a0 hs w
 · cases h
def strings_Join.f (l0 : List ByteArray) (a1 : ByteArray) : Option ByteArray :=
 if l0.length < 4294967281 ∧ (Lib.join (l0.map (·.data.toList)) a1.data.toList).length < 4294967281 then some (Sp.mk (Lib.join (l0.map (·.data.toList)) a1.data.toList)) else none
def strings_ContainsAny.f (a0 a1 : ByteArray) : Option Bool :=
 if a0.size < 4294967281 ∧ 2 ≤ a1.size ∧ a1.size < 4294967281 ∧ (a1.data.toList.all fun b => b.toNat < 128) = true then some (Lib.containsAny a0.data.toList a1.data.toList) else none
theorem strings_ContainsAny.calls (a0 a1 : ByteArray) (r : Bool) (w : World) (h : strings_ContainsAny.f a0 a1 = some r) :
  Calls Try.prog 68 #[.string a0, .string a1] w fun e w' => e = .returned (.bool r) ∧ Below w.heap.size w w' := by
 unfold strings_ContainsAny.f at h
 split at h
 ·
  rename_i hs
  obtain ⟨h1, h2, h3, h4⟩ := hs
  obtain rfl := Option.some.inj h
  refine An.contains_any a0 a1 (fun j b hb => ?_) h2 h3 h1 w
  rw [List.all_eq_true] at h4
  simpa using h4 b (List.mem_of_getElem? hb)
 · cases h
end Go.Proofs.Ytnpeeiikdcankaa.Ext

-- PRINTED BY print.sh 35421559b90ae4d0a3588c463048766b98c2df88dd9212a6774a882060cdf62d: not written by this session
/-
 PRINTED WORDS, second file: A REGION THAT DRAWS ITS ORDER, WALKED BY HAND, where its last store writes what its own loads read ('x.f = append(x.f, f(i))'). Plain theorems; no macro, no elab. A claim may hold it (turn the namespace's name).
 A load may be taken first in every world that meets S; behind the operations of ds nothing is shown; sound because each of ds waits for what is taken (Region.lastB). The kernel checks it.
 By an AI agent of Go's test side, Mon Nov 16 2026. No person has read it.
-/
namespace Go.Proofs.YtnpeeiikdcankaaW.PrintLast
section
variable {P : Program} {ops : Array Oper} {Q : Exit → Act → World → Prop} {md : Region.Mode} {S : World → Prop} {ds : List Nat}
def ListedClosed (md : Region.Mode) (ops : Array Oper) (listed : Array Bool) : Prop :=
 ∀ j oj, ops[j]? = some oj → listed.getD j false = true → ∀ e ∈ oj.after, Region.binds md e = true → listed.getD e.on false = true
theorem ListedClosed.set {listed : Array Bool} {i : Nat} (h : ListedClosed md ops listed) (hi : i ∈ Region.ready md ops listed) : ListedClosed md ops (listed.setIfInBounds i true) := by
 obtain ⟨_, oi, hoi, hall⟩ := mem_ready.1 hi
 intro j oj hj hl e he hb
 by_cases hij : i = j
 ·
  subst hij
  have : oj = oi := Option.some.inj (hj.symm.trans hoi)
  subst this
  exact getD_set_true (hall e he hb)
 ·
  rw [getD_set_ne false hij] at hl
  exact getD_set_true (h j oj hj hl e he hb)
def wpAnyLast (P : Program) (md : Region.Mode) (ops : Array Oper) (Q : Exit → Act → World → Prop) (S : World → Prop) (ds : List Nat) : Nat → Array Bool → Act → World → Prop
 | 0, listed, a, w => Region.ready md ops listed = [] ∧ Q .normal a w
 | fuel + 1, listed, a, w =>
  (Region.ready md ops listed = [] → Q .normal a w) ∧
  ∀ i ∈ Region.ready md ops listed, wpOp P ops Q i (fun a' w' => (i ∉ ds → S w → S w') ∧ wpAnyLast P md ops Q S ds fuel (listed.setIfInBounds i true) a' w') a w
end
section
variable {P : Program} {ops : Array Oper} {Q : Exit → Act → World → Prop} {md : Region.Mode} {S : World → Prop} {ds : List Nat}
def AllReadyL (P : Program) (md : Region.Mode) (ops : Array Oper) (Q : Exit → Act → World → Prop) (S : World → Prop) (ds : List Nat) (fuel : Nat) (listed : Array Bool) (a : Act) (w : World) (rs : List Nat) : Prop :=
 ∀ i ∈ rs, wpOp P ops Q i (fun a' w' => (i ∉ ds → S w → S w') ∧ wpAnyLast P md ops Q S ds fuel (listed.setIfInBounds i true) a' w') a w
theorem AllReadyL.nil {fuel : Nat} {listed : Array Bool} {a : Act} {w : World} : AllReadyL P md ops Q S ds fuel listed a w [] := fun _ h => by cases h
theorem AllReadyL.cons {fuel : Nat} {listed : Array Bool} {a : Act} {w : World} {i : Nat} {o : Oper} {rs : List Nat} (ho : ops[i]? = some o) (hd : i ∉ ds)
  (h : ∀ K' : Act → World → Prop, Shut (∀ a w, S w → (S w → wpAnyLast P md ops Q S ds fuel (listed.setIfInBounds i true) a w) → K' a w) → if Region.wanted o (yielded ops a.tmps) = true then Oper.wp P o a w K' Q else K' (a.put o.dst undef) w)
  (hs : AllReadyL P md ops Q S ds fuel listed a w rs) : AllReadyL P md ops Q S ds fuel listed a w (i :: rs) := fun j hj => by
 rcases List.mem_cons.1 hj with rfl | hj
 · exact wpOp_step ho (fun K' hK => h K' (fun a w hS hW => hK a w ⟨fun _ _ => hS, hW hS⟩))
 · exact hs j hj
theorem i64_w (n : Int) : IntKind.i64.wrap n = Go.RowKit.wrap64 n := by unfold Go.RowKit.wrap64; exact IntKind.wrap_i64 n
theorem i32_w (n : Int) : IntKind.i32.wrap n = Go.RowKit.wrap32 n := by unfold Go.RowKit.wrap32; exact IntKind.wrap_i32 n
end
end Go.Proofs.YtnpeeiikdcankaaW.PrintLast

-- PRINTED BY print.sh 35421559b90ae4d0a3588c463048766b98c2df88dd9212a6774a882060cdf62d: not written by this session
namespace Go.Proofs.YtnpeeiikdcankaaW.PrintLast
open Go.Proofs.YtnpeeiikdcankaaW.PrintWords (Aside0)
section
variable {md : Region.Mode} {ops : Array Oper} {T : Bool × List (List Nat × List Nat)} {l l' li lj lk : Array Bool} {ds : List Nat} {i j k : Nat}
end
end Go.Proofs.YtnpeeiikdcankaaW.PrintLast

-- PRINTED BY print.sh 35421559b90ae4d0a3588c463048766b98c2df88dd9212a6774a882060cdf62d: not written by this session
namespace Go.Proofs.YtnpeeiikdcankaaW.PrintWords
open Go.RowKit
namespace Kd
section
variable {α : Type} {d : Kd α} {e base g o n cap : Nat} {ok okp : Nat → Prop} {w W : World} {v : Value} {xs : List α}
end
section
variable {α : Type} {enc : α → Value} {h1 : ∀ x, (enc x).oneCell' = true} {e base g o n cap : Nat} {ok : Nat → Prop} {W : World} {xs : List α}
end
end Kd
end Go.Proofs.YtnpeeiikdcankaaW.PrintWords

-- PRINTED BY print.sh 35421559b90ae4d0a3588c463048766b98c2df88dd9212a6774a882060cdf62d: not written by this session
namespace Go.Proofs.YtnpeeiikdcankaaW.PrintWords
open Go.RowKit
namespace Kd
def tag {α : Type} (f : Nat → Nat) (d : Kd α) : Kd (α × Nat) where
 sz := d.sz
 E := d.E
 K := fun w x cs => d.K w x.1 cs
 M := fun w base ok x cs => d.M w base (fun k => ok k ∧ f k = x.2) x.1 cs
 K_len := fun h => d.K_len h
 K_one := fun h => d.K_one h
 K_below := fun hb h => d.K_below hb h
 K_of_M := fun h => d.K_of_M h
 M_mono := fun hok h => d.M_mono (fun k hk => ⟨hok k hk.1, hk.2⟩) h
 M_bound := fun h => d.M_mono (fun _ hk => ⟨⟨hk.1.1, hk.2⟩, hk.1.2⟩) (d.M_bound h)
 M_move := fun hm h => d.M_move (fun k hk => hm k hk.1) h
 M_lower := fun hb h => d.M_lower hb h
def raw (sz : Nat) : Kd (List Value) where
 sz := sz
 E := []
 K := fun _ x cs => cs = x ∧ cs.length = sz ∧ ∀ u ∈ cs, u.oneCell' = true
 M := fun _ _ _ x cs => cs = x ∧ cs.length = sz ∧ ∀ u ∈ cs, u.oneCell' = true
 K_len := fun h => h.2.1
 K_one := fun h => h.2.2
 K_below := fun _ h => h
 K_of_M := fun h => h
 M_mono := fun _ h => h
 M_bound := fun h => h
 M_move := fun _ h => h
 M_lower := fun _ h => h
def S {α : Type} (d : Kd α) (e : Nat) (w : World) (base : Nat) (ok : Nat → Prop) (v : Value) (xs : List α) : Prop := ∃ f, (tag f d).R e w base ok v xs.zipIdx
section
variable {α β : Type} {d : Kd α} {d' : Kd β} {e e' : Nat} {w w1 W : World} {base b : Nat} {ok ok' okv oku : Nat → Prop} {u v : Value} {xs : List α} {ys : List β}
end
section
variable {α β : Type} {d : Kd α} {d' : Kd β} {e e' g : Nat} {w w1 W : World} {base b : Nat} {ok ok' okv oku : Nat → Prop} {u v : Value} {xs : List α} {ys : List β}
end
section
open Classical in
variable {P : Program} {ops : Array Oper} {rest : List Oper} {o : Oper} {a : Act} {Q : Exit → Act → World → Prop} {Kc : Act → World → Prop} {α : Type}
end
def gap {α : Type} (f : Nat → Nat) (d : Kd α) (i : Nat) (c : List Value) : Kd (α × Nat) where
 sz := d.sz
 E := d.E
 K := fun w x cs => (x.2 = i → cs = c ∧ cs.length = d.sz ∧ ∀ u ∈ cs, u.oneCell' = true) ∧ (x.2 ≠ i → d.K w x.1 cs)
 M := fun w base ok x cs => (x.2 = i → cs = c ∧ cs.length = d.sz ∧ ∀ u ∈ cs, u.oneCell' = true) ∧ (x.2 ≠ i → d.M w base (fun k => ok k ∧ f k = x.2) x.1 cs)
 K_len := fun {w x cs} h => by
  by_cases hx : x.2 = i
  · exact (h.1 hx).2.1
  · exact d.K_len (h.2 hx)
 K_one := fun {w x cs} h => by
  by_cases hx : x.2 = i
  · exact (h.1 hx).2.2
  · exact d.K_one (h.2 hx)
 K_below := fun hb h => ⟨h.1, fun hx => d.K_below hb (h.2 hx)⟩
 K_of_M := fun h => ⟨h.1, fun hx => d.K_of_M (h.2 hx)⟩
 M_mono := fun hok h => ⟨h.1, fun hx => d.M_mono (fun k hk => ⟨hok k hk.1, hk.2⟩) (h.2 hx)⟩
 M_bound := fun h => ⟨h.1, fun hx => d.M_mono (fun _ hk => ⟨⟨hk.1.1, hk.2⟩, hk.1.2⟩) (d.M_bound (h.2 hx))⟩
 M_move := fun hm h => ⟨h.1, fun hx => d.M_move (fun k hk => hm k hk.1) (h.2 hx)⟩
 M_lower := fun hb h => ⟨h.1, fun hx => d.M_lower hb (h.2 hx)⟩
def H {α : Type} (d : Kd α) (e : Nat) (w : World) (base : Nat) (ok : Nat → Prop) (v : Value) (xs : List α) (i : Int) (oki : Nat → Prop) (c : List Value) : Prop :=
 (∀ k, oki k → ok k) ∧ ∃ f, (gap f d i.toNat c).R e w base (fun k => ok k ∧ ¬ oki k) v xs.zipIdx
section
variable {α β : Type} {d : Kd α} {e e' g n cap : Nat} {w w1 W : World} {base : Nat} {ok ok' oki okp : Nat → Prop} {u v : Value} {xs : List α} {i : Int} {c : List Value}
open Classical in
end
section
variable {P : Program} {ops : Array Oper} {rest : List Oper} {o : Oper} {a : Act} {Q : Exit → Act → World → Prop} {α : Type}
end
end Kd
end Go.Proofs.YtnpeeiikdcankaaW.PrintWords

-- PRINTED BY print.sh 35421559b90ae4d0a3588c463048766b98c2df88dd9212a6774a882060cdf62d: not written by this session
namespace Go.Proofs.YtnpeeiikdcankaaW.PrintWords
open Go.RowKit
namespace Kd
section
variable {α : Type} {n : Nat} {d : Kd α} {hs : 0 < d.sz} {w : World} {base : Nat} {ok : Nat → Prop} {xs : List α} {cs : List Value}
end
section
variable {α : Type} {n : Nat} {enc : α → Value} {h1 : ∀ x, (enc x).oneCell' = true} {hs : 0 < (scalar enc h1).sz} {w : World} {base : Nat} {ok : Nat → Prop} {xs : List α} {cs : List Value}
end
end Kd
end Go.Proofs.YtnpeeiikdcankaaW.PrintWords

-- PRINTED BY print.sh 35421559b90ae4d0a3588c463048766b98c2df88dd9212a6774a882060cdf62d: not written by this session
namespace Go.Proofs.YtnpeeiikdcankaaW.PrintWords
open Go.RowKit
section
variable {P : Program}
end
namespace Kd
section
variable {P : Program} {ops : Array Oper} {rest : List Oper} {o : Oper} {a : Act} {Q : Exit → Act → World → Prop} {Kc : Act → World → Prop} {α : Type}
end
section
variable {α : Type} {d : Kd α} {e : Nat} {w : World} {base : Nat} {ok : Nat → Prop} {v : Value} {xs : List α}
end
section
variable {P : Program} {ops : Array Oper} {rest : List Oper} {o : Oper} {a : Act} {Q : Exit → Act → World → Prop} {Kc : Act → World → Prop} {α : Type}
end
end Kd
end Go.Proofs.YtnpeeiikdcankaaW.PrintWords

-- PRINTED BY print.sh 35421559b90ae4d0a3588c463048766b98c2df88dd9212a6774a882060cdf62d: not written by this session
namespace Go.Proofs.YtnpeeiikdcankaaW.PrintWords
open Go.RowKit
namespace Kd
structure Heap {α : Type} (d : Kd α) : Prop where
 K : ∀ {w w1 : World} {x : α} {cs : List Value}, (∀ k, k < w.heap.size → w1.heap[k]? = w.heap[k]?) → d.K w x cs → d.K w1 x cs
theorem cell_heap {w w1 : World} (hb : ∀ k, k < w.heap.size → w1.heap[k]? = w.heap[k]?) {a : Addr} {v : Value} (h : w.cell? a = some v) : w1.cell? a = some v := by
 have := hb a.block (World.block_lt_of_cell? w a h)
 simpa [World.cell?, this] using h
theorem Heap.C {α : Type} {d : Kd α} (hd : Heap d) {w w1 : World} {A : Option Addr} {n : Nat} {xs : List α} (hb : ∀ k, k < w.heap.size → w1.heap[k]? = w.heap[k]?) (h : d.C w A n xs) : d.C w1 A n xs :=
 ⟨h.1, h.2.1, fun hn => by
  obtain ⟨ad, e, hc⟩ := h.2.2 hn
  refine ⟨ad, e, fun j p hj => ?_⟩
  obtain ⟨c, hs, hr, hcell⟩ := hc j p hj
  exact ⟨c, hs, hd.K hb hr, fun i u hu => cell_heap hb (hcell i u hu)⟩⟩
section
variable {α : Type} {d : Kd α} {e base g n c : Nat} {ok : Nat → Prop} {w w0 W : World} {A : Option Addr} {xs : List α}
end
end Kd
end Go.Proofs.YtnpeeiikdcankaaW.PrintWords

-- PRINTED BY print.sh 35421559b90ae4d0a3588c463048766b98c2df88dd9212a6774a882060cdf62d: not written by this session
namespace Go.Proofs.YtnpeeiikdcankaaW.PrintWords
open Go.RowKit
def Kept (w W : World) (S : Nat → Prop) : Prop := w.heap.size ≤ W.heap.size ∧ ∀ i, i < w.heap.size → ¬ S i → W.heap[i]? = w.heap[i]?
section
variable {w W W2 : World} {S S2 S' : Nat → Prop}
theorem Kept.refl (w : World) (S : Nat → Prop) : Kept w w S := ⟨Nat.le_refl _, fun _ _ _ => rfl⟩
theorem Kept.of_below (h : Below w.heap.size w W) (S : Nat → Prop) : Kept w W S := ⟨h.size, fun i hi _ => h.block i hi⟩
theorem Kept.mono (h : Kept w W S) (hs : ∀ k, S k → S' k) : Kept w W S' := ⟨h.1, fun i hi hn => h.2 i hi (fun hk => hn (hs i hk))⟩
theorem Kept.then_ (h : Kept w W S) (k : Kept W W2 S2) (hs : ∀ k, S2 k → S k ∨ w.heap.size ≤ k) : Kept w W2 S :=
 ⟨Nat.le_trans h.1 k.1, fun i hi hn => (k.2 i (Nat.lt_of_lt_of_le hi h.1) (fun h2 => (hs i h2).elim hn (fun h3 => by omega))).trans (h.2 i hi hn)⟩
theorem Kept.below (h : Kept w W S) (hb : Below W.heap.size W W2) : Kept w W2 S := h.then_ (Kept.of_below hb (fun _ => False)) (fun _ hk => hk.elim)
theorem Kept.alloc (h : Kept w W S) (o : Obj) : Kept w (W.alloc o) S := h.below (below_alloc (Below.refl _ _) o)
theorem Kept.drew (h : Kept w W S) : Kept w W.drew S := h
theorem Kept.drewN (h : Kept w W S) (m : Nat) : Kept w (W.drewN m) S := h
theorem Kept.setCell (h : Kept w W S) {p : Addr} (hp : S p.block ∨ w.heap.size ≤ p.block) (u : Value) : Kept w (W.setCell p u) S :=
 h.then_ (S2 := fun k => k = p.block) ⟨by simp [World.setCell], fun i _ hn => Below.heap_setCell W p u i hn⟩ (fun k hk => by rw [hk]; exact hp)
theorem Kept.keep {g : Nat} (h : KeepBut w W g none) (k : Kept W W2 S2) (hs : ∀ k, S2 k → w.heap.size ≤ k) : KeepBut w W2 g none :=
 ⟨Nat.le_trans h.1 k.1, fun i hi hg hr => (k.2 i (Nat.lt_of_lt_of_le hi h.1) (fun h2 => by have := hs i h2; omega)).trans (h.2 i hi hg hr)⟩
end
namespace Kd
section
variable {α : Type} {d : Kd α} {e base n c : Nat} {ok oki S S2 : Nat → Prop} {w w0 W W1 W2 : World} {v : Value} {A : Option Addr} {xs : List α} {i : Int} {cs : List Value}
end
end Kd
end Go.Proofs.YtnpeeiikdcankaaW.PrintWords

-- PRINTED BY print.sh 35421559b90ae4d0a3588c463048766b98c2df88dd9212a6774a882060cdf62d: not written by this session
namespace Go.Proofs.YtnpeeiikdcankaaW.PrintWords
open Go.RowKit
def Foot (P : World → Prop) (W : World) (ok : Nat → Prop) : Prop := ∀ W' : World, (∀ k, ok k → k < W.heap.size → W'.heap[k]? = W.heap[k]?) → P W'
theorem heap_lt {W W1 : World} {k : Nat} (h : W1.heap[k]? = W.heap[k]?) (hlt : k < W.heap.size) : k < W1.heap.size := by
 rw [Array.getElem?_eq_getElem hlt] at h
 exact (Array.getElem?_eq_some_iff.1 h).1
namespace Foot
variable {P Q : World → Prop} {W W1 : World} {ok ok' : Nat → Prop}
theorem now (h : Foot P W ok) : P W := h W (fun _ _ _ => rfl)
theorem mono (h : Foot P W ok) (hok : ∀ k, ok k → ok' k) : Foot P W ok' := fun W' hW => h W' (fun k hk hlt => hW k (hok k hk) hlt)
theorem bound (h : Foot P W ok) : Foot P W (fun k => ok k ∧ k < W.heap.size) := fun W' hW => h W' (fun k hk hlt => hW k ⟨hk, hlt⟩ hlt)
theorem step (h : Foot P W ok) (hm : ∀ k, ok k → k < W.heap.size → W1.heap[k]? = W.heap[k]?) : Foot P W1 ok := fun W' hW => h W' (fun k hk hlt => (hW k hk (heap_lt (hm k hk hlt) hlt)).trans (hm k hk hlt))
theorem imp (h : Foot P W ok) (hi : ∀ W', P W' → Q W') : Foot Q W ok := fun W' hW => hi W' (h W' hW)
theorem old (h : Foot P W ok) (hb : Below W.heap.size W W1) : Foot P W1 (fun k => ok k ∧ k < W.heap.size) := (h.bound).step (fun k _ hlt => hb.block k hlt)
end Foot
namespace Kd
def F {α : Type} (d : Kd α) (W : World) (ok : Nat → Prop) (A : Option Addr) (n : Nat) (xs : List α) : Prop := Foot (fun W => d.C W A n xs) W ok
def FK {α : Type} (d : Kd α) (W : World) (ok : Nat → Prop) (x : α) (c : List Value) : Prop := Foot (fun W => d.K W x c) W ok
section
variable {α β : Type} {d : Kd α} {e base n n' cc g N : Nat} {ok ok' okp S : Nat → Prop} {w w0 w1 W W1 : World} {A A' : Option Addr} {u v v1 : Value} {xs : List α} {xs' : List β} {d' : Kd β} {x : α} {c : List Value}
end
end Kd
end Go.Proofs.YtnpeeiikdcankaaW.PrintWords

-- PRINTED BY print.sh 35421559b90ae4d0a3588c463048766b98c2df88dd9212a6774a882060cdf62d: not written by this session
namespace Go.Proofs.YtnpeeiikdcankaaW.PrintWords
open Go.RowKit
namespace Kd
section
variable {α : Type} {d : Kd α} {e base n cc g : Nat} {ok ok' okp S : Nat → Prop} {w w1 W W1 : World} {A : Option Addr} {u v v1 : Value} {xs : List α} {x : α} {c : List Value}
def N {α : Type} (d : Kd α) (e : Nat) (w : World) (base : Nat) (ok : Nat → Prop) (v : Value) (xs : List α) : Prop :=
 (∀ k, v.ownBlock = some k → ok k) ∧ ∃ rows : List (List Value), rows.length = xs.length ∧ (raw d.sz).R e w base (fun k => some k = v.ownBlock) v rows ∧ ∀ (j : Nat) (x : α) (c : List Value), xs[j]? = some x → rows[j]? = some c → FK d w (fun k => ok k ∧ some k ≠ v.ownBlock) x c
end
end Kd
end Go.Proofs.YtnpeeiikdcankaaW.PrintWords

-- PRINTED BY print.sh 35421559b90ae4d0a3588c463048766b98c2df88dd9212a6774a882060cdf62d: not written by this session
namespace Go.Proofs.YtnpeeiikdcankaaW.PrintWords
open Go.RowKit
section
variable {P : Program} {d : Nat} {xs ys : Array Value} {f : Field} {fs : List Field} {a b : Value} {r s : Bool} {w : World}
end
end Go.Proofs.YtnpeeiikdcankaaW.PrintWords

-- PRINTED BY print.sh 35421559b90ae4d0a3588c463048766b98c2df88dd9212a6774a882060cdf62d: not written by this session
namespace Go.Proofs.YtnpeeiikdcankaaW.PrintWords
theorem Reps.one {α : Type} {R : α → List Value → Prop} {ps : List α} {cs : List Value} {p : α} {v : Value} (hp : R p [v]) (h : Reps R 1 ps cs) : Reps R 1 (p :: ps) (v :: cs) := by
 refine ⟨by simp [h.1], fun j q hq => ?_⟩
 cases j with
 | zero =>
  simp only [List.getElem?_cons_zero, Option.some.injEq] at hq
  subst hq
  simpa using hp
 | succ j =>
  simp only [List.getElem?_cons_succ] at hq
  have h1 := h.2 j q hq
  simpa [Nat.mul_one] using h1
theorem Reps.front {α : Type} {R : α → List Value → Prop} {size : Nat} {ps : List α} {cs c all : List Value} {p : α} (hp : R p c) (hc : c.length = size) (h : Reps R size ps cs) (ha : c ++ cs = all) : Reps R size (p :: ps) all := by
 subst ha
 refine ⟨by rw [List.length_append, hc, h.1, List.length_cons, Nat.succ_mul, Nat.add_comm], fun j q hq => ?_⟩
 cases j with
 | zero =>
  simp only [List.getElem?_cons_zero, Option.some.injEq] at hq
  subst hq
  rw [Nat.zero_mul, List.drop_zero, List.take_append_of_le_length (by omega), List.take_of_length_le (by omega)]
  exact hp
 | succ j =>
  simp only [List.getElem?_cons_succ] at hq
  have h1 := h.2 j q hq
  rw [Nat.succ_mul, List.drop_append, List.drop_of_length_le (by rw [hc]; exact Nat.le_add_left _ _), List.nil_append, hc, Nat.add_sub_cancel]
  exact h1
theorem Reps.c2 {α : Type} {R : α → List Value → Prop} {ps : List α} {cs : List Value} {p : α} {va vb : Value} (hp : R p [va, vb]) (h : Reps R 2 ps cs) : Reps R 2 (p :: ps) (va :: vb :: cs) := Reps.front hp rfl h rfl
theorem Reps.c3 {α : Type} {R : α → List Value → Prop} {ps : List α} {cs : List Value} {p : α} {va vb vc : Value} (hp : R p [va, vb, vc]) (h : Reps R 3 ps cs) : Reps R 3 (p :: ps) (va :: vb :: vc :: cs) := Reps.front hp rfl h rfl
theorem Reps.c4 {α : Type} {R : α → List Value → Prop} {ps : List α} {cs : List Value} {p : α} {va vb vc vd : Value} (hp : R p [va, vb, vc, vd]) (h : Reps R 4 ps cs) : Reps R 4 (p :: ps) (va :: vb :: vc :: vd :: cs) := Reps.front hp rfl h rfl
theorem Reps.c5 {α : Type} {R : α → List Value → Prop} {ps : List α} {cs : List Value} {p : α} {va vb vc vd ve : Value} (hp : R p [va, vb, vc, vd, ve]) (h : Reps R 5 ps cs) : Reps R 5 (p :: ps) (va :: vb :: vc :: vd :: ve :: cs) := Reps.front hp rfl h rfl
theorem Reps.c6 {α : Type} {R : α → List Value → Prop} {ps : List α} {cs : List Value} {p : α} {va vb vc vd ve vf : Value} (hp : R p [va, vb, vc, vd, ve, vf]) (h : Reps R 6 ps cs) : Reps R 6 (p :: ps) (va :: vb :: vc :: vd :: ve :: vf :: cs) := Reps.front hp rfl h rfl
theorem Reps.c7 {α : Type} {R : α → List Value → Prop} {ps : List α} {cs : List Value} {p : α} {va vb vc vd ve vf vg : Value} (hp : R p [va, vb, vc, vd, ve, vf, vg]) (h : Reps R 7 ps cs) : Reps R 7 (p :: ps) (va :: vb :: vc :: vd :: ve :: vf :: vg :: cs) := Reps.front hp rfl h rfl
theorem Reps.c9 {α : Type} {R : α → List Value → Prop} {ps : List α} {cs : List Value} {p : α} {va vb vc vd ve vf vg vh vi : Value} (hp : R p [va, vb, vc, vd, ve, vf, vg, vh, vi]) (h : Reps R 9 ps cs) : Reps R 9 (p :: ps) (va :: vb :: vc :: vd :: ve :: vf :: vg :: vh :: vi :: cs) := Reps.front hp rfl h rfl
theorem Reps.c10 {α : Type} {R : α → List Value → Prop} {ps : List α} {cs : List Value} {p : α} {va vb vc vd ve vf vg vh vi vj : Value} (hp : R p [va, vb, vc, vd, ve, vf, vg, vh, vi, vj]) (h : Reps R 10 ps cs) : Reps R 10 (p :: ps) (va :: vb :: vc :: vd :: ve :: vf :: vg :: vh :: vi :: vj :: cs) := Reps.front hp rfl h rfl
end Go.Proofs.YtnpeeiikdcankaaW.PrintWords

-- PRINTED BY print.sh 35421559b90ae4d0a3588c463048766b98c2df88dd9212a6774a882060cdf62d: not written by this session
namespace Go.Proofs.YtnpeeiikdcankaaW.PrintWords
open Go.RowKit
section
variable {P : Program} {ops : Array Oper} {rest : List Oper} {o : Oper} {a : Act} {Q : Exit → Act → World → Prop} {W : World}
end
end Go.Proofs.YtnpeeiikdcankaaW.PrintWords

-- PRINTED BY print.sh 35421559b90ae4d0a3588c463048766b98c2df88dd9212a6774a882060cdf62d: not written by this session
namespace Go.Proofs.YtnpeeiikdcankaaW.PrintWords
open Go.RowKit
namespace Kd
section
variable {α : Type} {d : Kd α} {e base n cap g : Nat} {ok ok' okp : Nat → Prop} {w w1 W : World} {v v1 : Value} {xs ys : List α}
end
section
variable {P : Program} {ops : Array Oper} {rest : List Oper} {o : Oper} {a : Act} {Q : Exit → Act → World → Prop} {Kc : Act → World → Prop} {α : Type}
end
end Kd
end Go.Proofs.YtnpeeiikdcankaaW.PrintWords

-- PRINTED BY print.sh 35421559b90ae4d0a3588c463048766b98c2df88dd9212a6774a882060cdf62d: not written by this session
-- PRINTED WORDS (module Derived/Print/More.lean): go-gate-2's additions: an AI agent of Go's test side, Tue Nov 17 2026; no person has read it. Lean checks it.
namespace Go.Proofs.YtnpeeiikdcankaaW.PrintMore
open Go.RowKit Go.Proofs.YtnpeeiikdcankaaW.PrintWords
namespace Kd
open Go.Proofs.YtnpeeiikdcankaaW.PrintWords.Kd
end Kd
namespace Kd
open Go.Proofs.YtnpeeiikdcankaaW.PrintWords.Kd
section
variable {α : Type} {d : Kd α} {e base g N : Nat} {ok : Nat → Prop} {W w1 : World} {u v : Value} {xs : List α}
end
end Kd
theorem max2_int (k k' : IntKind) (x y : Int) : Builtin.max2 (.int k x) (.int k' y) = pure (.int k (if x < y then y else x)) := by simp only [Builtin.max2, gt_iff_lt]
theorem min2_int (k k' : IntKind) (x y : Int) : Builtin.min2 (.int k x) (.int k' y) = pure (.int k (if y < x then y else x)) := by simp only [Builtin.min2]
theorem max_two (ats : Array TypeId) (ty : TypeId) (a b : Value) : Builtin.max_ ats ty #[a, b] = (Builtin.max2 a b >>= fun s => pure s) := by simp only [Builtin.max_, List.foldlM_cons, List.foldlM_nil]
theorem min_two (ats : Array TypeId) (ty : TypeId) (a b : Value) : Builtin.min_ ats ty #[a, b] = (Builtin.min2 a b >>= fun s => pure s) := by simp only [Builtin.min_, List.foldlM_cons, List.foldlM_nil]
theorem max_three (ats : Array TypeId) (ty : TypeId) (a b c : Value) : Builtin.max_ ats ty #[a, b, c] = (Builtin.max2 a b >>= fun s => Builtin.max2 s c >>= fun s => pure s) := by simp only [Builtin.max_, List.foldlM_cons, List.foldlM_nil]
theorem min_three (ats : Array TypeId) (ty : TypeId) (a b c : Value) : Builtin.min_ ats ty #[a, b, c] = (Builtin.min2 a b >>= fun s => Builtin.min2 s c >>= fun s => pure s) := by simp only [Builtin.min_, List.foldlM_cons, List.foldlM_nil]
theorem max_four (ats : Array TypeId) (ty : TypeId) (a b c d : Value) : Builtin.max_ ats ty #[a, b, c, d] = (Builtin.max2 a b >>= fun s => Builtin.max2 s c >>= fun s => Builtin.max2 s d >>= fun s => pure s) := by simp only [Builtin.max_, List.foldlM_cons, List.foldlM_nil]
theorem min_four (ats : Array TypeId) (ty : TypeId) (a b c d : Value) : Builtin.min_ ats ty #[a, b, c, d] = (Builtin.min2 a b >>= fun s => Builtin.min2 s c >>= fun s => Builtin.min2 s d >>= fun s => pure s) := by simp only [Builtin.min_, List.foldlM_cons, List.foldlM_nil]
end Go.Proofs.YtnpeeiikdcankaaW.PrintMore
namespace Go.Proofs.YtnpeeiikdcankaaW.PrintWords
open Go.RowKit
section
variable {P : Program} {ops : Array Oper} {rest : List Oper} {o : Oper} {a : Act} {Q : Exit → Act → World → Prop} {W : World}
theorem gate_builtin {b : Builtin} {xs : Array Operand} {ts : Array TypeId} (_ho : o.op = .call { callee := .builtin b, args := xs, argTypes := ts }) (h : wpList P ops Q (o :: rest) a W) : wpList P ops Q (o :: rest) a W := h
end
namespace Kd
section
variable {α : Type} {d : Kd α} {e base : Nat} {ok : Nat → Prop} {W w1 : World} {v : Value} {xs : List α}
end
section
variable {α : Type} {d : Kd α} {e base g n cap : Nat} {ok oki okp : Nat → Prop} {W : World} {xs : List α} {i : Int} {c : List Value}
end
section
variable {α : Type} {d : Kd α} {e base b b' g N : Nat} {ok ok1 : Nat → Prop} {W W2 w1 : World} {u v : Value} {xs ys : List α} {S : Nat → Prop}
end
end Kd
end Go.Proofs.YtnpeeiikdcankaaW.PrintWords
namespace Go.Proofs.YtnpeeiikdcankaaW.PrintWords
open Go.RowKit
namespace Kd
section
variable {α β : Type} {d : Kd α} {e base base' n m c g N' lo hi : Nat} {ok ok' S : Nat → Prop} {w W w1 : World} {A : Option Addr} {ad : Addr} {u v v1 : Value} {xs : List α}
end
end Kd
end Go.Proofs.YtnpeeiikdcankaaW.PrintWords

namespace Go.Proofs.Ytnpeeiikdcankaa.X
open Go.RowKit Go.Proofs.YtnpeeiikdcankaaW.PrintWords Go.Proofs.YtnpeeiikdcankaaW.PrintLast Go.Proofs.YtnpeeiikdcankaaW.PrintMore Go.Proofs.Ytnpeeiikdcankaa.Ext
attribute [local go_sem] max2_int min2_int max_two min_two max_three min_three max_four min_four
structure S91 where
 f0 : ByteArray
 f1 : Int
def z91 : S91 := ⟨(⟨#[]⟩ : ByteArray), (0 : Int)⟩
def k91 : Kd S91 := Kd.iso (Kd.pair Kd.string (Kd.int .i64)) (fun x : S91 => (x.f0, x.f1))
theorem k91_open {w : World} {x : S91} {cs : List Value} (h : k91.K w x cs) : cs = [.string x.f0, .int .i64 x.f1] := by
 obtain ⟨_, _, rfl, rfl, rfl⟩ := h
 exact rfl
theorem k91_openM {w : World} {base : Nat} {ok : Nat → Prop} {x : S91} {cs : List Value} (h : k91.M w base ok x cs) : cs = [.string x.f0, .int .i64 x.f1] := by
 obtain ⟨_, _, rfl, rfl, rfl⟩ := h
 exact rfl
theorem k91_mk (w : World) (x : S91)  : k91.K w x [.string x.f0, .int .i64 x.f1] := ⟨[.string x.f0], [.int .i64 x.f1], rfl, rfl, rfl⟩
theorem k91_mkM (w : World) (base : Nat) (ok : Nat → Prop) (x : S91)  : k91.M w base ok x [.string x.f0, .int .i64 x.f1] := ⟨[.string x.f0], [.int .i64 x.f1], rfl, rfl, rfl⟩
def rd_T91 (xs : List S91) (i : Int) : S91 := xs.getD i.toNat z91
theorem at_T91 {w : World} {A : Option Addr} {n : Nat} {xs : List S91} (h : Kd.C k91 w A n xs) (i : Int) (h0 : 0 ≤ i) (h1 : i < n) : ∃ ad , A = some ad ∧ w.cell? (ad.add (i.toNat * 2)) = some (.string (rd_T91 xs i).f0) ∧ w.cell? ⟨(ad.add (i.toNat * 2)).block, (ad.add (i.toNat * 2)).off + 1, none⟩ = some (.int .i64 (rd_T91 xs i).f1) := by
 obtain ⟨ad, c, e, _, hK, hc0⟩ := Kd.C_get h z91 i h0 h1
 have hc : ∀ j u, c[j]? = some u → w.cell? (ad.add (i.toNat * 2 + j)) = some u := hc0
 obtain rfl := k91_open hK
 exact ⟨ad, e, hc 0 _ rfl, by rw [← add_field _ _ 1 (by omega)]; exact hc 1 _ rfl⟩
@[go_sem] theorem fl_91_0 (v0 v1 : Value) (w : World) : (Instr.field 91 (.agg #[v0, v1]) 0).run Try.prog w = .ok v0 w := by kernel_rfl
@[go_sem] theorem fl_91_1 (v0 v1 : Value) (w : World) : (Instr.field 91 (.agg #[v0, v1]) 1).run Try.prog w = .ok v1 w := by kernel_rfl
theorem less_irr : ∀ a : List UInt8, Op.bytesLess a a = false
 | [] => by simp [Op.bytesLess]
 | c :: a => by simp [Op.bytesLess, less_irr a]
theorem less_asym : ∀ a b : List UInt8, Op.bytesLess a b = true → Op.bytesLess b a = false
 | _, [], h => by simp [Op.bytesLess] at h
 | [], _ :: _, _ => by simp [Op.bytesLess]
 | c :: a, d :: b, h => by
  simp [Op.bytesLess] at h ⊢
  rcases h with h | ⟨rfl, h⟩
  ·
   exact ⟨UInt8.le_of_lt h, fun e => absurd h (by rw [e]; exact UInt8.lt_irrefl _)⟩
  ·
   exact ⟨UInt8.le_refl _, fun _ => less_asym a b h⟩
theorem less_tot : ∀ a b : List UInt8, Op.bytesLess a b = false → (Op.bytesLess b a || b == a) = true
 | [], [], _ => by simp
 | _ :: _, [], _ => by simp [Op.bytesLess]
 | [], _ :: _, h => by simp [Op.bytesLess] at h
 | c :: a, d :: b, h => by
  simp [Op.bytesLess] at h
  obtain ⟨h1, h2⟩ := h
  by_cases e : d = c
  ·
   subst e
   have := less_tot a b (h2 rfl)
   simp [Op.bytesLess] at this ⊢
   exact this
  ·
   have : d < c := UInt8.lt_of_le_of_ne h1 e
   simp [Op.bytesLess, this]
theorem less_flip {a b : List UInt8} (h : Op.bytesLess a b = true) : (b == a) = false := by
 rw [beq_eq_false_iff_ne]
 rintro rfl
 rw [less_irr] at h
 cases h
theorem bne_nil (l : List UInt8) : (l != []) = !l.isEmpty := by cases l <;> rfl
structure S28 where
 f0 : Int
 f1 : Int
def z28 : S28 := ⟨(0 : Int), (0 : Int)⟩
def k28 : Kd S28 := Kd.iso (Kd.pair (Kd.int .i64) (Kd.int .i64)) (fun x : S28 => (x.f0, x.f1))
theorem k28_open {w : World} {x : S28} {cs : List Value} (h : k28.K w x cs) : cs = [.int .i64 x.f0, .int .i64 x.f1] := by
 obtain ⟨_, _, rfl, rfl, rfl⟩ := h
 exact rfl
theorem k28_mk (w : World) (x : S28)  : k28.K w x [.int .i64 x.f0, .int .i64 x.f1] := ⟨[.int .i64 x.f0], [.int .i64 x.f1], rfl, rfl, rfl⟩
theorem k28_mkM (w : World) (base : Nat) (ok : Nat → Prop) (x : S28)  : k28.M w base ok x [.int .i64 x.f0, .int .i64 x.f1] := ⟨[.int .i64 x.f0], [.int .i64 x.f1], rfl, rfl, rfl⟩
def rd_T28 (xs : List S28) (i : Int) : S28 := xs.getD i.toNat z28
theorem at_T28 {w : World} {A : Option Addr} {n : Nat} {xs : List S28} (h : Kd.C k28 w A n xs) (i : Int) (h0 : 0 ≤ i) (h1 : i < n) : ∃ ad , A = some ad ∧ w.cell? (ad.add (i.toNat * 2)) = some (.int .i64 (rd_T28 xs i).f0) ∧ w.cell? ⟨(ad.add (i.toNat * 2)).block, (ad.add (i.toNat * 2)).off + 1, none⟩ = some (.int .i64 (rd_T28 xs i).f1) := by
 obtain ⟨ad, c, e, _, hK, hc0⟩ := Kd.C_get h z28 i h0 h1
 have hc : ∀ j u, c[j]? = some u → w.cell? (ad.add (i.toNat * 2 + j)) = some u := hc0
 obtain rfl := k28_open hK
 exact ⟨ad, e, hc 0 _ rfl, by rw [← add_field _ _ 1 (by omega)]; exact hc 1 _ rfl⟩
structure S9001 where
 f0 : Int
 f1 : Int
 f2 : ByteArray
 f3 : Int
 f4 : ByteArray
def k9001 : Kd S9001 := Kd.iso (Kd.pair (Kd.int .i64) (Kd.pair (Kd.int .i64) (Kd.pair Kd.string (Kd.pair (Kd.int .i64) Kd.string)))) (fun x : S9001 => (x.f0, x.f1, x.f2, x.f3, x.f4))
theorem k9001_open {w : World} {x : S9001} {cs : List Value} (h : k9001.K w x cs) : cs = [.int .i64 x.f0, .int .i64 x.f1, .string x.f2, .int .i64 x.f3, .string x.f4] := by
 obtain ⟨_, _, rfl, rfl, ⟨_, _, rfl, rfl, ⟨_, _, rfl, rfl, ⟨_, _, rfl, rfl, rfl⟩⟩⟩⟩ := h
 exact rfl
theorem k9001_mk (w : World) (x : S9001)  : k9001.K w x [.int .i64 x.f0, .int .i64 x.f1, .string x.f2, .int .i64 x.f3, .string x.f4] := ⟨[.int .i64 x.f0], [.int .i64 x.f1, .string x.f2, .int .i64 x.f3, .string x.f4], rfl, rfl, ⟨[.int .i64 x.f1], [.string x.f2, .int .i64 x.f3, .string x.f4], rfl, rfl, ⟨[.string x.f2], [.int .i64 x.f3, .string x.f4], rfl, rfl, ⟨[.int .i64 x.f3], [.string x.f4], rfl, rfl, rfl⟩⟩⟩⟩
end Go.Proofs.Ytnpeeiikdcankaa.X

namespace Go.Proofs.Ytnpeeiikdcankaa.Tw
open Go Go.RowKit Go.Shelf Go.Proofs Go.Proofs.Ytnpeeiikdcankaa Go.Proofs.YtnpeeiikdcankaaW.PrintWords Go.Proofs.Ytnpeeiikdcankaa.Ext Go.Proofs.Ytnpeeiikdcankaa.X
abbrev En := S91
def bl (a b : ByteArray) : Bool := Op.bytesLess a.toList b.toList
def cmpV (a b : ByteArray) : Int := if bl a b = true then -1 else if (a.toList == b.toList) = true then 0 else 1
theorem isNaN_calls (s : ByteArray) (w : World) : Calls Try.prog 82 #[.string s] w fun e w' => e = .returned (.bool false) ∧ w = w' := by
 have b1 : (s.toList != s.toList) = false := by simp
 go_enter Try.func82, Try.ntmps82
 go_wp2
 go_ret
 exact ⟨rfl, rfl⟩
theorem compare_calls (a b : ByteArray) (w : World) : Calls Try.prog 75 #[.string a, .string b] w fun e w' => e = .returned (.int .i64 (cmpV a b)) ∧ w = w' := by
 obtain ⟨r, hr⟩ : ∃ r, r = cmpV a b := ⟨_, rfl⟩
 rw [← hr]
 unfold cmpV at hr
 have HR := qh hr
 clear hr
 cases h1 : bl a b with
 | true =>
  have e : r = -1 := by rw [HR.out, h1]; rfl
  have HE := qh e
  unfold bl at h1
  clear HR e
  go_enter Try.func75, Try.ntmps75
  go_wp2_with (go_at_call 82; refine (isNaN_calls _ _).mono ?_; rintro e w' ⟨rfl, rfl⟩)
  go_ret
  exact ⟨by rw [HE.out]; rfl, rfl⟩
 | false =>
  cases h2 : (a.toList == b.toList) with
  | true =>
   have e : r = 0 := by rw [HR.out, h1, h2]; rfl
   have HE := qh e
   unfold bl at h1
   clear HR e
   go_enter Try.func75, Try.ntmps75
   go_wp2_with (go_at_call 82; refine (isNaN_calls _ _).mono ?_; rintro e w' ⟨rfl, rfl⟩)
   go_ret
   exact ⟨by rw [HE.out]; rfl, rfl⟩
  | false =>
   have e : r = 1 := by rw [HR.out, h1, h2]; rfl
   have HE := qh e
   unfold bl at h1
   clear HR e
   go_enter Try.func75, Try.ntmps75
   go_wp2_with (go_at_call 82; refine (isNaN_calls _ _).mono ?_; rintro e w' ⟨rfl, rfl⟩)
   go_ret
   exact ⟨by rw [HE.out]; rfl, rfl⟩
theorem at1_calls (n : ByteArray) (x : Int) (s : ByteArray) (w : World) : Calls Try.prog 74 #[.agg #[.string n, .int .i64 x], .string s] w fun e w' => e = .returned (.int .i64 (cmpV n s)) ∧ Below w.heap.size w w' := by
 go_enter Try.func74, Try.ntmps74
 go_wp2_with (go_at_call 75; refine (compare_calls _ _ _).mono ?_; rintro e w' ⟨rfl, rfl⟩)
 go_ret
 exact ⟨rfl, (Below.refl _ w).alloc (Nat.le_refl _) _⟩
structure Cut (l : List En) (s : ByteArray) (lo : Nat) : Prop where
 le : lo ≤ l.length
 lt : ∀ i, i < lo → bl (l.getD i z91).f0 s = true
 ge : ∀ i, lo ≤ i → i < l.length → bl (l.getD i z91).f0 s = false
def isAt (l : List En) (s : ByteArray) (lo : Nat) : Bool := decide (lo < l.length) && ((l.getD lo z91).f0.toList == s.toList)
theorem cmpV_lt {a b : ByteArray} (h : bl a b = true) : decide (cmpV a b < 0) = true := by unfold cmpV; rw [if_pos h]; rfl
theorem cmpV_ge {a b : ByteArray} (h : bl a b = false) : decide (cmpV a b < 0) = false := by unfold cmpV; rw [if_neg (by rw [h]; simp)]; split <;> rfl
theorem cmpV_eq {a b : ByteArray} (h : bl a b = false) : (cmpV a b == 0) = (a.toList == b.toList) := by
 unfold cmpV
 rw [if_neg (by rw [h]; simp)]
 split
 · rename_i e; rw [e]; rfl
 · rename_i e; rw [Bool.not_eq_true] at e; rw [e]; rfl
theorem search_calls (A : Option Addr) (c : Nat) (l : List En) (s : ByteArray) (lo : Nat) (w : World) (hr : Kd.C k91 w A l.length l) (hc : l.length ≤ c) (hl : l.length < 4294967296) (hlo : Cut l s lo) :
  Calls Try.prog 73 #[.slice A l.length c, .string s, .func (.func 74) #[] #[]] w fun e w' => e = .returned (.tuple #[.int .i64 lo, .bool (isAt l s lo)]) ∧ Below w.heap.size w w' := by
 have HLO := qh hlo
 have HR := qh hr
 clear hlo hr
 go_enter Try.func73, Try.ntmps73
 go_wp2
 go_loopw [9, 10] (fun i j wr => ∃ a b : Nat, i = .int .i64 (a : Int) ∧ j = .int .i64 (b : Int) ∧ a ≤ lo ∧ lo ≤ b ∧ b ≤ l.length ∧ Below w.heap.size w wr) (fun i j _ => (intOf j).toNat - (intOf i).toNat)
 case atStart => exact ⟨0, l.length, rfl, rfl, Nat.zero_le _, HLO.out.le, Nat.le_refl _, Below.refl _ _⟩
 case round =>
  obtain ⟨a, b, rfl, rfl, ha, hb, hbl, hB⟩ := hrel
  have HB := qh hB
  by_cases hab : a < b
  ·
   obtain ⟨ad, eA, x0, x1⟩ := at_T91 (Kd.C_below HR.out hB) (((a : Int) + (b : Int)) / 2) (by omega) (by omega)
   have i0 : (0 : Int) ≤ ((a : Int) + (b : Int)) / 2 := by omega
   have i1 : ((a : Int) + (b : Int)) / 2 < (l.length : Int) := by omega
   have hh : (((a : Int) + (b : Int)) / 2).toNat = (a + b) / 2 := by omega
   have hrd : rd_T91 l (((a : Int) + (b : Int)) / 2) = l.getD ((a + b) / 2) z91 := by unfold rd_T91; rw [hh]
   rw [hrd, hh] at x0 x1
   subst eA
   generalize hq : l.getD ((a + b) / 2) z91 = q at x0 x1
   have HQ := qh hq
   have HH := qh hh
   have hab' : (a : Int) < (b : Int) := by omega
   clear hq hh hrd hB hab
   by_cases hlt : (a + b) / 2 < lo
   ·
    have hb1 : bl q.f0 s = true := by rw [← HQ.out]; exact HLO.out.lt _ hlt
    have d1 := cmpV_lt hb1
    go_wp2_with (go_at_call 74; refine (at1_calls _ _ _ _).mono ?_; rintro e w5 ⟨rfl, hb5⟩)
    go_roundw
    case rel => exact ⟨(a + b) / 2 + 1, b, by go_num, rfl, by omega, hb, hbl, HB.out.trans (hb5.mono HB.out.size)⟩
    case measure => simp [intOf]; omega
   ·
    have hb1 : bl q.f0 s = false := by rw [← HQ.out]; exact HLO.out.ge _ (by omega) (by omega)
    have d1 := cmpV_ge hb1
    go_wp2_with (go_at_call 74; refine (at1_calls _ _ _ _).mono ?_; rintro e w5 ⟨rfl, hb5⟩)
    go_roundw
    case rel => exact ⟨a, (a + b) / 2, rfl, by go_num, ha, by omega, by omega, HB.out.trans (hb5.mono HB.out.size)⟩
    case measure => simp [intOf]; omega
  ·
   obtain rfl : a = lo := by omega
   obtain rfl : b = a := by omega
   clear hab ha hb
   by_cases hn : b < l.length
   ·
    obtain ⟨ad, eA, x0, x1⟩ := at_T91 (Kd.C_below HR.out hB) (b : Int) (by omega) (by omega)
    have hrd : rd_T91 l (b : Int) = l.getD b z91 := by unfold rd_T91; simp
    rw [hrd] at x0 x1
    rw [Int.toNat_natCast] at x0 x1
    subst eA
    have hb1 : bl (l.getD b z91).f0 s = false := HLO.out.ge _ (Nat.le_refl _) hn
    have d1 := cmpV_eq hb1
    have hat : isAt l s b = ((l.getD b z91).f0.toList == s.toList) := by unfold isAt; rw [decide_eq_true hn, Bool.true_and]
    generalize l.getD b z91 = q at x0 x1 d1 hat
    have HAT := qh hat
    clear hat hrd hb1 hB
    go_wp2_with (go_at_call 74; refine (at1_calls _ _ _ _).mono ?_; rintro e w5 ⟨rfl, hb5⟩)
    go_ret2
    exact ⟨by rw [HAT.out]; rfl, HB.out.trans (hb5.mono HB.out.size)⟩
   ·
    have hat : isAt l s b = false := by unfold isAt; rw [decide_eq_false hn, Bool.false_and]
    have HAT := qh hat
    clear hat hB
    go_wp2
    go_ret2
    exact ⟨by rw [HAT.out]; rfl, HB.out⟩
end Go.Proofs.Ytnpeeiikdcankaa.Tw

namespace Go.Proofs.Ytnpeeiikdcankaa.X
open Go.RowKit Go.Proofs.YtnpeeiikdcankaaW.PrintWords Go.Proofs.YtnpeeiikdcankaaW.PrintLast Go.Proofs.YtnpeeiikdcankaaW.PrintMore Go.Proofs.Ytnpeeiikdcankaa.Ext
attribute [local go_sem] max2_int min2_int max_two min_two max_three min_three max_four min_four
def ents_Right.l0 : Nat → List (S91) → Int → Option (Bool)
 | 0, _, _ => none
 | k + 1, x0, x3 => if x3 < (x0.length : Int) then (if 0 ≤ x3 then (if 0 ≤ (wrap64 (x3 - 1)) then (if (wrap64 (x3 - 1)) < (x0.length : Int) then (if ((Op.bytesLess (((rd_T91 x0 (wrap64 (x3 - 1))).f0).toList) (((rd_T91 x0 x3).f0).toList)) = true) then (ents_Right.l0 k x0 (wrap64 (x3 + 1))) else (some false)) else (none)) else (none)) else (none)) else (some true)
def ents_Right.f (k : Nat) (l0 : List (S91)) : Option (Bool) := ents_Right.l0 k l0 1
theorem ents_Right.calls (k : Nat) (A0 : Option Addr) (c0 : Nat) (l0 : List (S91)) (r : Bool) (w : World) (hr0 : Kd.C k91 w A0 l0.length l0) (hc0 : l0.length ≤ c0) (h : ents_Right.f k l0 = some r) :
  Calls Try.prog 72 #[.slice A0 l0.length c0] w fun e w' => e = .returned (.bool r) ∧ Drawn0 w w' := by
 have hu91 := Try.underlying91
 have HR0 := qa hr0
 have HC0 := qa hc0
 clear hr0 hc0
 have H : (ents_Right.l0 k l0 1) = some r := h
 clear h
 have H' := qa H
 clear H
 go_enter Try.func72, Try.ntmps72
 go_wp2
 repeat (go_quiet (fail); try go_wp2)
 go_loopg [3] k (fun kq v3 w' => ∃ (x3_1 : Int), v3 = .int .i64 x3_1 ∧ Aside0 (ents_Right.l0 kq l0 x3_1 = some r) ∧ Aside0 (kq ≤ k) ∧ Drawn0 w w')
 case atStart => exact ⟨(1), (by first | rfl | (simp; done) | (simp [*]; done) | (simp [bne_nil]; done)), H', ⟨Nat.le_refl _⟩, by repeat (first | exact Drawn0.refl _ | apply Drawn0.step)⟩
 case round =>
  clear H'
  obtain ⟨x3_1, rfl, HA, HK1, ⟨m1, rfl⟩⟩ := hrel
  cases gk with
  | zero => exact absurd HA.out (by simp [ents_Right.l0])
  | succ k1 =>
   have H := HA.out
   clear HA
   simp only [ents_Right.l0] at H
   by_cases c2 : x3_1 < (l0.length : Int)
   ·
    rw [if_pos c2] at H
    have c2b0 : decide (x3_1 < (l0.length : Int)) = true := decide_eq_true c2
    clear c2
    by_cases c3 : 0 ≤ x3_1
    ·
     rw [if_pos c3] at H
     have c3b0 : decide (0 ≤ x3_1) = true := decide_eq_true c3
     clear c3
     obtain ⟨ji4, hji4⟩ : ∃ j_ : Int, (wrap64 (x3_1 - 1)) = j_ := ⟨_, rfl⟩
     replace H : (if 0 ≤ (ji4) then (if (ji4) < (l0.length : Int) then (if ((Op.bytesLess (((rd_T91 l0 (ji4)).f0).toList) (((rd_T91 l0 x3_1).f0).toList)) = true) then (ents_Right.l0 k1 l0 (wrap64 (x3_1 + 1))) else (some false)) else (none)) else (none)) = some r := by first | (rw [hji4] at H; exact H) | (simp only [hji4] at H ⊢; exact H)
     have hji4w : (IntKind.i64.wrap (x3_1 - 1)) = ji4 := (i64_w _).trans hji4
     by_cases c5 : 0 ≤ (ji4)
     ·
      rw [if_pos c5] at H
      have c5b0 : decide (0 ≤ (ji4)) = true := decide_eq_true c5
      clear c5
      by_cases c6 : (ji4) < (l0.length : Int)
      ·
       rw [if_pos c6] at H
       have c6b0 : decide ((ji4) < (l0.length : Int)) = true := decide_eq_true c6
       clear c6
       by_cases c7 : ((Op.bytesLess (((rd_T91 l0 (ji4)).f0).toList) (((rd_T91 l0 x3_1).f0).toList)) = true)
       ·
        rw [if_pos c7] at H
        have c7b0 : (Op.bytesLess (((rd_T91 l0 (ji4)).f0).toList) (((rd_T91 l0 x3_1).f0).toList)) = true := c7
        (try (have c7L1 : Op.bytesLess (((rd_T91 l0 x3_1).f0).toList) (((rd_T91 l0 (ji4)).f0).toList) = false := less_asym _ _ c7b0; have c7L2 : ((((rd_T91 l0 x3_1).f0).toList) == (((rd_T91 l0 (ji4)).f0).toList)) = false := less_flip c7b0))
        clear c7
        have H' := qa H
        clear H
        have p101 : 0 ≤ (x3_1 : Int) := of_decide_eq_true (by first | (with_reducible assumption) | assumption)
        have q101 : x3_1 < (l0.length : Int) := of_decide_eq_true (by first | (with_reducible assumption) | assumption)
        obtain ⟨ad101, e101, hx101_0, hx101_1⟩ := at_T91 HR0.out x3_1 p101 q101
        cases e101
        replace p101 := eq_true p101
        replace q101 := eq_true q101
        have p102 : 0 ≤ ((ji4) : Int) := of_decide_eq_true (by first | (with_reducible assumption) | assumption)
        have q102 : (ji4) < (l0.length : Int) := of_decide_eq_true (by first | (with_reducible assumption) | assumption)
        obtain ⟨ad102, e102, hx102_0, hx102_1⟩ := at_T91 HR0.out (ji4) p102 q102
        obtain rfl : ad101 = ad102 := (by injection e102)
        replace p102 := eq_true p102
        replace q102 := eq_true q102
        go_wp2
        repeat (go_quiet (fail); try go_wp2)
        go_roundg k1
        case measure => have := HK1.out; omega
        case rel => exact ⟨(wrap64 (x3_1 + 1)), (by first | rfl | (simp; done) | (simp [*]; done) | (simp [bne_nil]; done)), H', ⟨by have := HK1.out; omega⟩, by repeat (first | exact Drawn0.refl _ | apply Drawn0.step)⟩
       ·
        rw [if_neg c7] at H
        have c7b0 : (Op.bytesLess (((rd_T91 l0 (ji4)).f0).toList) (((rd_T91 l0 x3_1).f0).toList)) = false := by simpa using c7
        (try (have c7L1 : (Op.bytesLess (((rd_T91 l0 x3_1).f0).toList) (((rd_T91 l0 (ji4)).f0).toList) || (((rd_T91 l0 x3_1).f0).toList) == (((rd_T91 l0 (ji4)).f0).toList)) = true := less_tot _ _ c7b0))
        clear c7
        obtain rfl := Option.some.inj H
        have p101 : 0 ≤ (x3_1 : Int) := of_decide_eq_true (by first | (with_reducible assumption) | assumption)
        have q101 : x3_1 < (l0.length : Int) := of_decide_eq_true (by first | (with_reducible assumption) | assumption)
        obtain ⟨ad101, e101, hx101_0, hx101_1⟩ := at_T91 HR0.out x3_1 p101 q101
        cases e101
        replace p101 := eq_true p101
        replace q101 := eq_true q101
        have p102 : 0 ≤ ((ji4) : Int) := of_decide_eq_true (by first | (with_reducible assumption) | assumption)
        have q102 : (ji4) < (l0.length : Int) := of_decide_eq_true (by first | (with_reducible assumption) | assumption)
        obtain ⟨ad102, e102, hx102_0, hx102_1⟩ := at_T91 HR0.out (ji4) p102 q102
        obtain rfl : ad101 = ad102 := (by injection e102)
        replace p102 := eq_true p102
        replace q102 := eq_true q102
        go_wp2
        repeat (go_quiet (fail); try go_wp2)
        go_ret
        exact ⟨by first | rfl | (simp; done) | (simp only [← hji4] <;> (first | rfl | simp)) | (simp [*]; done), by repeat (first | exact Drawn0.refl _ | apply Drawn0.step)⟩
      ·
       rw [if_neg c6] at H
       exact absurd H (by simp)
     ·
      rw [if_neg c5] at H
      exact absurd H (by simp)
    ·
     rw [if_neg c3] at H
     exact absurd H (by simp)
   ·
    rw [if_neg c2] at H
    have c2b0 : decide (x3_1 < (l0.length : Int)) = false := decide_eq_false c2
    clear c2
    obtain rfl := Option.some.inj H
    go_wp2
    repeat (go_quiet (fail); try go_wp2)
    go_ret
    exact ⟨by first | rfl | (simp; done) | (simp [*]; done), by repeat (first | exact Drawn0.refl _ | apply Drawn0.step)⟩
-- NOT PRINTED: function 59 (ents_all)
end Go.Proofs.Ytnpeeiikdcankaa.X

namespace Go.Proofs.Ytnpeeiikdcankaa.Tw
open Go Go.RowKit Go.Shelf Go.Proofs Go.Proofs.Ytnpeeiikdcankaa Go.Proofs.YtnpeeiikdcankaaW.PrintWords Go.Proofs.Ytnpeeiikdcankaa.Ext Go.Proofs.Ytnpeeiikdcankaa.X
def Rt (l : List En) : Prop := l.Pairwise fun a b => bl a.f0 b.f0 = true
structure Nd where
 kind : Int
 up : Int
 data : ByteArray
 ents : List En
def zN : Nd := ⟨0, 0, ⟨#[]⟩, []⟩
structure Tr where
 get : Int → Option Nd
 cnt : Nat
 last : Int
def Tr.node (T : Tr) (n : Int) : Nd := (T.get n).getD zN
def ndV (x : Nd) (s : Value) : Value := .agg #[.int .i64 x.kind, .int .i64 x.up, .string x.data, s]
def vE : Value → Option (DataW Value × List MemPlace) := fun v => some (.held v, [])
def wf (n : Int) : Prop := (Lit.int .i64 n).wf = true
structure TreeIs (w : World) (p : Nat) (T : Tr) (B : Nat) (sv : Int → Value) (D : DataW Value) : Prop where
 ptr : w.heap[p]? = some (.cells #[.map (some B), .int .i64 T.last] 54 (0, 0))
 map : w.ownsMap Try.prog 3 vE B (Maps.size D) D
 cnt : Maps.size D = T.cnt
 has : ∀ n, wf n → Maps.has D (.int .i64 n) = (T.get n).isSome
 at_ : ∀ n z, wf n → D.atKey (.int .i64 n) z = match T.get n with | some x => .held (ndV x (sv n)) | none => z
 ents : ∀ n x, wf n → T.get n = some x → ∃ A c, sv n = .slice A x.ents.length c ∧ x.ents.length ≤ c ∧ Kd.C k91 w A x.ents.length x.ents
def TreeAt (w : World) (p : Nat) (T : Tr) : Prop := ∃ B sv D, TreeIs w p T B sv D
theorem TreeIs.below {w w' : World} {p : Nat} {T : Tr} {B : Nat} {sv : Int → Value} {D : DataW Value} (h : TreeIs w p T B sv D) (hb : Below w.heap.size w w') : TreeIs w' p T B sv D :=
 ⟨(hb.block _ (blk_lt h.ptr)).trans h.ptr, h.map.kept (row := none) (grown_of_below hb none) (by simp), h.cnt, h.has, h.at_, fun n x hn hx => by
  obtain ⟨A, c, e1, e2, e3⟩ := h.ents n x hn hx
  exact ⟨A, c, e1, e2, Kd.C_below e3 hb⟩⟩
theorem TreeAt.below {w w' : World} {p : Nat} {T : Tr} (h : TreeAt w p T) (hb : Below w.heap.size w w') : TreeAt w' p T := by
 obtain ⟨B, sv, D, h⟩ := h
 exact ⟨B, sv, D, h.below hb⟩
theorem TreeAt.lt {w : World} {p : Nat} {T : Tr} (h : TreeAt w p T) : p < w.heap.size := by
 obtain ⟨B, sv, D, h⟩ := h
 exact blk_lt h.ptr
theorem keyed : Maps.Keyed Try.prog 3 := Maps.int_keyed Try.underlying3
theorem zeroNd (w : World) : (zeroValue 73).run Try.prog w = .ok (ndV zN (.slice none 0 0)) w := by kernel_rfl
def EntsAt (w : World) (s : Value) (l : List En) : Prop := ∃ A c, s = .slice A l.length c ∧ l.length ≤ c ∧ Kd.C k91 w A l.length l
theorem EntsAt.below {w w' : World} {s : Value} {l : List En} (h : EntsAt w s l) (hb : Below w.heap.size w w') : EntsAt w' s l := by
 obtain ⟨A, c, e1, e2, e3⟩ := h
 exact ⟨A, c, e1, e2, Kd.C_below e3 hb⟩
theorem entsNil (w : World) : EntsAt w (.slice none 0 0) [] := ⟨none, 0, rfl, Nat.le_refl _, ⟨rfl, by simp, fun h => absurd h (by simp)⟩⟩
theorem TreeIs.look {w : World} {p : Nat} {T : Tr} {B : Nat} {sv : Int → Value} {D : DataW Value} (h : TreeIs w p T B sv D) (n : Int) (hn : wf n) :
  ∃ s, EntsAt w s (T.node n).ents ∧ ∀ w', Below w.heap.size w w' → (Instr.lookup 52 (.map (some B)) (.int .i64 n) false).run Try.prog w' = .ok (ndV (T.node n) s) w' := by
 have key : ∀ w', Below w.heap.size w w' → ∀ r, D.atKey (.int .i64 n) (.held (ndV zN (.slice none 0 0))) = .held r → (Instr.lookup 52 (.map (some B)) (.int .i64 n) false).run Try.prog w' = .ok r w' := by
  intro w' hb r hr
  obtain ⟨v, ps, hrun, hv⟩ := (h.below hb).map.lookup keyed Try.underlying52 (zeroNd w') (zd := .held (ndV zN (.slice none 0 0))) (zp := []) rfl (Maps.keyOf_int_mk Try.underlying3 hn)
  have e := (Prod.mk.inj (Option.some.inj hv)).1
  rw [hr] at e
  rw [← DataW.held.inj e]
  exact hrun
 have ha := h.at_ n (.held (ndV zN (.slice none 0 0))) hn
 cases hx : T.get n with
 | none =>
  rw [hx] at ha
  refine ⟨.slice none 0 0, by unfold Tr.node; rw [hx]; exact entsNil w, fun w' hb => ?_⟩
  have := key w' hb _ ha
  unfold Tr.node; rw [hx]; exact this
 | some x =>
  rw [hx] at ha
  refine ⟨sv n, by unfold Tr.node; rw [hx]; exact h.ents n x hn hx, fun w' hb => ?_⟩
  have := key w' hb _ ha
  unfold Tr.node; rw [hx]; exact this
theorem TreeIs.cell0 {w : World} {p : Nat} {T : Tr} {B : Nat} {sv : Int → Value} {D : DataW Value} (h : TreeIs w p T B sv D) : w.cell? ⟨p, 0, none⟩ = some (.map (some B)) := by rw [blk_cell h.ptr]; rfl
theorem TreeIs.cell1 {w : World} {p : Nat} {T : Tr} {B : Nat} {sv : Int → Value} {D : DataW Value} (h : TreeIs w p T B sv D) : w.cell? ⟨p, 1, none⟩ = some (.int .i64 T.last) := by rw [blk_cell h.ptr]; rfl
abbrev pT (p : Nat) : Value := .pointer (some ⟨p, 0, none⟩)
theorem at_calls (p : Nat) (T : Tr) (n : Int) (w : World) (h : TreeAt w p T) (hn : wf n) :
  Calls Try.prog 57 #[pT p, .int .i64 n] w fun e w' => ∃ s, e = .returned (ndV (T.node n) s) ∧ EntsAt w' s (T.node n).ents ∧ Below w.heap.size w w' := by
 obtain ⟨B, sv, D, h⟩ := h
 obtain ⟨s, hs, hrun⟩ := h.look n hn
 have hrun := hrun _ ((Below.refl _ w).alloc (Nat.le_refl _) (.cells #[.int .i64 0, .int .i64 0, .string ⟨#[]⟩, .slice none 0 0] 73))
 have c0 := h.cell0
 have hlt := blk_lt h.ptr
 obtain ⟨A, c, rfl, hlc, hC⟩ := hs
 have HC := qh hC
 have HL := qh hlc
 generalize hx : T.node n = x at hrun HC HL
 have HX := qh hx
 obtain ⟨k, u, d, l⟩ := x
 unfold ndV at hrun
 simp only [] at hrun
 clear h hC hlc hx
 go_enter Try.func57, Try.ntmps57
 go_wp2
 have hu := Try.underlying73
 refine bodyPost_ret (v := .agg #[.int .i64 k, .int .i64 u, .string d, .slice A l.length c]) (by simp [results, Try.results57, go_sem, hu]) rfl ⟨.slice A l.length c, ?_, ?_, ?_⟩
 · rfl
 · exact ⟨A, c, rfl, HL.out, Kd.C_below HC.out ((Below.refl _ w).alloc (Nat.le_refl _) _)⟩
 · exact (Below.refl _ w).alloc (Nat.le_refl _) _
@[go_sem] theorem fl_node0 (v0 v1 v2 v3 : Value) (w : World) : (Instr.field 73 (.agg #[v0, v1, v2, v3]) 0).run Try.prog w = .ok v0 w := by kernel_rfl
@[go_sem] theorem fl_node1 (v0 v1 v2 v3 : Value) (w : World) : (Instr.field 73 (.agg #[v0, v1, v2, v3]) 1).run Try.prog w = .ok v1 w := by kernel_rfl
@[go_sem] theorem fl_node2 (v0 v1 v2 v3 : Value) (w : World) : (Instr.field 73 (.agg #[v0, v1, v2, v3]) 2).run Try.prog w = .ok v2 w := by kernel_rfl
@[go_sem] theorem fl_node3 (v0 v1 v2 v3 : Value) (w : World) : (Instr.field 73 (.agg #[v0, v1, v2, v3]) 3).run Try.prog w = .ok v3 w := by kernel_rfl
theorem kind_calls (p : Nat) (T : Tr) (n : Int) (w : World) (h : TreeAt w p T) (hn : wf n) :
  Calls Try.prog 42 #[pT p, .int .i64 n] w fun e w' => e = .returned (.int .i64 (T.node n).kind) ∧ Below w.heap.size w w' := by
 have HC := qh (fun W => at_calls p T n W)
 have HT := qh h
 have HN := qh hn
 clear h hn
 generalize hx : T.node n = x at HC ⊢
 obtain ⟨k, u, d, l⟩ := x
 unfold ndV at HC
 simp only [] at HC
 clear hx
 go_enter Try.func42, Try.ntmps42
 go_wp2_with (go_at_call 57; refine (HC.out _ HT.out HN.out).mono ?_; rintro e w' ⟨s, rfl, hs, hb⟩)
 go_ret
 exact ⟨rfl, hb⟩
theorem data_calls (p : Nat) (T : Tr) (n : Int) (w : World) (h : TreeAt w p T) (hn : wf n) :
  Calls Try.prog 67 #[pT p, .int .i64 n] w fun e w' => e = .returned (.string (T.node n).data) ∧ Below w.heap.size w w' := by
 have HC := qh (fun W => at_calls p T n W)
 have HT := qh h
 have HN := qh hn
 clear h hn
 generalize hx : T.node n = x at HC ⊢
 obtain ⟨k, u, d, l⟩ := x
 unfold ndV at HC
 simp only [] at HC
 clear hx
 go_enter Try.func67, Try.ntmps67
 go_wp2_with (go_at_call 57; refine (HC.out _ HT.out HN.out).mono ?_; rintro e w' ⟨s, rfl, hs, hb⟩)
 go_ret
 exact ⟨rfl, hb⟩
theorem up_calls (p : Nat) (T : Tr) (n : Int) (w : World) (h : TreeAt w p T) (hn : wf n) :
  Calls Try.prog 64 #[pT p, .int .i64 n] w fun e w' => e = .returned (.int .i64 (T.node n).up) ∧ Below w.heap.size w w' := by
 have HC := qh (fun W => at_calls p T n W)
 have HT := qh h
 have HN := qh hn
 clear h hn
 generalize hx : T.node n = x at HC ⊢
 obtain ⟨k, u, d, l⟩ := x
 unfold ndV at HC
 simp only [] at HC
 clear hx
 go_enter Try.func64, Try.ntmps64
 go_wp2_with (go_at_call 57; refine (HC.out _ HT.out HN.out).mono ?_; rintro e w' ⟨s, rfl, hs, hb⟩)
 go_ret
 exact ⟨rfl, hb⟩
theorem infoE : (Try.prog.info? 91).map (fun i => (i.zero, i.size, i.bytes)) = some (some (.agg #[.string ⟨#[]⟩, .int .i64 0]), 2, 24) := by kernel_rfl
theorem R_empty {α : Type} (d : Kd α) (e : Nat) (W : World) (base : Nat) (hb : base ≤ W.heap.size) : Kd.R d e (W.alloc (.cells #[] e)) base (fun _ => True) (.slice (some ⟨W.heap.size, 0, none⟩) 0 0) [] :=
 ⟨fun _ _ => trivial, [], by simpa using World.ownsRow_lit (base := base) (e := e) (size := d.sz) W #[] 0 hb (by simp [maxLen]) (by simp), Reps.none _ _⟩
theorem clone_calls (A : Option Addr) (c : Nat) (l : List En) (w : World) (hr : Kd.C k91 w A l.length l) (hc : l.length ≤ c) (hl : l.length < 4294967296) :
  Calls Try.prog 61 #[.slice A l.length c] w fun e w' => ∃ v, e = .returned v ∧ Kd.R k91 91 w' w.heap.size (fun _ => True) v l ∧ Below w.heap.size w w' := by
 have hq := fun W => Lib.run_eql_slice_nil (P := Try.prog) W 68 91 A l.length c 0 0 Try.underlying68
 have HR := qh hr
 have HRE := qh (R_empty k91 91 w w.heap.size (Nat.le_refl _))
 have HB := qh ((Below.refl w.heap.size w).alloc (Nat.le_refl _) (.cells #[] 91))
 cases A with
 | none =>
  have h0 : l = [] := by
   cases l with
   | nil => rfl
   | cons a b => obtain ⟨ad, e, _⟩ := hr.2.2 (by simp); cases e
  subst h0
  clear hr HR hq
  have hq := fun W => Lib.run_eql_slice_nil (P := Try.prog) W 68 91 none 0 c 0 0 Try.underlying68
  simp only [Option.isNone_none] at hq
  go_enter Try.func61, Try.ntmps61
  go_wp2
  go_ret
  exact ⟨_, rfl, Kd.R_nil _ _ _ _ _, Below.refl _ _⟩
 | some ad =>
  clear hr
  simp only [Option.isNone_some] at hq
  go_enter Try.func61, Try.ntmps61
  go_wp2_with ((with_reducible refine gate_builtin (b := .append) (xs := #[.tmp 5, .tmp 6]) rfl ?_); at_builtin; refine Kd.R_append_rows k91 (w0 := w) w.heap.size rfl (.tmp 5) (.tmp 6) 68 91 (.agg #[.string ⟨#[]⟩, .int .i64 0]) 24 rfl Try.underlying68 infoE rfl (by decide) (by omega) _ [] l _ _ _ (fun _ => True) (fun _ => False) rfl rfl HRE.out (Kd.C_below HR.out HB.out) (fun _ _ h => h) (fun _ h => h.elim) (fun _ _ => trivial) HB.out (by simp) (by simp; omega) ?_; intro v1 w1 ho hb hg hat)
  go_ret
  exact ⟨_, rfl, ho, hb⟩
theorem list_calls (p : Nat) (T : Tr) (n : Int) (w : World) (h : TreeAt w p T) (hn : wf n) (hl : (T.node n).ents.length < 4294967296) :
  Calls Try.prog 40 #[pT p, .int .i64 n] w fun e w' => ∃ v, e = .returned v ∧ Kd.R k91 91 w' w.heap.size (fun _ => True) v (T.node n).ents ∧ Below w.heap.size w w' := by
 have HC := qh (fun W => at_calls p T n W)
 have HT := qh h
 have HN := qh hn
 have HL := qh hl
 clear h hn hl
 generalize hx : T.node n = x at HC HL ⊢
 obtain ⟨k, u, d, l⟩ := x
 unfold ndV at HC
 simp only [] at HC HL
 clear hx
 go_enter Try.func40, Try.ntmps40
 go_wp2_with (first | (go_at_call 57; refine (HC.out _ HT.out HN.out).mono ?_; rintro e w' ⟨s, rfl, ⟨A, c, rfl, hlc, hC⟩, hb⟩; have HCC := qh hC; clear hC) | (go_at_call 61; refine (clone_calls _ _ _ _ HCC.out hlc HL.out).mono ?_; rintro e w2 ⟨v, rfl, ho, hb2⟩))
 go_ret
 exact ⟨_, rfl, Kd.R_lower ho hb.size, hb.trans (hb2.mono hb.size)⟩
end Go.Proofs.Ytnpeeiikdcankaa.Tw

namespace Go.Proofs.Ytnpeeiikdcankaa.Pu
open Go Go.RowKit Go.Proofs Go.Proofs.Ytnpeeiikdcankaa Go.Proofs.YtnpeeiikdcankaaW.PrintWords Go.Proofs.Ytnpeeiikdcankaa.Ext
theorem w1 {n : Nat} (h : n < 4611686018427387904) : wrap64 ((n : Int) + 1) = ((n + 1 : Nat) : Int) := by unfold wrap64; omega
theorem wm1 {n : Nat} (h0 : 0 < n) (h : n < 4611686018427387904) : wrap64 ((n : Int) - 1) = ((n - 1 : Nat) : Int) := by unfold wrap64; omega
section
variable {α β : Type} {f g : Nat → Option α} {r : α} {c : Prop} [Decidable c]
theorem ev_pos (hc : c) (h : Ev f r) : Ev (fun k => if c then f k else g k) r := by simpa only [if_pos hc] using h
theorem ev_neg (hc : ¬ c) (h : Ev g r) : Ev (fun k => if c then f k else g k) r := by simpa only [if_neg hc] using h
end
theorem toL (s : ByteArray) : s.toList = s.data.toList := Lib.toList_data s
end Go.Proofs.Ytnpeeiikdcankaa.Pu

namespace Go.Proofs.Ytnpeeiikdcankaa.Tw
open Go Go.RowKit Go.Shelf Go.Proofs Go.Proofs.Ytnpeeiikdcankaa Go.Proofs.YtnpeeiikdcankaaW.PrintWords Go.Proofs.Ytnpeeiikdcankaa.Ext Go.Proofs.Ytnpeeiikdcankaa.X Go.Proofs.Ytnpeeiikdcankaa.Pu
theorem less_trans : ∀ a b c : List UInt8, Op.bytesLess a b = true → Op.bytesLess b c = true → Op.bytesLess a c = true
 | _, [], _, h, _ => by simp [Op.bytesLess] at h
 | _, _ :: _, [], _, h => by simp [Op.bytesLess] at h
 | [], _ :: _, _ :: _, _, _ => by simp [Op.bytesLess]
 | x :: a, y :: b, z :: c, h, k => by
  simp [Op.bytesLess] at h k ⊢
  rcases h with h | ⟨rfl, h⟩
  ·
   rcases k with k | ⟨rfl, k⟩
   · exact .inl (UInt8.lt_trans h k)
   · exact .inl h
  ·
   rcases k with k | ⟨rfl, k⟩
   · exact .inl k
   · exact .inr ⟨rfl, less_trans a b c h k⟩
theorem bl_trans {a b c : ByteArray} (h : bl a b = true) (k : bl b c = true) : bl a c = true := less_trans _ _ _ h k
theorem bl_irr (a : ByteArray) : bl a a = false := less_irr _
theorem bl_asym {a b : ByteArray} (h : bl a b = true) : bl b a = false := less_asym _ _ h
theorem toL_inj {a b : ByteArray} : a.toList = b.toList ↔ a = b := by rw [toL, toL]; exact ⟨fun h => by rw [← Sp.mk_of a, ← Sp.mk_of b, h], fun h => by rw [h]⟩
theorem bl_ne {a b : ByteArray} (h : bl a b = true) : (a.toList == b.toList) = false := by
 rw [beq_eq_false_iff_ne]
 intro e
 rw [toL_inj] at e
 rw [e, bl_irr] at h
 cases h
def findE (l : List En) (s : ByteArray) : Int × Bool := match l.find? (fun e => e.f0.toList == s.toList) with | some e => (e.f1, true) | none => (0, false)
theorem findE_cons (a : En) (l : List En) (s : ByteArray) : findE (a :: l) s = if (a.f0.toList == s.toList) = true then (a.f1, true) else findE l s := by
 unfold findE
 rw [List.find?_cons]
 cases h : (a.f0.toList == s.toList) <;> simp
theorem exists_cut (s : ByteArray) : ∀ l : List En, Rt l → ∃ lo, Cut l s lo ∧ findE l s = if isAt l s lo = true then ((l.getD lo z91).f1, true) else (0, false)
 | [], _ => ⟨0, ⟨Nat.le_refl _, fun i hi => absurd hi (by omega), fun i _ hi => absurd hi (by simp)⟩, rfl⟩
 | a :: l, h => by
  obtain ⟨ha, hl⟩ := List.pairwise_cons.1 h
  obtain ⟨lo, hc, hf⟩ := exists_cut s l hl
  cases hb : bl a.f0 s with
  | true =>
   refine ⟨lo + 1, ⟨by have := hc.le; simp; omega, fun i hi => ?_, fun i h1 h2 => ?_⟩, ?_⟩
   ·
    cases i with
    | zero => exact hb
    | succ i => simpa using hc.lt i (by omega)
   ·
    cases i with
    | zero => omega
    | succ i => simpa using hc.ge i (by omega) (by simpa using h2)
   ·
    rw [findE_cons, bl_ne hb, if_neg (by simp), hf]
    have e : isAt (a :: l) s (lo + 1) = isAt l s lo := by unfold isAt; simp
    rw [e]; simp
  | false =>
   refine ⟨0, ⟨Nat.zero_le _, fun i hi => absurd hi (by omega), fun i h1 h2 => ?_⟩, ?_⟩
   ·
    cases i with
    | zero => exact hb
    | succ i =>
     have hi : i < l.length := by simpa using h2
     cases hx : bl ((a :: l).getD (i + 1) z91).f0 s with
     | false => rfl
     | true =>
      have e : (a :: l).getD (i + 1) z91 = l[i] := by simp [hi]
      rw [e] at hx
      rw [bl_trans (ha _ (List.getElem_mem hi)) hx] at hb
      cases hb
   ·
    rw [findE_cons]
    have e : isAt (a :: l) s 0 = (a.f0.toList == s.toList) := by unfold isAt; simp
    rw [e]
    by_cases he : (a.f0.toList == s.toList) = true
    · rw [if_pos he, if_pos he]; rfl
    ·
     rw [if_neg he, if_neg he]
     have : l.find? (fun e => e.f0.toList == s.toList) = none := by
      rw [List.find?_eq_none]
      intro x hx hxe
      have h1 := ha x hx
      have h2 : x.f0 = s := toL_inj.1 (by simpa using hxe)
      rw [h2, hb] at h1
      cases h1
     unfold findE; rw [this]
theorem right_ev (l : List En) (hl : l.length < 4294967296) (hr : Rt l) : Ev (fun k => ents_Right.f k l) true := by
 have key : ∀ (d i : Nat), i + d = l.length → 1 ≤ i → Ev (fun k => ents_Right.l0 k l (i : Int)) true := by
  intro d
  induction d with
  | zero =>
   intro i hi h1
   refine Ev.step (fun k => by rw [ents_Right.l0]) ?_
   exact ev_neg (by omega) (Ev.now _)
  | succ d ih =>
   intro i hi h1
   refine Ev.step (fun k => by rw [ents_Right.l0]) (ev_pos (by omega) (ev_pos (by omega) ?_))
   rw [wm1 (by omega) (by omega), w1 (by omega)]
   refine ev_pos (by omega) (ev_pos (by omega) (ev_pos ?_ (ih (i + 1) (by omega) (by omega))))
   have e1 : rd_T91 l ((i - 1 : Nat) : Int) = l[i - 1]'(by omega) := by simp [rd_T91, show i - 1 < l.length by omega]
   have e2 : rd_T91 l ((i : Nat) : Int) = l[i]'(by omega) := by simp [rd_T91, show i < l.length by omega]
   rw [e1, e2]
   exact List.pairwise_iff_getElem.1 hr (i - 1) i (by omega) (by omega) (by omega)
 unfold ents_Right.f
 rcases Nat.eq_zero_or_pos l.length with h | h
 ·
  refine Ev.step (fun k => by rw [ents_Right.l0]) ?_
  exact ev_neg (by omega) (Ev.now _)
 · exact key (l.length - 1) 1 (by omega) (Nat.le_refl _)
theorem all_calls (A : Option Addr) (c : Nat) (l : List En) (w : World) (hr : Kd.C k91 w A l.length l) (hc : l.length ≤ c) (hl : l.length < 4294967296) (hR : Rt l) :
  Calls Try.prog 59 #[.slice A l.length c] w fun e w' => e = .returned (.slice A l.length c) ∧ Below w.heap.size w w' := by
 obtain ⟨k, hk⟩ := Ev.rounds (right_ev l hl hR)
 have HC := qh (fun W h => ents_Right.calls k A c l true W h hc hk)
 have HR := qh hr
 clear hk hr hR hl
 go_enter Try.func59, Try.ntmps59
 go_wp2_with (go_at_call 72; refine (HC.out _ HR.out).mono ?_; rintro e w' ⟨rfl, hd⟩)
 go_ret
 exact ⟨rfl, hd.below⟩
theorem at_ents_calls (A : Option Addr) (c : Nat) (l : List En) (s : ByteArray) (lo : Nat) (w : World) (hr : Kd.C k91 w A l.length l) (hc : l.length ≤ c) (hl : l.length < 4294967296) (hlo : Cut l s lo) :
  Calls Try.prog 60 #[.slice A l.length c, .string s] w fun e w' => e = .returned (.tuple #[.int .i64 lo, .bool (isAt l s lo)]) ∧ Below w.heap.size w w' := by
 have HC := qh (search_calls A c l s lo w hr hc hl hlo)
 clear hlo hr hl hc
 go_enter Try.func60, Try.ntmps60
 go_wp2_with (go_at_call 73; refine HC.out.mono ?_; rintro e w' ⟨rfl, hb⟩)
 go_ret2
 exact ⟨rfl, hb⟩
theorem find_calls (A : Option Addr) (c : Nat) (l : List En) (s : ByteArray) (w : World) (hr : Kd.C k91 w A l.length l) (hc : l.length ≤ c) (hl : l.length < 4294967296) (hR : Rt l) :
  Calls Try.prog 39 #[.slice A l.length c, .string s] w fun e w' => e = .returned (.tuple #[.int .i64 (findE l s).1, .bool (findE l s).2]) ∧ Below w.heap.size w w' := by
 obtain ⟨lo, hcut, hf⟩ := exists_cut s l hR
 have HA := qh (fun W h => all_calls A c l W h hc hl hR)
 have HT := qh (fun W h => at_ents_calls A c l s lo W h hc hl hcut)
 have HR := qh hr
 cases hat : isAt l s lo with
 | false =>
  have HF := qh (show findE l s = (0, false) by rw [hf, hat]; rfl)
  rw [hat] at HT
  clear hat hf hcut hR hr hl hc
  go_enter Try.func39, Try.ntmps39
  go_wp2_with (first | (go_at_call 59; refine (HA.out _ HR.out).mono ?_; rintro e w2 ⟨rfl, hb⟩) | (go_at_call 60; refine (HT.out _ (Kd.C_below HR.out hb)).mono ?_; rintro e w3 ⟨rfl, hb3⟩))
  go_ret2
  exact ⟨by rw [HF.out]; rfl, hb.trans (hb3.mono hb.size)⟩
 | true =>
  have HF := qh (show findE l s = ((l.getD lo z91).f1, true) by rw [hf, hat]; rfl)
  rw [hat] at HT
  have hlt : lo < l.length := by unfold isAt at hat; rw [Bool.and_eq_true] at hat; exact of_decide_eq_true hat.1
  obtain ⟨ad, eA, x0, x1⟩ := at_T91 hr (lo : Int) (by omega) (by omega)
  subst eA
  have hrd : rd_T91 l (lo : Int) = l.getD lo z91 := by unfold rd_T91; simp
  rw [hrd, Int.toNat_natCast] at x1
  generalize l.getD lo z91 = q at x1 HF
  have XX := qh x1
  have i0 : (0 : Int) ≤ (lo : Int) := by omega
  have i1 : (lo : Int) < (l.length : Int) := by omega
  clear hat hf hcut hR hr hl hc x0 x1 hrd
  go_enter Try.func39, Try.ntmps39
  go_wp2_with (first | (go_at_call 59; refine (HA.out _ HR.out).mono ?_; rintro e w2 ⟨rfl, hb⟩) | (go_at_call 60; refine (HT.out _ (Kd.C_below HR.out hb)).mono ?_; rintro e w3 ⟨rfl, hb3⟩; have x3 := pw_cell_below hb3 (pw_cell_below hb XX.out)))
  go_ret2
  exact ⟨by rw [HF.out]; rfl, hb.trans (hb3.mono hb.size)⟩
end Go.Proofs.Ytnpeeiikdcankaa.Tw

namespace Go.Proofs.Ytnpeeiikdcankaa.Tw
open Go Go.RowKit Go.Shelf Go.Proofs Go.Proofs.Ytnpeeiikdcankaa Go.Proofs.YtnpeeiikdcankaaW.PrintWords Go.Proofs.Ytnpeeiikdcankaa.Ext Go.Proofs.Ytnpeeiikdcankaa.X
theorem run_copy_rowN {P : Program} (w : World) (dT sT ty elem : TypeId) (sz g o dLen dCap : Nat) (a : Addr) (sLen sCap : Nat) (cur : Array Value) (t : TypeId) (cs : List Value)
  (hu : P.underlying dT = some (.slice elem)) (hs : (P.info? elem).map (·.size) = some sz)
  (hg : w.heap[g]? = some (.cells cur t (0, 0))) (hn : cs.length = Nat.min sLen dLen * sz)
  (hsrc : ∀ j v, cs[j]? = some v → w.cell? (a.add j) = some v) (hfit : o + cs.length ≤ cur.size) (h1 : ∀ v ∈ cs, v.oneCell' = true) :
  (Builtin.copy_ #[dT, sT] ty #[.slice (some ⟨g, o, none⟩) dLen dCap, .slice (some a) sLen sCap]).run P w =
   .ok (goInt (Nat.min sLen dLen)) (w.setRow g (cur.toList.take o ++ cs ++ cur.toList.drop (o + cs.length)).toArray) := by
 have hl := run_loadCells_list (P := P) w a cs hsrc
 have hst := run_storeCells_at P g o t cs 0 cur w hg (by simpa using hfit) h1
 rw [Nat.add_zero] at hst
 cases hq : P.info? elem with
 | none => simp [hq] at hs
 | some i =>
  have hi : i.size = sz := by simpa [hq] using hs
  simp [Builtin.copy_, run_underlying hu, Builtin.lenOf, Builtin.firstCells, sizeOf, typeInfo, hq, hi, ← hn, hl, hst]
theorem step_copy_runI {P : Program} {ops : Array Oper} {o : Oper} {a : Act} {w : World} {K : Act → World → Prop} {Q : Exit → Act → World → Prop} {E : Prop}
  (hg : o.guard = none) (d x : Operand) (dT sT : TypeId) (hop : o.op = Op.call { callee := Callee.builtin Builtin.copy, args := #[d, x], argTypes := #[dT, sT] })
  (v u : Value) (hd : a.eval d = v) (hx : a.eval x = u) {v' : Value} {w' : World} (hr : (Builtin.copy_ #[dT, sT] o.type #[v, u]).run P w = .ok v' w') (hK : K (a.put o.dst v') w') :
  if Region.wanted o (yielded ops a.tmps) = true then Oper.wp P o a w K Q else E := by
 have hw : Region.wanted o (yielded ops a.tmps) = true := by simp [Region.wanted, hg]
 rw [if_pos hw]
 unfold Oper.wp
 simp [execOp, hop, resolve, invoke, builtin, hd, hx, hr, Result.andThen]
 exact hK
def rowE (l : List En) : List Value := l.flatMap fun e => [.string e.f0, .int .i64 e.f1]
theorem rowE_nil : rowE [] = [] := rfl
theorem rowE_cons (x : En) (l : List En) : rowE (x :: l) = .string x.f0 :: .int .i64 x.f1 :: rowE l := rfl
theorem rowE_len : ∀ l : List En, (rowE l).length = l.length * 2
 | [] => rfl
 | x :: l => by rw [rowE_cons, List.length_cons, List.length_cons, rowE_len l, List.length_cons]; omega
theorem rowE_append (l m : List En) : rowE (l ++ m) = rowE l ++ rowE m := by simp [rowE]
theorem rowE_take : ∀ (l : List En) (i : Nat), (rowE l).take (i * 2) = rowE (l.take i)
 | [], i => by simp [rowE_nil]
 | x :: l, 0 => by simp [rowE_nil]
 | x :: l, i + 1 => by rw [rowE_cons, show (i + 1) * 2 = (i * 2 + 1) + 1 by omega, List.take_succ_cons, List.take_succ_cons, rowE_take l i, List.take_succ_cons, rowE_cons]
theorem rowE_drop : ∀ (l : List En) (i : Nat), (rowE l).drop (i * 2) = rowE (l.drop i)
 | [], i => by simp [rowE_nil]
 | x :: l, 0 => by simp
 | x :: l, i + 1 => by rw [rowE_cons, show (i + 1) * 2 = (i * 2 + 1) + 1 by omega, List.drop_succ_cons, List.drop_succ_cons, rowE_drop l i, List.drop_succ_cons]
theorem rowE_one (l : List En) : ∀ v ∈ rowE l, v.oneCell' = true := by
 intro v hv
 simp only [rowE, List.mem_flatMap] at hv
 obtain ⟨x, _, hx⟩ := hv
 simp at hx
 rcases hx with rfl | rfl <;> rfl
theorem reps_rowE {R : En → List Value → Prop} (hR : ∀ x, R x [.string x.f0, .int .i64 x.f1]) : ∀ l : List En, Reps R 2 l (rowE l)
 | [] => Reps.none _ _
 | l => by
  refine ⟨rowE_len l, fun j p hj => ?_⟩
  obtain ⟨hl, rfl⟩ := List.getElem?_eq_some_iff.1 hj
  rw [rowE_drop, List.drop_eq_getElem_cons hl, rowE_cons]
  exact hR _
theorem rowE_of_reps {R : En → List Value → Prop} (hR : ∀ x c, R x c → c = [.string x.f0, .int .i64 x.f1]) : ∀ (l : List En) (cs : List Value), Reps R 2 l cs → cs = rowE l
 | [], cs, h => List.eq_nil_of_length_eq_zero (by simpa using h.1)
 | x :: l, cs, h => by
  have h0 := hR _ _ (h.2 0 x rfl)
  have hl := h.1
  simp only [List.length_cons] at hl
  match cs, hl with
  | [], hl => simp at hl
  | [_], hl => simp at hl; omega
  | a :: b :: cs, hl =>
   simp at h0
   obtain ⟨rfl, rfl⟩ := h0
   have ih := rowE_of_reps hR l cs ⟨by simp at hl; omega, fun j p hj => by
    have := h.2 (j + 1) p (by simpa using hj)
    rw [show (j + 1) * 2 = (j * 2 + 1) + 1 by omega] at this
    simpa using this⟩
   rw [rowE_cons, ih]
def OwnE (w : World) (base : Nat) (v : Value) (l : List En) : Prop :=
 (v = .slice none 0 0 ∧ l = []) ∨ ∃ g cap cur, v = .slice (some ⟨g, 0, none⟩) l.length cap ∧ base ≤ g ∧ w.heap[g]? = some (.cells cur 91 (0, 0)) ∧ l.length ≤ cap ∧ cap ≤ maxLen ∧ cur.size = cap * 2 ∧ cur.toList.take (l.length * 2) = rowE l
theorem OwnE.ofR {w : World} {base : Nat} {v : Value} {l : List En} {ok : Nat → Prop} (h : Kd.R k91 91 w base ok v l) : OwnE w base v l := by
 obtain ⟨_, inner, ho, hr⟩ := h
 obtain rfl := rowE_of_reps (fun x c hc => k91_openM hc) _ _ hr
 rcases ho.2 with ⟨rfl, h0⟩ | ⟨g, cap, cur, rfl, hb, hh, hnc, hcm, hcs, htake⟩
 · exact .inl ⟨rfl, List.eq_nil_of_length_eq_zero h0⟩
 · exact .inr ⟨g, cap, cur, rfl, hb, hh, hnc, hcm, hcs, htake⟩
theorem OwnE.toR {w : World} {base : Nat} {v : Value} {l : List En} (h : OwnE w base v l) : Kd.R k91 91 w base (fun _ => True) v l := by
 refine ⟨fun _ _ => trivial, rowE l, ⟨?_, ?_⟩, reps_rowE (fun x => k91_mkM _ _ _ x) l⟩
 · rw [rowE_len]; rfl
 ·
  rcases h with ⟨rfl, rfl⟩ | ⟨g, cap, cur, rfl, hb, hh, hnc, hcm, hcs, htake⟩
  · exact .inl ⟨rfl, rfl⟩
  · exact .inr ⟨g, cap, cur, rfl, hb, hh, hnc, hcm, hcs, htake⟩
theorem one_C (w : World) (vb : Nat) (x : En) (hv : w.heap[vb]? = some (.cells #[.string x.f0, .int .i64 x.f1] 91 (0, 0))) : Kd.C k91 w (some ⟨vb, 0, none⟩) 1 [x] := by
 refine ⟨rfl, by omega, fun _ => ⟨_, rfl, fun j p hj => ?_⟩⟩
 obtain ⟨hl, rfl⟩ := List.getElem?_eq_some_iff.1 hj
 have : j = 0 := by simp at hl; exact hl
 subst this
 refine ⟨[.string x.f0, .int .i64 x.f1], rfl, k91_mk w x, fun i u hu => ?_⟩
 rw [show (⟨vb, 0, none⟩ : Addr).add (0 * k91.sz + i) = ⟨vb, i, none⟩ by rw [Addr.add_lit]; congr 1; omega]
 rw [cell_of_row w vb _ _ _ (0, 0) hv]
 simpa using hu
theorem insert_end (v : Value) (l : List En) (x : En) (vb : Nat) (w : World) (base : Nat) (hR : OwnE w base v l) (hbase : base ≤ w.heap.size)
  (hv : w.heap[vb]? = some (.cells #[.string x.f0, .int .i64 x.f1] 91 (0, 0))) (hs : l.length < 4294967296) :
  Calls Try.prog 70 #[v, .int .i64 l.length, .slice (some ⟨vb, 0, none⟩) 1 1] w fun e w' => ∃ v', e = .returned v' ∧ OwnE w' base v' (l ++ [x]) ∧ Below base w w' := by
 have HO := qh hR.toR
 have HV := qh (one_C w vb x hv)
 have HB := qh (Below.refl base w)
 have HBS := qh hbase
 have HS := qh hs
 obtain ⟨A, c, rfl⟩ : ∃ A c, v = .slice A l.length c := by
  rcases hR with ⟨rfl, rfl⟩ | ⟨g, cap, cur, rfl, _⟩
  · exact ⟨_, _, rfl⟩
  · exact ⟨_, _, rfl⟩
 have hlc : l.length ≤ c := by
  rcases hR with ⟨e, rfl⟩ | ⟨g, cap, cur, e, hb, hh, hnc, hcm, hcs, htake⟩
  · simp
  · cases e; exact hnc
 have h0 : A = none → l = [] ∧ c = 0 := by
  rintro rfl
  rcases hR with ⟨e, rfl⟩ | ⟨g, cap, cur, e, _⟩
  · cases e; exact ⟨rfl, rfl⟩
  · cases e
 clear hR hv hbase
 cases A with
 | none =>
  have h0 : l = [] ∧ c = 0 := h0 rfl
  obtain ⟨rfl, rfl⟩ := h0
  clear hlc
  simp only [List.length_nil] at HO
  go_enter Try.func70, Try.ntmps70
  go_wp2_with ((with_reducible refine gate_builtin (b := .append) (xs := #[.tmp 23, .tmp 24]) rfl ?_); at_builtin; refine Kd.R_append_rows k91 (w0 := w) base rfl (.tmp 23) (.tmp 24) 68 91 (.agg #[.string ⟨#[]⟩, .int .i64 0]) 24 rfl Try.underlying68 infoE rfl (by decide) (by omega) _ [] [x] _ _ _ (fun _ => True) (fun _ => False) rfl rfl HO.out HV.out (fun _ _ h => by obtain rfl := k91_open h; exact k91_mkM _ _ _ _) (fun _ h => h.elim) (fun _ _ => trivial) HB.out HBS.out (by simp) ?_; intro v1 w1 ho hb hg hat)
  all_goals go_ret
  all_goals exact ⟨_, rfl, OwnE.ofR ho, hb⟩
 | some ad =>
  clear h0
  go_enter Try.func70, Try.ntmps70
  go_wp2_with ((with_reducible refine gate_builtin (b := .append) (xs := #[.tmp 23, .tmp 24]) rfl ?_); at_builtin; refine Kd.R_append_rows k91 (w0 := w) base rfl (.tmp 23) (.tmp 24) 68 91 (.agg #[.string ⟨#[]⟩, .int .i64 0]) 24 rfl Try.underlying68 infoE rfl (by decide) (by omega) _ l [x] _ _ _ (fun _ => True) (fun _ => False) rfl rfl HO.out HV.out (fun _ _ h => by obtain rfl := k91_open h; exact k91_mkM _ _ _ _) (fun _ h => h.elim) (fun _ _ => trivial) HB.out HBS.out (by omega) ?_; intro v1 w1 ho hb hg hat)
  all_goals go_ret
  all_goals exact ⟨_, rfl, OwnE.ofR ho, hb⟩
theorem copy_E (W : World) (g o dLen dCap : Nat) (a : Addr) (sLen sCap m : Nat) (cur : Array Value) (l : List En) (hm : l.length = m) (hmin : Nat.min sLen dLen = m)
  (hg : W.heap[g]? = some (.cells cur 91 (0, 0))) (hsrc : ∀ j v, (rowE l)[j]? = some v → W.cell? (a.add j) = some v) (hfit : o + m * 2 ≤ cur.size) :
  ∃ W1, (∀ ty, (Builtin.copy_ #[68, 68] ty #[.slice (some ⟨g, o, none⟩) dLen dCap, .slice (some a) sLen sCap]).run Try.prog W = .ok (goInt m) W1) ∧
   W1.heap[g]? = some (.cells (cur.toList.take o ++ rowE l ++ cur.toList.drop (o + m * 2)).toArray 91 (0, 0)) ∧ W.grownBy W1 (some g) := by
 subst hm
 refine ⟨_, fun ty => by rw [run_copy_rowN W _ _ ty 91 2 g o dLen dCap a sLen sCap cur 91 (rowE l) Try.underlying68 (by kernel_rfl) hg (by rw [rowE_len, hmin]) hsrc (by rw [rowE_len]; exact hfit) (rowE_one l), hmin], ?_, ?_⟩
 · rw [← rowE_len]; exact setRow_heap W g cur _ _ _ hg
 · exact ⟨rfl, rfl, rfl, by simp, fun k _ hk => setRow_other W g k _ (fun e => hk (by rw [e]))⟩
theorem cells_E {W : World} {g o : Nat} {cur : Array Value} {l : List En} (hg : W.heap[g]? = some (.cells cur 91 (0, 0))) (h : (cur.toList.drop o).take (l.length * 2) = rowE l) :
  ∀ j v, (rowE l)[j]? = some v → W.cell? ((⟨g, o, none⟩ : Addr).add j) = some v := by
 intro j v hj
 rw [Addr.add_lit, cell_of_row W g _ cur _ (0, 0) hg]
 rw [← h, List.getElem?_take, List.getElem?_drop] at hj
 split at hj
 · simpa using hj
 · cases hj
theorem insert_room (g cap : Nat) (cur : Array Value) (l : List En) (i : Nat) (x : En) (vb : Nat) (w : World) (hi : i < l.length) (hroom : l.length + 1 ≤ cap) (hcm : cap ≤ maxLen)
  (hg : w.heap[g]? = some (.cells cur 91 (0, 0))) (hcs : cur.size = cap * 2) (htk : cur.toList.take (l.length * 2) = rowE l)
  (hv : w.heap[vb]? = some (.cells #[.string x.f0, .int .i64 x.f1] 91 (0, 0))) (hne : vb ≠ g) (hs : l.length < 4294967296) :
  Calls Try.prog 70 #[.slice (some ⟨g, 0, none⟩) l.length cap, .int .i64 i, .slice (some ⟨vb, 0, none⟩) 1 1] w fun e w' =>
   ∃ cur' : Array Value, e = .returned (.slice (some ⟨g, 0, none⟩) (l.length + 1) cap) ∧ w'.heap[g]? = some (.cells cur' 91 (0, 0)) ∧ cur'.size = cap * 2 ∧ cur'.toList.take ((l.length + 1) * 2) = rowE (l.take i ++ x :: l.drop i) ∧ w.grownBy w' (some g) := by
 have hov : ∀ lb cb o, (callFunc 80 #[.slice (some ⟨vb, 0, none⟩) 1 1, .slice (some ⟨g, o, none⟩) lb cb]).run Try.prog w = .ok (.value (.bool false)) w := fun lb cb o => by
  rw [run_callFunc_extern Try.func80 (by kernel_rfl) (by kernel_rfl) (by kernel_rfl) (e := Extern.SlicesOverlaps.overlaps #[68, 68] #[4]) (by kernel_rfl),
   Lib.run_overlaps_apart w 68 4 91 Try.underlying68 2 (by intro w; kernel_rfl) ⟨vb, 0, none⟩ ⟨g, o, none⟩ 1 1 lb cb hne 91 91 2 cur.size (by simp [World.shape?, hv]) (by simp [World.shape?, hg]) (by omega) (by simp [World.frozen?, hv]) (by simp [World.frozen?, hv])]
  rfl
 have hz2 : ¬ ((i : Int) = (l.length : Int)) := by omega
 have hw1 : IntKind.i64.wrap ((i : Int) + 1) = ((i + 1 : Nat) : Int) := by rw [IntKind.wrap_i64]; omega
 have hw2 : IntKind.i64.wrap ((l.length : Int) + 1) = ((l.length + 1 : Nat) : Int) := by rw [IntKind.wrap_i64]; omega
 have hb1 : (0 : Int) ≤ (i : Int) + 1 := by omega
 have hb7 : (i : Int) ≤ (l.length : Int) + 1 := by omega
 have hb2 : ¬ (cap = i + 1) := by omega
 have hb4 : ¬ (cap = i) := by omega
 have hb5 : ¬ (cap < l.length + 1) := by omega
 have hb6 : i ≤ l.length := by omega
 have hgd : w.drew.heap[g]? = some (.cells cur 91 (0, 0)) := hg
 have hvd : w.drew.heap[vb]? = some (.cells #[.string x.f0, .int .i64 x.f1] 91 (0, 0)) := hv
 have hld : (l.drop i).length = l.length - i := List.length_drop
 obtain ⟨W1, hc1, hg1, hk1⟩ := copy_E w.drew g ((i + 1) * 2) (l.length + 1 - (i + 1)) (cap - (i + 1)) ⟨g, i * 2, none⟩ (l.length + 1 - i) (cap - i) (l.length - i) cur (l.drop i) hld (by show min _ _ = _; omega) hgd
  (cells_E hgd (by rw [hld, ← rowE_drop, ← htk, List.drop_take]; congr 1; omega)) (by omega)
 have hv1 := (hk1.block vb (blk_lt hvd) (fun e => hne (Option.some.inj e))).trans hvd
 obtain ⟨cur1, hcur1⟩ : ∃ c, c = (cur.toList.take ((i + 1) * 2) ++ rowE (l.drop i) ++ cur.toList.drop ((i + 1) * 2 + (l.length - i) * 2)).toArray := ⟨_, rfl⟩
 rw [← hcur1] at hg1
 have hs1 : cur1.size = cap * 2 := by
  rw [hcur1]
  simp only [List.size_toArray, List.length_append, List.length_take, List.length_drop, Array.length_toList, rowE_len, hcs]
  omega
 obtain ⟨W2, hc2, hg2, hk2⟩ := copy_E W1 g (i * 2) (l.length + 1 - i) (cap - i) ⟨vb, 0, none⟩ 1 1 1 cur1 [x] rfl (by show min _ _ = _; omega) hg1 (cells_E hv1 rfl) (by omega)
 obtain ⟨cur2, hcur2⟩ : ∃ c, c = (cur1.toList.take (i * 2) ++ rowE [x] ++ cur1.toList.drop (i * 2 + 1 * 2)).toArray := ⟨_, rfl⟩
 rw [← hcur2] at hg2
 have FIN : cur2.size = cap * 2 ∧ cur2.toList.take ((l.length + 1) * 2) = rowE (l.take i ++ x :: l.drop i) := by
  refine ⟨?_, ?_⟩
  ·
   rw [hcur2]
   simp only [List.size_toArray, List.length_append, List.length_take, List.length_drop, Array.length_toList, rowE_len, hs1]
   simp only [List.length_cons, List.length_nil]
   omega
  ·
   have e1 : cur1.toList.take (i * 2) = rowE (l.take i) := by
    rw [hcur1, List.append_assoc, List.take_append_of_le_length (by simp; omega), List.take_take, ← rowE_take, ← htk, List.take_take]
    congr 1
    omega
   have e2 : cur1.toList.drop (i * 2 + 1 * 2) = rowE (l.drop i) ++ cur.toList.drop ((i + 1) * 2 + (l.length - i) * 2) := by
    rw [hcur1, List.append_assoc, List.drop_left' (by simp; omega)]
   rw [hcur2, e1, e2, show x :: l.drop i = [x] ++ l.drop i from rfl, rowE_append, rowE_append]
   simp only []
   rw [show rowE (l.take i) ++ rowE [x] ++ (rowE (l.drop i) ++ cur.toList.drop ((i + 1) * 2 + (l.length - i) * 2)) = (rowE (l.take i) ++ (rowE [x] ++ rowE (l.drop i))) ++ cur.toList.drop ((i + 1) * 2 + (l.length - i) * 2) by simp only [List.append_assoc]]
   exact List.take_left' (by simp only [List.length_append, rowE_len, List.length_take, List.length_drop, List.length_cons, List.length_nil]; omega)
 have HF := qh (And.intro FIN (And.intro hg2 (hk1.trans hk2)))
 have HC1 := qh hc1
 have HC2 := qh hc2
 clear FIN hcur2 hcur1 hg1 hs1 hv1 hk1 hk2 hg2 hc1 hc2 hvd hgd hg hcs htk hv hs hcm hld
 generalize hn : l.length = n at *
 go_enter Try.func70, Try.ntmps70
 go_wp2_with (simp only [hov])
 go_region_law (refine step_copy_runI rfl _ _ 68 68 rfl _ _ (by simp [Act.eval, Act.put]) (by simp [Act.eval, Act.put]) (HC1.out _) ?_)
 have hc2 := HC2.out 3
 go_wp2
 go_ret
 obtain ⟨⟨f1, f2⟩, f3, f4⟩ := HF.out
 exact ⟨cur2, rfl, f3, f1, f2, ⟨f4.os, f4.tape, f4.output, f4.size, fun k hk hne => f4.block k hk hne⟩⟩
theorem insert_grow (g cap : Nat) (cur : Array Value) (l : List En) (i : Nat) (x : En) (vb : Nat) (w : World) (hi : i < l.length) (hcap : l.length ≤ cap) (hroom : cap < l.length + 1)
  (hg : w.heap[g]? = some (.cells cur 91 (0, 0))) (hcs : cur.size = cap * 2) (htk : cur.toList.take (l.length * 2) = rowE l)
  (hv : w.heap[vb]? = some (.cells #[.string x.f0, .int .i64 x.f1] 91 (0, 0))) (hs : l.length < 4294967296) :
  Calls Try.prog 70 #[.slice (some ⟨g, 0, none⟩) l.length cap, .int .i64 i, .slice (some ⟨vb, 0, none⟩) 1 1] w fun e w' =>
   ∃ (G : Nat) (cur' : Array Value), e = .returned (.slice (some ⟨w.heap.size, 0, none⟩) (l.length + 1) G) ∧ w'.heap[w.heap.size]? = some (.cells cur' 91 (0, 0)) ∧ l.length + 1 ≤ G ∧ G ≤ maxLen ∧ cur'.size = G * 2 ∧ cur'.toList.take ((l.length + 1) * 2) = rowE (l.take i ++ x :: l.drop i) ∧ Below w.heap.size w w' := by
 obtain ⟨i0, hi0, hz0, hzs, hzb⟩ := info_parts infoE
 have hld : (l.drop i).length = l.length - i := List.length_drop
 have hbg := blk_lt hg
 have hbv := blk_lt hv
 have hold : (Builtin.firstCells i0.size i (.slice (some ⟨g, 0, none⟩) i cap)).run Try.prog w.drew = .ok (rowE (l.take i)).toArray w.drew := by
  rw [hzs]
  exact run_firstCells_some w.drew 2 i ⟨g, 0, none⟩ i cap _ (by rw [rowE_len, List.length_take]; omega) (cells_E (l := l.take i) (W := w.drew) hg (by
   rw [← rowE_take, ← htk, List.drop_zero, List.take_take, List.length_take]
   congr 1
   omega))
 have hkk : ((l.length : Int) + 1 - (i : Int)) = ((l.length + 1 - i : Nat) : Int) := by omega
 have hik : i + (l.length + 1 - i) = l.length + 1 := by omega
 obtain ⟨W1, G, ROW, hrz, hG1, hG2, hg1, hR1, hR2, hb1⟩ : ∃ W1 G, ∃ ROW : Array Value, (∀ ty, (Builtin.append_ #[68, 3] ty #[.slice (some ⟨g, 0, none⟩) i cap, .int .i64 ((l.length : Int) + 1 - (i : Int))]).run Try.prog w =
   .ok (.slice (some ⟨w.heap.size, 0, none⟩) (l.length + 1) G) W1) ∧ l.length + 1 ≤ G ∧ G ≤ maxLen ∧ W1.heap[w.heap.size]? = some (.cells ROW 91 (0, 0)) ∧ ROW.size = G * 2 ∧ ROW.toList.take (i * 2) = rowE (l.take i) ∧ Below w.heap.size w W1 := by
  have h := fun ty => Lib.run_append_grow_zeros w 68 3 ty 91 i0 _ .i64 .i64 Try.underlying68 Try.underlying3 hi0 hz0 (some ⟨g, 0, none⟩) i cap _ hold (l.length + 1 - i) (by omega) (by omega) (by omega) (by omega) (by rw [hzb]; omega) (by rw [hzb, hik]; exact growslice_fits (by omega) (by omega))
  rw [hik, ← hkk] at h
  refine ⟨_, _, _, h, grownCap_ge w _ _ _, grownCap_le_maxLen w _ _ _ (by unfold maxLen; omega), heap_alloc_new w.drew _, ?_, ?_, ((Below.refl _ w).drew).alloc (Nat.le_refl _) _⟩
  ·
   have := grownCap_ge w (l.length + 1) cap 91
   simp only [Array.size_append, List.size_toArray, size_zeroCells, rowE_len, List.length_take]
   simp only [Value.cells]
   show min i l.length * 2 + (l.length + 1 - i) * 2 + (grownCap w (l.length + 1) cap 91 - (l.length + 1)) * 2 = _
   omega
  ·
   rw [Array.toList_append, Array.toList_append, List.append_assoc]
   exact List.take_left' (by rw [rowE_len, List.length_take]; omega)
 have hv1 := (hb1.block vb hbv).trans hv
 obtain ⟨W2, hc2, hg2, hk2⟩ := copy_E W1 w.heap.size (i * 2) (l.length + 1 - i) (G - i) ⟨vb, 0, none⟩ 1 1 1 ROW [x] rfl (by show min _ _ = _; omega) hg1 (cells_E hv1 rfl) (by omega)
 obtain ⟨cur2, hcur2⟩ : ∃ c, c = (ROW.toList.take (i * 2) ++ rowE [x] ++ ROW.toList.drop (i * 2 + 1 * 2)).toArray := ⟨_, rfl⟩
 rw [← hcur2] at hg2
 have hs2 : cur2.size = G * 2 := by
  rw [hcur2]
  simp only [List.size_toArray, List.length_append, List.length_take, List.length_drop, Array.length_toList, rowE_len, hR1]
  simp only [List.length_cons, List.length_nil]
  omega
 have hgg : W2.drew.heap[g]? = some (.cells cur 91 (0, 0)) := (hk2.block g (by have := hb1.size; omega) (by intro e; injection e with e; omega)).trans ((hb1.block g hbg).trans hg)
 have hg2' : W2.drew.heap[w.heap.size]? = some (.cells cur2 91 (0, 0)) := hg2
 obtain ⟨W3, hc3, hg3, hk3⟩ := copy_E W2.drew w.heap.size ((i + 1) * 2) (l.length + 1 - (i + 1)) (G - (i + 1)) ⟨g, i * 2, none⟩ (l.length - i) (cap - i) (l.length - i) cur2 (l.drop i) hld (by show min _ _ = _; omega) hg2'
  (cells_E hgg (by rw [hld, ← rowE_drop, ← htk, List.drop_take]; congr 1; omega)) (by omega)
 obtain ⟨cur3, hcur3⟩ : ∃ c, c = (cur2.toList.take ((i + 1) * 2) ++ rowE (l.drop i) ++ cur2.toList.drop ((i + 1) * 2 + (l.length - i) * 2)).toArray := ⟨_, rfl⟩
 rw [← hcur3] at hg3
 have FIN : cur3.size = G * 2 ∧ cur3.toList.take ((l.length + 1) * 2) = rowE (l.take i ++ x :: l.drop i) := by
  refine ⟨?_, ?_⟩
  ·
   rw [hcur3]
   simp only [List.size_toArray, List.length_append, List.length_take, List.length_drop, Array.length_toList, rowE_len, hs2]
   omega
  ·
   have e1 : cur2.toList.take ((i + 1) * 2) = rowE (l.take i) ++ rowE [x] := by
    rw [hcur2, hR2]
    exact List.take_left' (by simp only [List.length_append, rowE_len, List.length_take, List.length_cons, List.length_nil]; omega)
   rw [hcur3, e1, show x :: l.drop i = [x] ++ l.drop i from rfl, rowE_append, rowE_append]
   rw [← List.append_assoc (rowE (l.take i)) (rowE [x])]
   exact List.take_left' (by simp only [List.length_append, rowE_len, List.length_take, List.length_drop, List.length_cons, List.length_nil]; omega)
 have hbl : Below w.heap.size w W3 := by
  refine ⟨hk3.os.trans (hk2.os.trans hb1.os), hk3.tape.trans (hk2.tape.trans hb1.tape), hk3.output.trans (hk2.output.trans hb1.output), ?_, fun k hk => ?_⟩
  ·
   have h1 := hb1.size; have h2 := hk2.size; have h3 := hk3.size
   exact Nat.le_trans h1 (Nat.le_trans h2 h3)
  ·
   have h1 := hb1.size; have h2 := hk2.size
   exact (hk3.block k (Nat.lt_of_lt_of_le hk (Nat.le_trans h1 h2)) (by intro e; injection e with e; omega)).trans ((hk2.block k (by omega) (by intro e; injection e with e; omega)).trans (hb1.block k hk))
 have hz2 : ¬ ((i : Int) = (l.length : Int)) := by omega
 have hz3 : (cap : Int) < (l.length : Int) + 1 := by omega
 have hw1 : IntKind.i64.wrap ((i : Int) + 1) = ((i + 1 : Nat) : Int) := by rw [IntKind.wrap_i64]; omega
 have hw2 : IntKind.i64.wrap ((l.length : Int) + 1) = ((l.length + 1 : Nat) : Int) := by rw [IntKind.wrap_i64]; omega
 have hbb1 : (0 : Int) ≤ (i : Int) + 1 := by omega
 have hb7 : (i : Int) ≤ (l.length : Int) + 1 := by omega
 have hb6 : i ≤ l.length := by omega
 have hb4 : ¬ (cap = i) := by omega
 have hGi : ¬ (G = i) := by omega
 have hGim : ¬ (G = i + 1) := by omega
 have HF := qh (And.intro (And.intro hG1 hG2) (And.intro FIN (And.intro hg3 hbl)))
 have HRZ := qh hrz
 have hw3 : wrap64 ((l.length : Int) + 1 - (i : Int)) = (l.length : Int) + 1 - (i : Int) := IntWalk.wrap64_in _ (by omega)
 have hc2 := hc2 3
 have HC3 := qh hc3
 have HHS := qh hs
 clear FIN hbl hcur2 hcur3 hg1 hg2 hg2' hgg hs2 hR1 hR2 hb1 hv1 hk2 hk3 hg3 hc3 hg hcs htk hv hold hkk hik hld hbg hbv hrz hs hG1 hG2 hi0 hz0 hzs hzb
 generalize hn : l.length = n at *
 go_enter Try.func70, Try.ntmps70
 go_wp2_with (at_builtin; refine Lib.wpList_append_run _ rfl _ _ _ _ rfl (.slice (some ⟨g, 0, none⟩) i cap) (.int .i64 ((n : Int) + 1 - (i : Int))) (by simp [Act.eval]) (by simp [Act.eval, hw3]) _ _ (HRZ.out _) ?_)
 go_region_law (refine step_copy_runI rfl _ _ 68 68 rfl _ _ (by simp [Act.eval, Act.put]) (by simp [Act.eval, Act.put]) (HC3.out _) ?_)
 go_wp2
 go_ret
 obtain ⟨⟨f0, f00⟩, ⟨f1, f2⟩, f3, f4⟩ := HF.out
 exact ⟨G, cur3, rfl, f3, f0, f00, f1, f2, f4⟩
theorem insert_calls (v : Value) (l : List En) (i : Nat) (x : En) (vb : Nat) (w : World) (base : Nat) (hi : i ≤ l.length) (hR : OwnE w base v l) (hbase : base ≤ w.heap.size)
  (hv : w.heap[vb]? = some (.cells #[.string x.f0, .int .i64 x.f1] 91 (0, 0))) (hne : v.ownBlock ≠ some vb) (hs : l.length < 4294967296) :
  Calls Try.prog 70 #[v, .int .i64 i, .slice (some ⟨vb, 0, none⟩) 1 1] w fun e w' => ∃ v', e = .returned v' ∧ OwnE w' base v' (l.take i ++ x :: l.drop i) ∧ Below base w w' := by
 rcases Nat.lt_or_ge i l.length with hlt | hge
 ·
  have h2 : (l.take i ++ x :: l.drop i).length = l.length + 1 := by rw [List.length_append, List.length_cons, List.length_take, List.length_drop]; omega
  rcases hR with ⟨rfl, rfl⟩ | ⟨g, cap, cur, rfl, hb, hh, hnc, hcm, hcs, htake⟩
  · simp at hlt
  ·
   rcases Nat.lt_or_ge cap (l.length + 1) with hroom | hroom
   ·
    refine (insert_grow g cap cur l i x vb w hlt hnc hroom hh hcs htake hv hs).mono ?_
    rintro e w' ⟨G, cur', rfl, h3, h4, h5, h6, h7, h8⟩
    refine ⟨_, rfl, .inr ⟨_, G, cur', by rw [h2], hbase, h3, by rw [h2]; exact h4, h5, h6, by rw [h2]; exact h7⟩, h8.mono hbase⟩
   ·
    refine (insert_room g cap cur l i x vb w hlt hroom hcm hh hcs htake hv (fun e => hne (by rw [e]; rfl)) hs).mono ?_
    rintro e w' ⟨cur', rfl, h3, h6, h7, h8⟩
    refine ⟨_, rfl, .inr ⟨_, cap, cur', by rw [h2], hb, h3, by rw [h2]; exact hroom, hcm, h6, by rw [h2]; exact h7⟩, ⟨h8.os, h8.tape, h8.output, h8.size, fun k hk => h8.block k (Nat.lt_of_lt_of_le hk hbase) (by intro e; injection e with e; omega)⟩⟩
 ·
  obtain rfl : i = l.length := by omega
  rw [List.take_length, List.drop_length]
  exact insert_end v l x vb w base hR hbase hv hs
end Go.Proofs.Ytnpeeiikdcankaa.Tw

namespace Go.Proofs.Ytnpeeiikdcankaa.Tw
open Go Go.RowKit Go.Shelf Go.Proofs Go.Proofs.Ytnpeeiikdcankaa Go.Proofs.YtnpeeiikdcankaaW.PrintWords Go.Proofs.Ytnpeeiikdcankaa.Ext Go.Proofs.Ytnpeeiikdcankaa.X Go.Proofs.Ytnpeeiikdcankaa.Pu
def insE : List En → En → List En
 | [], x => [x]
 | a :: l, x => if bl a.f0 x.f0 = true then a :: insE l x else x :: a :: l
theorem insE_cut (x : En) : ∀ (l : List En) (lo : Nat), Cut l x.f0 lo → insE l x = l.take lo ++ x :: l.drop lo
 | [], lo, h => by have := h.le; simp at this; subst this; rfl
 | a :: l, 0, h => by
  have := h.ge 0 (Nat.le_refl _) (by simp)
  unfold insE
  rw [if_neg (by simpa using this)]; rfl
 | a :: l, lo + 1, h => by
  have h0 := h.lt 0 (by omega)
  unfold insE
  rw [if_pos (by simpa using h0), insE_cut x l lo ⟨by have := h.le; simp at this; omega, fun i hi => by have := h.lt (i + 1) (by omega); simpa using this, fun i hi hl => by have := h.ge (i + 1) (by omega) (by simp; omega); simpa using this⟩]
  rfl
theorem insE_len (x : En) : ∀ l : List En, (insE l x).length = l.length + 1
 | [] => rfl
 | a :: l => by unfold insE; split <;> simp [insE_len x l]
theorem insE_mem (x y : En) : ∀ l : List En, y ∈ insE l x ↔ y = x ∨ y ∈ l
 | [] => by simp [insE]
 | a :: l => by
  unfold insE
  split
  ·
   rw [List.mem_cons, insE_mem x y l, List.mem_cons]
   constructor
   ·
    rintro (h | h | h)
    · exact .inr (.inl h)
    · exact .inl h
    · exact .inr (.inr h)
   ·
    rintro (h | h | h)
    · exact .inr (.inl h)
    · exact .inl h
    · exact .inr (.inr h)
  · rw [List.mem_cons]
theorem bl_tot {a b : ByteArray} (h : bl a b = false) (hne : a ≠ b) : bl b a = true := by
 have h1 := less_tot _ _ h
 rw [Bool.or_eq_true] at h1
 rcases h1 with h1 | h1
 · exact h1
 ·
  refine absurd (toL_inj.1 ?_) hne
  exact (eq_of_beq h1).symm
theorem insE_rt (x : En) : ∀ l : List En, Rt l → (∀ e ∈ l, e.f0 ≠ x.f0) → Rt (insE l x)
 | [], _, _ => List.pairwise_singleton _ _
 | a :: l, h, hn => by
  obtain ⟨ha, hl⟩ := List.pairwise_cons.1 h
  unfold insE
  split
  ·
   rename_i hb
   refine List.pairwise_cons.2 ⟨fun y hy => ?_, insE_rt x l hl (fun e he => hn e (List.mem_cons_of_mem _ he))⟩
   rcases (insE_mem x y l).1 hy with rfl | hy
   · exact hb
   · exact ha y hy
  ·
   rename_i hb
   have hxa := bl_tot (by simpa using hb) (hn a List.mem_cons_self)
   refine List.pairwise_cons.2 ⟨fun y hy => ?_, h⟩
   rcases List.mem_cons.1 hy with rfl | hy
   · exact hxa
   · exact bl_trans hxa (ha y hy)
theorem OwnE.lt {w : World} {base : Nat} {v : Value} {l : List En} (h : OwnE w base v l) (k : Nat) (hk : v.ownBlock = some k) : k < w.heap.size := by
 rcases h with ⟨rfl, _⟩ | ⟨g, cap, cur, rfl, _, hh, _⟩
 · cases hk
 · injection hk with hk; subst hk; exact blk_lt hh
theorem OwnE.lower {w : World} {base base' : Nat} {v : Value} {l : List En} (h : OwnE w base v l) (hb : base' ≤ base) : OwnE w base' v l := by
 rcases h with ⟨rfl, h0⟩ | ⟨g, cap, cur, rfl, hg, r⟩
 · exact .inl ⟨rfl, h0⟩
 · exact .inr ⟨g, cap, cur, rfl, Nat.le_trans hb hg, r⟩
theorem entsPut_calls (A : Option Addr) (c : Nat) (l : List En) (x : En) (w : World) (hr : Kd.C k91 w A l.length l) (hc : l.length ≤ c) (hl : l.length < 4294967296) (hR : Rt l) (hn : (findE l x.f0).2 = false) :
  Calls Try.prog 55 #[.slice A l.length c, .agg #[.string x.f0, .int .i64 x.f1]] w fun e w' => ∃ v', e = .returned v' ∧ OwnE w' w.heap.size v' (insE l x) ∧ Below w.heap.size w w' := by
 obtain ⟨lo, hcut, hf⟩ := exists_cut x.f0 l hR
 have hat : isAt l x.f0 lo = false := by
  cases h : isAt l x.f0 lo with
  | false => rfl
  | true => rw [hf, h] at hn; cases hn
 have HA := qh (fun W h => all_calls A c l W h hc hl hR)
 have HCL := qh (fun W h => clone_calls A c l W h hc hl)
 have HT := qh (fun A' c' W h hc' => at_ents_calls A' c' l x.f0 lo W h hc' hl hcut)
 rw [hat] at HT
 have HI := qh (fun v W base vb h1 h2 h3 h4 => insert_calls v l lo x vb W base hcut.le h1 h2 h3 h4 hl)
 rw [← insE_cut x l lo hcut] at HI
 have HR := qh hr
 obtain ⟨nm, k⟩ := x
 simp only [] at *
 clear hat hf hcut hR hr hl hc hn
 have HB := qh ((Below.refl w.heap.size w).alloc (Nat.le_refl _) (.cells #[.string nm, .int .i64 k] 91))
 have HBX := qh (show (w.alloc (.cells #[.string nm, .int .i64 k] 91)).heap[w.heap.size]? = _ from heap_alloc_new w _)
 go_enter Try.func55, Try.ntmps55
 go_wp2_with (first | (go_at_call 59; refine (HA.out _ (Kd.C_below HR.out HB.out)).mono ?_; rintro e w2 ⟨rfl, hb2⟩) | (go_at_call 61; refine (HCL.out _ (Kd.C_below (Kd.C_below HR.out HB.out) hb2)).mono ?_; rintro e w3 ⟨v, rfl, ho, hb3⟩; obtain ⟨A3, c3, rfl, hle3, hC3⟩ := Kd.R_reads ho; have HO3 := qh ho; have HC3 := qh hC3; have HLE := qh hle3; have hbx := (hb3.block _ (blk_lt ((hb2.block _ (blk_lt HBX.out)).trans HBX.out))).trans ((hb2.block _ (blk_lt HBX.out)).trans HBX.out); have HBX3 := qh hbx; have x0 : w3.cell? ⟨w.heap.size, 0, none⟩ = some (.string nm) := by { rw [blk_cell hbx]; rfl }; clear ho hC3 hle3 hbx) | (go_at_call 60; refine (HT.out _ _ _ HC3.out HLE.out).mono ?_; rintro e w4 ⟨rfl, hb4⟩; have hbx := (hb4.block _ (blk_lt HBX3.out)).trans HBX3.out; have HBX4 := qh hbx; have y0 : w4.cell? ⟨w.heap.size, 0, none⟩ = some (.string nm) := by { rw [blk_cell hbx]; rfl }; have y1 : w4.cell? ⟨w.heap.size, 1, none⟩ = some (.int .i64 k) := by { rw [blk_cell hbx]; rfl }; clear hbx) | (go_at_call 70; have hO4 := OwnE.ofR (Kd.R_below HO3.out hb4); refine (HI.out _ _ w2.heap.size _ (OwnE.ofR (Kd.R_below (Kd.R_below HO3.out hb4) ((Below.refl _ w4).alloc (Nat.le_refl _) _))) (Nat.le_trans (Nat.le_trans hb3.size hb4.size) (by simp)) (heap_alloc_new w4 _) (fun e => Nat.lt_irrefl _ (hO4.lt _ e))).mono ?_; rintro e w5 ⟨v', rfl, ho5, hb5⟩))
 go_ret
 exact ⟨_, rfl, ho5.lower (Nat.le_trans (by simp) hb2.size), (HB.out.trans (hb2.mono HB.out.size)).trans (((hb3.mono (Nat.le_trans HB.out.size hb2.size)).trans (hb4.mono (Nat.le_trans (Nat.le_trans HB.out.size hb2.size) hb3.size))).trans ((((Below.refl _ w4).alloc (Nat.le_refl _) _).mono (Nat.le_trans (Nat.le_trans (Nat.le_trans HB.out.size hb2.size) hb3.size) hb4.size)).trans (hb5.mono (Nat.le_trans HB.out.size hb2.size))))⟩
end Go.Proofs.Ytnpeeiikdcankaa.Tw
