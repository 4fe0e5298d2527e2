/- The reader of the package words: its methods, walked. -/
import Derived.Test.YtocpdhbkfgolfaaDoorShelf
import Derived.Test.YtocpdhbkfgolfaaDoorWWords
import Derived.RangeFuncBox
import Derived.RangeFuncNested
import Derived.Shelf.Abstract
import Derived.WalkKit
import Derived.WalkSpells
import Derived.WalkSmall
import Derived.OwnWalkIn
import Derived.TacticsInMore
import Derived.Maps.AppendAt
import Derived.Deep.AppendLies
import Derived.Deep.RegionLaw
import Derived.Deep.QuietTactic
import Derived.BigQuiet
import Derived.OpenShut
import Derived.Lib.Hide
import Derived.Great.Walk
namespace Go.Proofs.YtocpdhbkfgolfaaDoor.Wd
open Go Go.RowKit Go.Shelf Go.Proofs Go.Proofs.YtocpdhbkfgolfaaDoor Go.Proofs.YtocpdhbkfgolfaaDoorW.PrintWords
set_option linter.unusedVariables false
set_option linter.unusedSimpArgs false

/-- Block g is a reader. -/
def Rd (W : World) (g : Nat) (vo vn : Value) (st : Int) : Prop := W.heap[g]? = some (.cells #[vo, vn, .int .i64 st] 63 (0, 0))
section
variable {W : World} {g : Nat} {vo vn : Value} {st : Int}
theorem Rd.lt (h : Rd W g vo vn st) : g < W.heap.size := (Array.getElem?_eq_some_iff.1 h).1
theorem Rd.c0 (h : Rd W g vo vn st) : W.cell? ⟨g, 0, none⟩ = some vo := by simp [World.cell?, show W.heap[g]? = _ from h]
theorem Rd.c1 (h : Rd W g vo vn st) : W.cell? ⟨g, 1, none⟩ = some vn := by simp [World.cell?, show W.heap[g]? = _ from h]
theorem Rd.c2 (h : Rd W g vo vn st) : W.cell? ⟨g, 2, none⟩ = some (.int .i64 st) := by simp [World.cell?, show W.heap[g]? = _ from h]
theorem Rd.f (i : Nat) (h : Rd W g vo vn st) : W.frozen? ⟨g, i, none⟩ = false := by simp [World.frozen?, show W.heap[g]? = _ from h]
theorem Rd.kept {W' : World} {row : Option Nat} (h : Rd W g vo vn st) (hg : W.grownBy W' row) (hne : some g ≠ row) : Rd W' g vo vn st := (hg.block g h.lt hne).trans h
theorem Rd.alloc (h : Rd W g vo vn st) (o : Obj) : Rd (W.alloc o) g vo vn st := h.kept (World.grownBy_alloc W o none) (by simp)
theorem Rd.drew (h : Rd W g vo vn st) : Rd W.drew g vo vn st := h
theorem Rd.set0 (v : Value) (h : Rd W g vo vn st) : Rd (W.setCell ⟨g, 0, none⟩ v) g v vn st := by
  obtain ⟨hlt, hk⟩ := Array.getElem?_eq_some_iff.1 h
  show (W.heap.modify g _)[g]? = _
  rw [Array.getElem?_eq_getElem (by rw [Array.size_modify]; exact hlt), Array.getElem_modify_self, hk]
  rfl
theorem Rd.set1 (v : Value) (h : Rd W g vo vn st) : Rd (W.setCell ⟨g, 1, none⟩ v) g vo v st := by
  obtain ⟨hlt, hk⟩ := Array.getElem?_eq_some_iff.1 h
  show (W.heap.modify g _)[g]? = _
  rw [Array.getElem?_eq_getElem (by rw [Array.size_modify]; exact hlt), Array.getElem_modify_self, hk]
  rfl
theorem Rd.set2 (s : Int) (h : Rd W g vo vn st) : Rd (W.setCell ⟨g, 2, none⟩ (.int .i64 s)) g vo vn s := by
  obtain ⟨hlt, hk⟩ := Array.getElem?_eq_some_iff.1 h
  show (W.heap.modify g _)[g]? = _
  rw [Array.getElem?_eq_getElem (by rw [Array.size_modify]; exact hlt), Array.getElem_modify_self, hk]
  rfl
theorem grown_set (W : World) (b i : Nat) (v : Value) : W.grownBy (W.setCell ⟨b, i, none⟩ v) (some b) :=
  ⟨rfl, rfl, rfl, (KeepsWalks.setCell W _ v).size, fun k _ hk => Below.heap_setCell _ _ _ k (fun e => hk (by rw [e]))⟩
theorem Rd.not_row (h : Rd W g vo vn st) {base e size k : Nat} {v : Value} {xs : List Value} (he : 63 ≠ e) (hr : W.ownsRow base e size v k xs) : some g ≠ v.ownBlock := by
  rcases hr.2 with ⟨rfl, _⟩ | ⟨b, cap, cur, rfl, _, hgb, _⟩
  · simp [Value.ownBlock]
  · intro e'
    obtain rfl : g = b := by simpa [Value.ownBlock] using e'
    have := (show W.heap[g]? = _ from h).symm.trans hgb
    simp at this
    exact he this.2
theorem rows_apart {base base' e e' size size' k k' : Nat} {v v' : Value} {xs xs' : List Value} (he : e ≠ e') (hr : W.ownsRow base e size v k xs) (hr' : W.ownsRow base' e' size' v' k' xs') : v.ownBlock = none ∨ v.ownBlock ≠ v'.ownBlock := by
  rcases hr.2 with ⟨rfl, _⟩ | ⟨b, cap, cur, rfl, _, hgb, _⟩
  · exact .inl rfl
  · refine .inr fun e'' => ?_
    rcases hr'.2 with ⟨rfl, _⟩ | ⟨b', cap', cur', rfl, _, hgb', _⟩
    · simp [Value.ownBlock] at e''
    · obtain rfl : b = b' := by simpa [Value.ownBlock] using e''
      have := hgb.symm.trans hgb'
      simp at this
      exact he (by simpa using this.2)
end

/-- A reader at block g: the words that it has, the word that it reads, its state. -/
structure St (W : World) (g B : Nat) (out : List ByteArray) (now : List Int) (st : Int) (vo vn : Value) : Prop where
  rd : Rd W g vo vn st
  gB : g < B
  sz : B ≤ W.heap.size
  o : W.ownsRow B 9 1 vo out.length (encs Value.string out)
  n : W.ownsRow B 5 1 vn now.length (nums .u8 now)

theorem infoS : (Tryd.prog.info? 9).map (fun i => (i.zero, i.size, i.bytes)) = some (some (.string ⟨#[]⟩), 1, 16) := by kernel_rfl
theorem infoB : (Tryd.prog.info? 5).map (fun i => (i.zero, i.size, i.bytes)) = some (some (.int .u8 0), 1, 1) := by kernel_rfl

section
variable {W : World} {g B : Nat} {out : List ByteArray} {now : List Int} {st : Int} {vo vn : Value}
theorem St.state (s : Int) (h : St W g B out now st vo vn) : St (W.setCell ⟨g, 2, none⟩ (.int .i64 s)) g B out now s vo vn :=
  ⟨h.rd.set2 s, h.gB, Nat.le_trans h.sz (grown_set W g 2 _).size, h.o.kept (grown_set W g 2 _) (.inr (h.rd.not_row (by decide) h.o).symm), h.n.kept (grown_set W g 2 _) (.inr (h.rd.not_row (by decide) h.n).symm)⟩
theorem St.now_nil (h : St W g B out now st vo vn) : St (W.setCell ⟨g, 1, none⟩ (.slice none 0 0)) g B out [] st vo (.slice none 0 0) :=
  ⟨h.rd.set1 _, h.gB, Nat.le_trans h.sz (grown_set W g 1 _).size, h.o.kept (grown_set W g 1 _) (.inr (h.rd.not_row (by decide) h.o).symm), World.ownsRow_nil _ _ _ _⟩
theorem St.alloc (h : St W g B out now st vo vn) (o : Obj) : St (W.alloc o) g B out now st vo vn := ⟨h.rd.alloc o, h.gB, Nat.le_trans h.sz (by simp), h.o.alloc _, h.n.alloc _⟩
theorem St.drew (h : St W g B out now st vo vn) : St W.drew g B out now st vo vn := ⟨h.rd, h.gB, h.sz, h.o, h.n⟩
theorem own_ge {b e sz n : Nat} {v : Value} {xs : List Value} (h : W.ownsRow b e sz v n xs) : ∀ k, v.ownBlock = some k → b ≤ k := Go.Proofs.YtocpdhbkfgolfaaDoorW.PrintWords.own_base h
/-- Behind 'r.now = append(r.now, ..)'. -/
theorem St.now_put {w1 : World} {v' : Value} {now' : List Int} (h : St W g B out now st vo vn) (ho : w1.ownsRow B 5 1 v' now'.length (nums .u8 now')) (hg : W.grownBy w1 vn.ownBlock) :
    Rd w1 g vo vn st ∧ St (w1.setCell ⟨g, 1, none⟩ v') g B out now' st vo v' ∧ Below g W (w1.setCell ⟨g, 1, none⟩ v') := by
  have h1 : Rd w1 g vo vn st := h.rd.kept hg (h.rd.not_row (by decide) h.n)
  have o1 : w1.ownsRow B 9 1 vo out.length (encs Value.string out) := h.o.kept hg (rows_apart (by decide) h.o h.n)
  refine ⟨h1, ⟨h1.set1 _, h.gB, ?_, o1.kept (grown_set w1 g 1 _) (.inr (h1.not_row (by decide) o1).symm), ho.kept (grown_set w1 g 1 _) (.inr (h1.not_row (by decide) ho).symm)⟩, ?_⟩
  · exact Nat.le_trans h.sz (Nat.le_trans hg.size (grown_set w1 g 1 v').size)
  · exact ((Below.refl g W).grown hg (by have := h.gB; have := h.sz; omega) fun j ej => by have := own_ge h.n j ej; have := h.gB; omega).setCell (p := ⟨g, 1, none⟩) (Nat.le_refl _) v'
theorem St.out_put {w1 : World} {v' : Value} {out' : List ByteArray} (h : St W g B out now st vo vn) (ho : w1.ownsRow B 9 1 v' out'.length (encs Value.string out')) (hg : W.grownBy w1 vo.ownBlock) :
    Rd w1 g vo vn st ∧ St (w1.setCell ⟨g, 0, none⟩ v') g B out' now st v' vn ∧ Below g W (w1.setCell ⟨g, 0, none⟩ v') := by
  have h1 : Rd w1 g vo vn st := h.rd.kept hg (h.rd.not_row (by decide) h.o)
  have n1 : w1.ownsRow B 5 1 vn now.length (nums .u8 now) := h.n.kept hg (rows_apart (by decide) h.n h.o)
  refine ⟨h1, ⟨h1.set0 _, h.gB, ?_, ho.kept (grown_set w1 g 0 _) (.inr (h1.not_row (by decide) ho).symm), n1.kept (grown_set w1 g 0 _) (.inr (h1.not_row (by decide) n1).symm)⟩, ?_⟩
  · exact Nat.le_trans h.sz (Nat.le_trans hg.size (grown_set w1 g 0 v').size)
  · exact ((Below.refl g W).grown hg (by have := h.gB; have := h.sz; omega) fun j ej => by have := own_ge h.o j ej; have := h.gB; omega).setCell (p := ⟨g, 0, none⟩) (Nat.le_refl _) v'
theorem St.below (h : St W g B out now st vo vn) (o : Obj) : Below g W (W.alloc o).drew := ((Below.refl g W).alloc (by have := h.gB; have := h.sz; omega) o).drew
theorem St.below' (h : St W g B out now st vo vn) (o : Obj) : Below g W (W.alloc o) := (Below.refl g W).alloc (by have := h.gB; have := h.sz; omega) o
theorem St.set_below (h : St W g B out now st vo vn) (i : Nat) (v : Value) : Below g W (W.setCell ⟨g, i, none⟩ v) := (Below.refl g W).setCell (p := ⟨g, i, none⟩) (Nat.le_refl _) v
end

set_option maxHeartbeats 1000000 in
theorem end_idle (W : World) (g B : Nat) (out : List ByteArray) (now : List Int) (vo vn : Value) (h : St W g B out now 0 vo vn) :
    Calls Tryd.prog 40 #[.pointer (some ⟨g, 0, none⟩)] W fun e W' => e = .returned (.tuple #[]) ∧ W' = (W.setCell ⟨g, 2, none⟩ (.int .i64 0)) := by
  have c2 := h.rd.c2
  have f2 := h.rd.f 2
  go_enter Tryd.func40, Tryd.ntmps40
  go_wp2
  exact Great.bodyPost_end0 rfl rfl ⟨rfl, rfl⟩
set_option maxRecDepth 100000 in
set_option maxHeartbeats 4000000 in
theorem end_word (W : World) (g B : Nat) (out : List ByteArray) (now : List Int) (st : Int) (vo vn : Value) (h : St W g B out now st vo vn) (hst : st ≠ 0) (hl : out.length < 1099511627776) :
    Calls Tryd.prog 40 #[.pointer (some ⟨g, 0, none⟩)] W fun e W' => e = .returned (.tuple #[]) ∧ ∃ vo' vn', St W' g B (out ++ [strOfNums now]) [] 0 vo' vn' ∧ Below g W W' := by
  have c0 := h.rd.c0
  have c1 := h.rd.c1
  have a0 : ∀ o, (W.alloc o).drew.cell? ⟨g, 0, none⟩ = some vo := fun o => (h.rd.alloc o).drew.c0
  have a1 : ∀ o, (W.alloc o).drew.frozen? ⟨g, 0, none⟩ = false := fun o => (h.rd.alloc o).drew.f 0
  have a2 : ∀ o, (W.alloc o).drew.cell? ⟨g, 1, none⟩ = some vn := fun o => (h.rd.alloc o).drew.c1
  have c2 := h.rd.c2
  have f0 := h.rd.f 0
  have f1 := h.rd.f 1
  have f2 := h.rd.f 2
  have hcv : (convert 61 9 vn).run Tryd.prog W.drew = .ok (.string (strOfNums now)) W.drew := own_string (w := W.drew) Tryd.underlying61 Tryd.underlying5 Tryd.underlying9 h.n
  obtain ⟨i0, hi, hz0, hz1, hz2⟩ := info_parts infoS
  go_enter Tryd.func40, Tryd.ntmps40
  go_wp2
  go_region_law
    ((refine step_append_lies _ (by rfl) _ _ _ (by rfl) B 9 i0 (.string ⟨#[]⟩) 1 16 Tryd.underlying23 hi hz0 hz1 hz2 (by rfl) (by omega) vo out.length (encs Value.string out) (by rfl) (h.o.alloc _) ⟨W.heap.size, 0, none⟩ 1 1 [.string (strOfNums now)] (by rfl) (by rfl) (World.news_of_block (World.alloc_heap_new _ _)) (by simp [Value.oneCell']) (by omega) (by unfold maxLen; omega) (by omega) (by have := h.sz; simp; omega) _ rfl ?_; intro b cap w1 hown hgrow hat hlt; have hr1 := (h.rd.drew.alloc _).kept hgrow (h.rd.not_row (by decide) h.o); have k0 := hr1.c0; have k1 := hr1.f 0))
  all_goals
    have hs1 := (h.alloc (.cells #[.string (strOfNums now)] 9)).drew
    have hs2 := hs1.out_put (out' := out ++ [strOfNums now]) (by simpa [encs] using hown) hgrow
    have hb2 := (h.below _).trans hs2.2.2
    have hs3 := hs2.2.1
    generalize w1.setCell ⟨g, 0, none⟩ (.slice (some ⟨b, 0, none⟩) (out.length + 1) cap) = w2 at *
    have c12 := hs3.rd.c1
    have f12 := hs3.rd.f 1
    have c22 := hs3.rd.c2
    have f22 := hs3.rd.f 2
    have hs4 := hs3.now_nil
    have hb4 := hs3.set_below 1 (.slice none 0 0)
    have hs5 := hs4.state 0
    have hb5 := hb2.trans (hb4.trans (hs4.set_below 2 (.int .i64 0)))
    go_simp
    go_wp2
    go_end0
    exact ⟨rfl, _, _, hs5, hb5⟩

/-- What a reader has: its words, the word that it reads, its state. -/
abbrev S3 := List ByteArray × List Int × Int
def fin (x : S3) : S3 := if x.2.2 = 0 then (x.1, x.2.1, 0) else (x.1 ++ [strOfNums x.2.1], [], 0)
def plain (x : S3) (c : Int) : S3 :=
  if c = 32 ∨ c = 9 then fin x else if c = 39 then (x.1, x.2.1, 2) else if c = 92 then (x.1, x.2.1, 3) else (x.1, x.2.1 ++ [c], 1)
def take (x : S3) (c : Int) : S3 :=
  if x.2.2 = 2 ∧ c = 39 then (x.1, x.2.1, 1) else if x.2.2 = 2 then (x.1, x.2.1 ++ [c], 2) else if x.2.2 = 3 then (x.1, x.2.1 ++ [c], 1) else plain x c
/-- Block g is a reader that has x. -/
def Has (W : World) (g B : Nat) (x : S3) : Prop := ∃ vo vn, St W g B x.1 x.2.1 x.2.2 vo vn

theorem end_calls (W : World) (g B : Nat) (x : S3) (h : Has W g B x) (hl : x.1.length < 1099511627776) :
    Calls Tryd.prog 40 #[.pointer (some ⟨g, 0, none⟩)] W fun e W' => e = .returned (.tuple #[]) ∧ Has W' g B (fin x) ∧ Below g W W' := by
  obtain ⟨out, now, st⟩ := x
  obtain ⟨vo, vn, h⟩ := h
  by_cases hst : st = 0
  · subst hst
    refine (end_idle W g B out now vo vn h).mono ?_
    rintro e W' ⟨rfl, rfl⟩
    exact ⟨rfl, ⟨vo, vn, by simpa [fin] using h.state 0⟩, h.set_below 2 _⟩
  · refine (end_word W g B out now st vo vn h hst hl).mono ?_
    rintro e W' ⟨rfl, vo', vn', h', hb⟩
    exact ⟨rfl, ⟨vo', vn', by simpa [fin, hst] using h'⟩, hb⟩

set_option maxRecDepth 100000 in
set_option maxHeartbeats 4000000 in
theorem plain_calls (W : World) (g B : Nat) (x : S3) (c : Int) (h : Has W g B x) (hl : x.1.length < 1099511627776) (hn : x.2.1.length < 1099511627776) :
    Calls Tryd.prog 58 #[.pointer (some ⟨g, 0, none⟩), .int .u8 c] W fun e W' => e = .returned (.tuple #[]) ∧ Has W' g B (plain x c) ∧ Below g W W' := by
  have he := end_calls W g B x h hl
  obtain ⟨out, now, st⟩ := x
  obtain ⟨vo, vn, h⟩ := h
  replace hl : out.length < 1099511627776 := hl
  replace hn : now.length < 1099511627776 := hn
  have HE := Lib.hid he
  clear he
  by_cases h32 : c = 32 ∨ c = 9
  · have hx : plain (out, now, st) c = fin (out, now, st) := by simp [plain, h32]
    rw [hx]
    generalize fin (out, now, st) = y at *
    rcases h32 with rfl | rfl
    all_goals
      go_enter Tryd.func58, Tryd.ntmps58
      go_wp2_with (go_at_call 40; refine HE.out.mono ?_; rintro e w' ⟨rfl, h2, hb2⟩)
      go_end0
      exact ⟨rfl, h2, hb2⟩
  · have e32 : (c == 32) = false := by simpa using fun e => h32 (.inl e)
    have e9 : (c == 9) = false := by simpa using fun e => h32 (.inr e)
    have c2 := h.rd.c2
    have f2 := h.rd.f 2
    by_cases h39 : c = 39
    · subst h39
      have hx : plain (out, now, st) 39 = (out, now, 2) := by simp [plain]
      rw [hx]
      go_enter Tryd.func58, Tryd.ntmps58
      go_wp2
      go_end0
      exact ⟨rfl, ⟨vo, vn, h.state 2⟩, h.set_below 2 _⟩
    · have e39 : (c == 39) = false := by simpa using h39
      by_cases h92 : c = 92
      · subst h92
        have hx : plain (out, now, st) 92 = (out, now, 3) := by simp [plain]
        rw [hx]
        go_enter Tryd.func58, Tryd.ntmps58
        go_wp2
        go_end0
        exact ⟨rfl, ⟨vo, vn, h.state 3⟩, h.set_below 2 _⟩
      · have e92 : (c == 92) = false := by simpa using h92
        have hx : plain (out, now, st) c = (out, now ++ [c], 1) := by simp [plain, h32, h39, h92]
        rw [hx]
        have c1 := h.rd.c1
        have f1 := h.rd.f 1
        have a0 : ∀ o, (W.alloc o).drew.cell? ⟨g, 1, none⟩ = some vn := fun o => (h.rd.alloc o).drew.c1
        have a1 : ∀ o, (W.alloc o).drew.frozen? ⟨g, 1, none⟩ = false := fun o => (h.rd.alloc o).drew.f 1
        obtain ⟨i0, hi, hz0, hz1, hz2⟩ := info_parts infoB
        go_enter Tryd.func58, Tryd.ntmps58
        go_wp2_with (at_builtin; go_must (refine wpList_append_lies _ rfl _ _ _ rfl B 5 i0 (.int .u8 0) 1 1 Tryd.underlying61 hi hz0 hz1 hz2 rfl (by omega) vn now.length (nums .u8 now) rfl (h.n.alloc _) ⟨W.heap.size, 0, none⟩ 1 1 [.int .u8 c] rfl rfl (World.news_of_block (World.alloc_heap_new _ _)) (by simp [Value.oneCell']) (by omega) (by unfold maxLen; omega) (by omega) (by have := h.sz; simp; omega) _ rfl ?_); intro b cap w1 hown hgrow hat hlt; have hr1 := (h.rd.alloc _).kept hgrow (h.rd.not_row (by decide) h.n); have k0 := hr1.c1; have k1 := hr1.f 1; have k2 := hr1.c2; have k3 := hr1.f 2)
        have hs1 := (h.alloc (.cells #[.int .u8 c] 5))
        have hs2 := hs1.now_put (now' := now ++ [c]) (by simpa [nums] using hown) hgrow
        have hb2 := (h.below' _).trans hs2.2.2
        have hs3 := hs2.2.1
        go_end0
        exact ⟨rfl, ⟨_, _, hs3.state 1⟩, hb2.trans (hs3.set_below 2 _)⟩

set_option maxRecDepth 100000 in
set_option maxHeartbeats 4000000 in
theorem take_calls (W : World) (g B : Nat) (x : S3) (c : Int) (h : Has W g B x) (hl : x.1.length < 1099511627776) (hn : x.2.1.length < 1099511627776) :
    Calls Tryd.prog 39 #[.pointer (some ⟨g, 0, none⟩), .int .u8 c] W fun e W' => e = .returned (.tuple #[]) ∧ Has W' g B (take x c) ∧ Below g W W' := by
  have he := plain_calls W g B x c h hl hn
  obtain ⟨out, now, st⟩ := x
  obtain ⟨vo, vn, h⟩ := h
  replace hl : out.length < 1099511627776 := hl
  replace hn : now.length < 1099511627776 := hn
  have HE := Lib.hid he
  clear he
  have c2 := h.rd.c2
  have f2 := h.rd.f 2
  have c1 := h.rd.c1
  have f1 := h.rd.f 1
  have a0 : ∀ o, (W.alloc o).drew.cell? ⟨g, 1, none⟩ = some vn := fun o => (h.rd.alloc o).drew.c1
  have a1 : ∀ o, (W.alloc o).drew.frozen? ⟨g, 1, none⟩ = false := fun o => (h.rd.alloc o).drew.f 1
  obtain ⟨i0, hi, hz0, hz1, hz2⟩ := info_parts infoB
  by_cases h2 : st = 2
  · subst h2
    by_cases h39 : c = 39
    · subst h39
      have hx : take (out, now, 2) 39 = (out, now, 1) := by simp [take]
      rw [hx]
      go_enter Tryd.func39, Tryd.ntmps39
      go_wp2
      go_end0
      exact ⟨rfl, ⟨vo, vn, h.state 1⟩, h.set_below 2 _⟩
    · have e39 : (c == 39) = false := by simpa using h39
      have hx : take (out, now, 2) c = (out, now ++ [c], 2) := by simp [take, h39]
      rw [hx]
      go_enter Tryd.func39, Tryd.ntmps39
      go_wp2_with (at_builtin; go_must (refine wpList_append_lies _ rfl _ _ _ rfl B 5 i0 (.int .u8 0) 1 1 Tryd.underlying61 hi hz0 hz1 hz2 rfl (by omega) vn now.length (nums .u8 now) rfl (h.n.alloc _) ⟨W.heap.size, 0, none⟩ 1 1 [.int .u8 c] rfl rfl (World.news_of_block (World.alloc_heap_new _ _)) (by simp [Value.oneCell']) (by omega) (by unfold maxLen; omega) (by omega) (by have := h.sz; simp; omega) _ rfl ?_); intro b cap w1 hown hgrow hat hlt; have hr1 := (h.rd.alloc _).kept hgrow (h.rd.not_row (by decide) h.n); have k0 := hr1.c1; have k1 := hr1.f 1; have k2 := hr1.c2; have k3 := hr1.f 2)
      have hs1 := (h.alloc (.cells #[.int .u8 c] 5))
      have hs2 := hs1.now_put (now' := now ++ [c]) (by simpa [nums] using hown) hgrow
      have hb2 := (h.below' _).trans hs2.2.2
      have hs3 := hs2.2.1
      go_end0
      exact ⟨rfl, ⟨_, _, hs3⟩, hb2⟩
  · have e2 : (st == 2) = false := by simpa using h2
    by_cases h3 : st = 3
    · subst h3
      have hx : take (out, now, 3) c = (out, now ++ [c], 1) := by simp [take]
      rw [hx]
      go_enter Tryd.func39, Tryd.ntmps39
      go_wp2_with (at_builtin; go_must (refine wpList_append_lies _ rfl _ _ _ rfl B 5 i0 (.int .u8 0) 1 1 Tryd.underlying61 hi hz0 hz1 hz2 rfl (by omega) vn now.length (nums .u8 now) rfl (h.n.alloc _) ⟨W.heap.size, 0, none⟩ 1 1 [.int .u8 c] rfl rfl (World.news_of_block (World.alloc_heap_new _ _)) (by simp [Value.oneCell']) (by omega) (by unfold maxLen; omega) (by omega) (by have := h.sz; simp; omega) _ rfl ?_); intro b cap w1 hown hgrow hat hlt; have hr1 := (h.rd.alloc _).kept hgrow (h.rd.not_row (by decide) h.n); have k0 := hr1.c1; have k1 := hr1.f 1; have k2 := hr1.c2; have k3 := hr1.f 2)
      have hs1 := (h.alloc (.cells #[.int .u8 c] 5))
      have hs2 := hs1.now_put (now' := now ++ [c]) (by simpa [nums] using hown) hgrow
      have hb2 := (h.below' _).trans hs2.2.2
      have hs3 := hs2.2.1
      go_end0
      exact ⟨rfl, ⟨_, _, hs3.state 1⟩, hb2.trans (hs3.set_below 2 _)⟩
    · have e3 : (st == 3) = false := by simpa using h3
      have hx : take (out, now, st) c = plain (out, now, st) c := by simp [take, h2, h3]
      rw [hx]
      generalize plain (out, now, st) c = y at *
      go_enter Tryd.func39, Tryd.ntmps39
      go_wp2_with (go_at_call 58; refine HE.out.mono ?_; rintro e w' ⟨rfl, h2, hb2⟩)
      go_end0
      exact ⟨rfl, h2, hb2⟩
end Go.Proofs.YtocpdhbkfgolfaaDoor.Wd

namespace Go.Proofs.YtocpdhbkfgolfaaDoor.Wd
open Go Go.RowKit Go.Shelf Go.Proofs Go.Proofs.YtocpdhbkfgolfaaDoor Go.Proofs.YtocpdhbkfgolfaaDoorW.PrintWords
set_option linter.unusedVariables false
set_option linter.unusedSimpArgs false

/-- What a reader makes of bytes: an error's number (0: none) and what it has. -/
def scan (x : S3) : List UInt8 → Int × S3
  | [] => (0, x)
  | c :: t => if c.toNat = 10 ∨ c.toNat = 0 then (3, x) else if 4096 < (take x c.toNat).2.1.length then (21, x) else scan (take x c.toNat) t
/-- What words.Split answers. -/
def split (s : List UInt8) : List ByteArray × Int :=
  let r := scan ([], [], 0) s
  if r.1 = 0 then (if r.2.2.2 = 2 ∨ r.2.2.2 = 3 then ([], 3) else ((fin r.2).1, 0)) else ([], r.1)

theorem fin_len (x : S3) : (fin x).1.length ≤ x.1.length + 1 ∧ (fin x).2.1.length ≤ x.2.1.length := by
  unfold fin; split <;> simp
theorem plain_len (x : S3) (c : Int) : (plain x c).1.length ≤ x.1.length + 1 ∧ (plain x c).2.1.length ≤ x.2.1.length + 1 := by
  have := fin_len x
  unfold plain; split
  · omega
  · split
    · simp
    · split <;> simp
theorem take_len (x : S3) (c : Int) : (take x c).1.length ≤ x.1.length + 1 ∧ (take x c).2.1.length ≤ x.2.1.length + 1 := by
  have := plain_len x c
  unfold take; split
  · simp
  · split
    · simp
    · split
      · simp
      · omega

theorem own_len {W : World} {b e sz n : Nat} {v : Value} {xs : List Value} (h : W.ownsRow b e sz v n xs) : ∃ A c, v = .slice A n c := own_slice h

set_option maxRecDepth 100000 in
set_option maxHeartbeats 4000000 in
theorem split_calls (s : ByteArray) (w : World) (hs : s.size < 4294967281) :
    Calls Tryd.prog 11 #[.string s] w fun e W' => ∃ v, e = .returned (.tuple #[v, .int .i64 (split s.data.toList).2]) ∧
      W'.ownsRow w.heap.size 9 1 v (split s.data.toList).1.length (encs Value.string (split s.data.toList).1) ∧ Below w.heap.size w W' := by
  obtain ⟨R, hR⟩ : ∃ R, R = split s.data.toList := ⟨_, rfl⟩
  rw [← hR]
  go_enter Tryd.func11, Tryd.ntmps11
  go_wp2
  go_loopw [10] (fun i wr => ∃ (m : Nat) (x : S3), i = .int .i64 (m : Int) ∧ m ≤ s.size ∧ Has wr w.heap.size (w.heap.size + 1) x ∧ Below w.heap.size w wr ∧ x.1.length ≤ m ∧ x.2.1.length ≤ m ∧ scan ([], [], 0) s.data.toList = scan x (s.data.toList.drop m)) (fun i wr => match i with | .int _ k => (s.size : Int).toNat - k.toNat | _ => 0)
  case atStart =>
    refine ⟨0, ([], [], 0), rfl, by omega, ⟨.slice none 0 0, .slice none 0 0, ⟨World.alloc_heap_new w _, by omega, by simp, World.ownsRow_nil _ _ _ _, World.ownsRow_nil _ _ _ _⟩⟩, (Below.refl _ _).alloc (Nat.le_refl _) _, by simp, by simp, by simp⟩
  case round =>
    obtain ⟨m, x, rfl, hm, hh, hb, hl1, hl2, hsc⟩ := hrel
    by_cases hlt : (m : Int) < (s.size : Int)
    · have hlt2 : m < s.size := by omega
      have hdrop : s.data.toList.drop m = s[m]'hlt2 :: s.data.toList.drop (m + 1) := by
        have : m < s.data.toList.length := by simpa using hlt2
        rw [List.drop_eq_getElem_cons this]
        rfl
      rw [hdrop, scan] at hsc
      obtain ⟨C, hC⟩ : ∃ C, (s[m]'hlt2).toNat = C := ⟨_, rfl⟩
      rw [hC] at hsc
      by_cases h10 : C = 10
      · subst h10
        rw [if_pos (.inl rfl)] at hsc
        have hr : R = ([], 3) := by rw [hR, split, hsc]; rfl
        subst hr
        go_wp2
        go_ret2
        exact ⟨_, rfl, World.ownsRow_nil _ _ _ _, hb⟩
      · by_cases h0 : C = 0
        · subst h0
          rw [if_pos (.inr rfl)] at hsc
          have hr : R = ([], 3) := by rw [hR, split, hsc]; rfl
          subst hr
          go_wp2
          go_ret2
          exact ⟨_, rfl, World.ownsRow_nil _ _ _ _, hb⟩
        · have b10 : ((C : Int) == 10) = false := by simpa using fun e : (C : Int) = 10 => h10 (by omega)
          have b0 : ((C : Int) == 0) = false := by simpa using fun e : (C : Int) = 0 => h0 (by omega)
          rw [if_neg (by omega)] at hsc
          have hT := Lib.hid (take_calls wr w.heap.size (w.heap.size + 1) x (C : Int) hh (by omega) (by omega))
          have hlen := take_len x (C : Int)
          generalize take x (C : Int) = y at *
          by_cases h4 : 4096 < y.2.1.length
          · rw [if_pos h4] at hsc
            have hr : R = ([], 21) := by rw [hR, split, hsc]; rfl
            subst hr
            have b4 : (4096 : Int) < (y.2.1.length : Int) := by omega
            go_wp2_with (go_at_call 39; refine hT.out.mono ?_; rintro e w' ⟨rfl, ⟨vo, vn, hst⟩, hb2⟩; obtain ⟨A, cc, hvn⟩ := own_slice hst.n; have c1 := hst.rd.c1; rw [hvn] at c1)
            go_ret2
            exact ⟨_, rfl, World.ownsRow_nil _ _ _ _, hb.trans hb2⟩
          · rw [if_neg h4] at hsc
            have b4 : ¬ (4096 : Int) < (y.2.1.length : Int) := by omega
            go_wp2_with (go_at_call 39; refine hT.out.mono ?_; rintro e w' ⟨rfl, ⟨vo, vn, hst⟩, hb2⟩; obtain ⟨A, cc, hvn⟩ := own_slice hst.n; have c1 := hst.rd.c1; rw [hvn] at c1)
            refine ⟨⟨m + 1, y, by simp, by omega, ⟨vo, vn, hst⟩, hb.trans hb2, by omega, by omega, hsc⟩, ?_⟩
            simp only []
            omega
    · have hms : m = s.size := by omega
      have hdrop : s.data.toList.drop m = [] := by simp [hms]
      rw [hdrop, scan] at hsc
      obtain ⟨vo, vn, hst⟩ := hh
      have c2 := hst.rd.c2
      by_cases h2 : x.2.2 = 2
      · have hr : R = ([], 3) := by rw [hR, split, hsc]; simp [h2]
        subst hr
        rw [h2] at c2
        go_wp2
        go_ret2
        exact ⟨_, rfl, World.ownsRow_nil _ _ _ _, hb⟩
      · by_cases h3 : x.2.2 = 3
        · have hr : R = ([], 3) := by rw [hR, split, hsc]; simp [h3]
          subst hr
          rw [h3] at c2
          go_wp2
          go_ret2
          exact ⟨_, rfl, World.ownsRow_nil _ _ _ _, hb⟩
        · have hr : R = ((fin x).1, 0) := by rw [hR, split, hsc]; simp [h2, h3]
          subst hr
          have e2 : (x.2.2 == 2) = false := by simpa using h2
          have e3 : (x.2.2 == 3) = false := by simpa using h3
          have hE := Lib.hid (end_calls wr w.heap.size (w.heap.size + 1) x ⟨vo, vn, hst⟩ (by omega))
          generalize x.2.2 = st at c2 e2 e3
          go_wp2_with (go_at_call 40; refine hE.out.mono ?_; rintro e w' ⟨rfl, ⟨vo2, vn2, hst2⟩, hb2⟩; have c0 := hst2.rd.c0)
          go_ret2
          exact ⟨_, rfl, own_weaken hst2.o (Nat.le_succ _), hb.trans hb2⟩
end Go.Proofs.YtocpdhbkfgolfaaDoor.Wd
