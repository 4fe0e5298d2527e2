/- The laws of layer 2. -/
import Derived.Test.YtocpdhbkfgolfaaDoorPureR02
import Derived.Test.YtocpdhbkfgolfaaDoorX7
namespace Go.Proofs.YtocpdhbkfgolfaaDoor.Pu
open Go Go.RowKit Go.Proofs Go.Proofs.YtocpdhbkfgolfaaDoor Go.Proofs.YtocpdhbkfgolfaaDoorW.PrintWords Go.Proofs.YtocpdhbkfgolfaaDoor.Ext Go.Proofs.YtocpdhbkfgolfaaDoor.X
set_option linter.unusedVariables false
set_option linter.unusedSimpArgs false

theorem scan_len : ∀ (l : List UInt8) (x : Wd.S3), (Wd.scan x l).2.1.length ≤ x.1.length + l.length
  | [], x => by simp [Wd.scan]
  | c :: t, x => by
    have h1 := Wd.take_len x c.toNat
    have h2 := scan_len t (Wd.take x c.toNat)
    rw [Wd.scan]
    split
    · simp
    · split
      · simp
      · rw [List.length_cons]; omega
theorem split_len (l : List UInt8) : (Wd.split l).1.length ≤ l.length + 1 := by
  have h1 := scan_len l ([], [], 0)
  have h2 := Wd.fin_len (Wd.scan ([], [], 0) l).2
  unfold Wd.split
  simp only
  split
  · split
    · simp
    · simp only [List.length_nil] at h1; simp only; omega
  · simp

def odd (l : List UInt8) : Bool := l.isEmpty || Lib.containsAny l [32, 9, 39, 92]
def quote (l : List UInt8) : List UInt8 := if odd l = true then 39 :: (Rp.rep 39 [39, 92, 39, 39] l ++ [39]) else l
theorem quote_len (l : List UInt8) : (quote l).length ≤ 5 * l.length + 2 := by
  unfold quote
  split
  · have := Rp.rep_len 39 [39, 92, 39, 39] l
    have h2 := List.count_le_length (a := 39) (l := l)
    simp only [List.length_cons, List.length_append, List.length_nil] at *
    omega
  · omega
theorem replace_f (s : ByteArray) (hs : s.size < 4294967281) : strings_ReplaceAll.f s (⟨#[39]⟩ : ByteArray) (⟨#[39, 92, 39, 39]⟩ : ByteArray) = some (Sp.mk (Rp.rep 39 [39, 92, 39, 39] s.data.toList)) := by
  unfold strings_ReplaceAll.f
  simp only
  rw [if_pos ⟨hs, by decide, by decide⟩]
theorem any_f (s : ByteArray) (hs : s.size < 4294967281) : strings_ContainsAny.f s (⟨#[32, 9, 39, 92]⟩ : ByteArray) = some (Lib.containsAny s.data.toList [32, 9, 39, 92]) := by
  unfold strings_ContainsAny.f
  rw [if_pos ⟨hs, by decide, by decide, by decide⟩]
theorem quote_f (s : ByteArray) (hs : s.size < 4294967281) : words_Quote.f s = some (Sp.mk (quote s.data.toList)) := by
  have hrl := Rp.rep_len 39 [39, 92, 39, 39] s.data.toList
  have h2 := List.count_le_length (a := 39) (l := s.data.toList)
  rw [← Sp.size_eq] at hrl h2
  simp only [List.length_cons, List.length_nil] at hrl
  have e1 : ((⟨#[39]⟩ : ByteArray) ++ Sp.mk (Rp.rep 39 [39, 92, 39, 39] s.data.toList)) ++ (⟨#[39]⟩ : ByteArray) = Sp.mk (39 :: (Rp.rep 39 [39, 92, 39, 39] s.data.toList ++ [39])) := by
    rw [show (⟨#[39]⟩ : ByteArray) = Sp.mk [39] from rfl, app_mk, app_mk]; rfl
  have e2 : ((⟨#[39]⟩ : ByteArray) ++ Sp.mk (Rp.rep 39 [39, 92, 39, 39] s.data.toList)).size = 1 + (Rp.rep 39 [39, 92, 39, 39] s.data.toList).length := by
    rw [ByteArray.size_append, Sp.mk_size]; rfl
  unfold words_Quote.f quote odd
  rw [replace_f s hs, any_f s hs, toL]
  simp only [Option.bind_some]
  rw [e1, e2, Sp.mk_size]
  have f1 : 1 + (Rp.rep 39 [39, 92, 39, 39] s.data.toList).length ≤ 9223372036854775807 := by omega
  have f2 : 1 + (Rp.rep 39 [39, 92, 39, 39] s.data.toList).length + 1 ≤ 9223372036854775807 := by omega
  simp only [if_pos f1, if_pos f2]
  by_cases h0 : s.data.toList = []
  · rw [if_pos h0, if_pos (by simp [h0])]
  · rw [if_neg h0]
    have : s.data.toList.isEmpty = false := by simpa using h0
    rw [this, Bool.false_or]
    split
    · rfl
    · rw [Sp.mk_of]

theorem l02_lives : Ev (fun k => linhaylaw02_lives.f k) true := by
  unfold linhaylaw02_lives.f
  have h1 : words_Split.f (⟨#[97, 32, 39, 98, 32, 99, 39, 32, 92, 39, 100]⟩ : ByteArray) = some ([(⟨#[97]⟩ : ByteArray), (⟨#[98, 32, 99]⟩ : ByteArray), (⟨#[39, 100]⟩ : ByteArray)], 0) := by rfl
  have h2 : words_Quote.f (⟨#[]⟩ : ByteArray) = some (Sp.mk [39, 39]) := by rw [quote_f _ (by decide)]; rfl
  refine ev_opt h1 (ev_pos rfl ?_)
  refine ev_bind (r02_same _ _ (by simp)) ?_
  refine ev_pos (by simp) ?_
  refine ev_opt h2 ?_
  rw [toList_mk]
  exact Ev.now _

theorem words_split (s : ByteArray) (hs : s.size < 4294967281) : Ev (fun k => linhaylaw02_WordsSplit.f k s) true := by
  unfold linhaylaw02_WordsSplit.f
  by_cases hz : (s.size : Int) > 10000
  · exact ev_pos hz (ev_bind l02_lives (Ev.now _))
  · refine ev_neg hz ?_
    have h1 : words_Split.f s = some (Wd.split s.data.toList) := by unfold words_Split.f; rw [if_pos hs]
    refine ev_opt h1 (ev_bind (r02_split s hs) (ev_bind (r02_same _ _ ?_) ?_))
    · have := split_len s.data.toList
      rw [← Sp.size_eq] at this
      omega
    · refine ev_pos (by simp) (ev_pos rfl ?_)
      exact ev_bind l02_lives (Ev.now _)
end Go.Proofs.YtocpdhbkfgolfaaDoor.Pu
