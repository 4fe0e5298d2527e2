/- Small words for the printed functions: rounds, indices, bytes. -/
import Derived.Test.YtbbojnjagaljmaaDoorSpec
import Derived.Test.YtbbojnjagaljmaaDoorWMore
namespace Go.Proofs.YtbbojnjagaljmaaDoor.Pu
open Go Go.RowKit Go.Proofs Go.Proofs.YtbbojnjagaljmaaDoor Go.Proofs.YtbbojnjagaljmaaDoorW.PrintWords
set_option linter.unusedVariables false
set_option linter.unusedSimpArgs false

theorem w1 {n : Nat} (h : n < 4611686018427387904) : wrap64 ((n : Int) + 1) = ((n + 1 : Nat) : Int) := by unfold wrap64; omega
theorem wm1 {n : Nat} (h0 : 0 < n) (h : n < 4611686018427387904) : wrap64 ((n : Int) - 1) = ((n - 1 : Nat) : Int) := by unfold wrap64; omega
section
variable {α β : Type} {f g : Nat → Option α} {r : α} {c : Prop} [Decidable c]
theorem ev_pos (hc : c) (h : Ev f r) : Ev (fun k => if c then f k else g k) r := by simpa only [if_pos hc] using h
theorem ev_neg (hc : ¬ c) (h : Ev g r) : Ev (fun k => if c then f k else g k) r := by simpa only [if_neg hc] using h
theorem ev_some {a : β} {F : Nat → β → Option α} (h : Ev (fun k => F k a) r) : Ev (fun k => (some a).bind (F k)) r := h
theorem ev_opt {a : β} {o : Option β} {F : Nat → β → Option α} (ho : o = some a) (h : Ev (fun k => F k a) r) : Ev (fun k => o.bind (F k)) r := by subst ho; exact h
theorem ev_eq {o : Option α} (h : o = some r) : Ev (fun _ => o) r := by subst h; exact Ev.now r
theorem ev_bind {G : Nat → Option β} {a : β} {F : Nat → β → Option α} (hg : Ev G a) (h : Ev (fun k => F k a) r) : Ev (fun k => (G k).bind (F k)) r := Ev.bind hg h
end
theorem bt_nat {s : ByteArray} {i : Nat} {c : UInt8} (h : s.data.toList[i]? = some c) : bt s (i : Int) = (c.toNat : Int) := by
  obtain ⟨hl, hc⟩ := List.getElem?_eq_some_iff.1 h
  have hi : i < s.size := by rw [Sp.size_eq]; exact hl
  have h2 := Lib.data_getElem? s i hi
  rw [h] at h2
  have h3 : c = s[i] := Option.some.inj h2
  unfold bt
  rw [dif_pos (by simpa using hi), h3]
  simp
theorem get_at (s : ByteArray) {i : Nat} (h : i < s.size) : ∃ c, s.data.toList[i]? = some c ∧ s.data.toList.drop i = c :: s.data.toList.drop (i + 1) := by
  have hl : i < s.data.toList.length := by rw [← Sp.size_eq]; exact h
  exact ⟨_, List.getElem?_eq_getElem hl, List.drop_eq_getElem_cons hl⟩
theorem ex1 {s : ByteArray} {i : Nat} {c : UInt8} (h : s.data.toList[i]? = some c) : s.extract i (i + 1) = Sp.mk [c] := by
  rw [← Sp.mk_of (s.extract i (i + 1)), Lib.extract_data]
  congr 1
  obtain ⟨hl, hc⟩ := List.getElem?_eq_some_iff.1 h
  rw [List.drop_eq_getElem_cons hl, hc]
  simp
theorem rd_nat {l : List ByteArray} {i : Nat} {x : ByteArray} (h : l[i]? = some x) : rdOf ByteArray.empty l (i : Int) = x := by simp [rdOf, h]
theorem u8_ne {c d : UInt8} : ((c.toNat : Int) != (d.toNat : Int)) = true ↔ c ≠ d := by
  rw [bne_iff_ne]
  constructor
  · intro h e; exact h (by rw [e])
  · intro h e; exact h (UInt8.toNat_inj.1 (by omega))
theorem toList_mk (l : List UInt8) : (Sp.mk l).toList = l := Sp.mk_toList l
theorem toL (s : ByteArray) : s.toList = s.data.toList := Lib.toList_data s
theorem app_mk (a b : List UInt8) : Sp.mk a ++ Sp.mk b = Sp.mk (a ++ b) := (Sp.mk_append a b).symm
theorem cat3 (a b : ByteArray) : a ++ (⟨#[47]⟩ : ByteArray) ++ b = Sp.mk (a.data.toList ++ 47 :: b.data.toList) := by
  apply ByteArray.ext
  simp [Sp.mk, ByteArray.data_append]
theorem size_snoc (a : ByteArray) (c : UInt8) : (a ++ (⟨#[c]⟩ : ByteArray)).size = a.size + 1 := by rw [ByteArray.size_append]; rfl
def ni (l : List UInt8) : List Int := l.map fun c => (c.toNat : Int)
theorem ni_len (l : List UInt8) : (ni l).length = l.length := by simp [ni]
theorem ni_snoc (l : List UInt8) (c : UInt8) : ni l ++ [(c.toNat : Int)] = ni (l ++ [c]) := by simp [ni]
theorem strOfNums_ni (l : List UInt8) : strOfNums (ni l) = Sp.mk l := by
  simp [strOfNums, ni, Sp.mk, List.map_map, Function.comp_def]
theorem u8_lit {c : UInt8} (n : Nat) (h : n < 256) : (c.toNat : Int) = (n : Int) ↔ c = n.toUInt8 := by
  constructor
  · intro e
    have : c.toNat = n := by omega
    apply UInt8.toNat_inj.1
    rw [this]; simp; omega
  · rintro rfl; simp; omega
end Go.Proofs.YtbbojnjagaljmaaDoor.Pu
