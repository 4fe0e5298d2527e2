/- The contracts of the path package and of strings.Join, ContainsAny, in the form that the printed texts use. -/
import Derived.Test.YtocpdhbkfgolfaaDoorPathC
namespace Go.Proofs.YtocpdhbkfgolfaaDoor.Ext
open Go Go.RowKit Go.Proofs Go.Proofs.YtocpdhbkfgolfaaDoor Go.Proofs.YtocpdhbkfgolfaaDoorW.PrintWords
set_option linter.unusedVariables false

def bs (l : List (List UInt8)) : List ByteArray := l.map Sp.mk
theorem encP_bs (l : List (List UInt8)) : Pa.encP l = encs Value.string (bs l) := by simp [Pa.encP, bs, encs]
theorem bs_len (l : List (List UInt8)) : (bs l).length = l.length := by simp [bs]
theorem lists_bs (l : List (List UInt8)) : (bs l).map (·.data.toList) = l := by simp [bs, List.map_map, Function.comp_def]
theorem bs_lists (l : List ByteArray) : bs (l.map (·.data.toList)) = l := by simp [bs, List.map_map, Function.comp_def, Sp.mk_of]


def path_Clean.f (a0 : ByteArray) : Option ByteArray := if a0.size < 4294967281 then some (Sp.mk (Sp.clean a0.data.toList)) else none
theorem path_Clean.calls (a0 : ByteArray) (r : ByteArray) (w : World) (h : path_Clean.f a0 = some r) :
    Calls Tryd.prog 69 #[.string a0] w fun e w' => e = .returned (.string r) ∧ Below w.heap.size w w' := by
  unfold path_Clean.f at h
  split at h
  · rename_i hs
    obtain rfl := Option.some.inj h
    exact (callsIn_wide (n := 3)).1 (Pa.clean_in 3 (by omega) a0 w (by omega))
  · cases h

def path_Is.f (a0 : ByteArray) : Option Bool := if a0.size < 4294967281 then some (Pa.isPath a0.data.toList) else none
theorem path_Is.calls (a0 : ByteArray) (r : Bool) (w : World) (h : path_Is.f a0 = some r) :
    Calls Tryd.prog 55 #[.string a0] w fun e w' => e = .returned (.bool r) ∧ Below w.heap.size w w' := by
  unfold path_Is.f at h
  split at h
  · rename_i hs
    obtain rfl := Option.some.inj h
    exact (callsIn_wide (n := 4)).1 (Pa.is_in 4 (by omega) a0 w hs)
  · cases h

def name_Check.f (a0 : ByteArray) : Option Int := if a0.size < 4294967281 then some (Sp.check a0.data.toList) else none
theorem name_Check.calls (a0 : ByteArray) (r : Int) (w : World) (h : name_Check.f a0 = some r) :
    Calls Tryd.prog 85 #[.string a0] w fun e w' => e = .returned (.int .i64 r) ∧ Below w.heap.size w w' := by
  unfold name_Check.f at h
  split at h
  · rename_i hs
    obtain rfl := Option.some.inj h
    exact Pa.check_calls a0 hs w
  · cases h

def strings_Join.f (l0 : List ByteArray) (a1 : ByteArray) : Option ByteArray :=
  if l0.length < 4294967281 ∧ (Lib.join (l0.map (·.data.toList)) a1.data.toList).length < 4294967281 then some (Sp.mk (Lib.join (l0.map (·.data.toList)) a1.data.toList)) else none
theorem strings_Join.calls (A0 : Option Addr) (c0 : Nat) (l0 : List ByteArray) (a1 : ByteArray) (r : ByteArray) (w : World) (hr0 : Kd.C Kd.string w A0 l0.length l0) (hc0 : l0.length ≤ c0) (h : strings_Join.f l0 a1 = some r) :
    Calls Tryd.prog 43 #[.slice A0 l0.length c0, .string a1] w fun e w' => e = .returned (.string r) ∧ Below w.heap.size w w' := by
  unfold strings_Join.f at h
  split at h
  · rename_i hs
    obtain rfl := Option.some.inj h
    rcases Nat.eq_zero_or_pos l0.length with h0 | h0
    · obtain rfl := List.eq_nil_of_length_eq_zero h0
      refine (Tryd.strings_Join_none A0 c0 a1 w).mono ?_
      rintro e w' ⟨rfl, rfl⟩
      exact ⟨rfl, Below.refl _ _⟩
    · obtain ⟨ad, e0, h1⟩ := Kd.at_string hr0 0 (by omega) (by omega)
      subst e0
      have hsp : ad.spot = none := by
        cases hs : ad.spot with
        | none => rfl
        | some k =>
          have : w.cell? ad = none := by unfold World.cell?; split <;> simp_all
          rw [show ad.add (0 : Int).toNat = ad from rfl, this] at h1
          cases h1
      obtain ⟨b, o, sp⟩ := ad
      obtain rfl : sp = none := hsp
      have hcell : ∀ (j : Nat) x, l0[j]? = some x → w.cell? ⟨b, o + j, none⟩ = some (.string x) := fun j x hx => by
        obtain ⟨hl, hv⟩ := List.getElem?_eq_some_iff.1 hx
        obtain ⟨ad2, e2, h2⟩ := Kd.at_string hr0 (j : Int) (by omega) (by omega)
        cases e2
        have e3 : rdOf ByteArray.empty l0 (j : Int) = x := by simp [rdOf, hx]
        rw [e3] at h2
        have e4 : (⟨b, o, none⟩ : Addr).add ((j : Int).toNat) = ⟨b, o + j, none⟩ := by unfold Addr.add; split <;> simp_all
        rw [e4] at h2
        exact h2
      exact Tryd.strings_Join b o c0 l0 a1 w hcell (World.block_lt_of_cell? w _ h1) (by omega) hc0 (by omega)
  · cases h

def strings_ContainsAny.f (a0 a1 : ByteArray) : Option Bool :=
  if a0.size < 4294967281 ∧ 2 ≤ a1.size ∧ a1.size < 4294967281 ∧ (a1.data.toList.all fun b => b.toNat < 128) = true then some (Lib.containsAny a0.data.toList a1.data.toList) else none
theorem strings_ContainsAny.calls (a0 a1 : ByteArray) (r : Bool) (w : World) (h : strings_ContainsAny.f a0 a1 = some r) :
    Calls Tryd.prog 41 #[.string a0, .string a1] w fun e w' => e = .returned (.bool r) ∧ Below w.heap.size w w' := by
  unfold strings_ContainsAny.f at h
  split at h
  · rename_i hs
    obtain ⟨h1, h2, h3, h4⟩ := hs
    obtain rfl := Option.some.inj h
    refine An.contains_any a0 a1 (fun j b hb => ?_) h2 h3 h1 w
    rw [List.all_eq_true] at h4
    simpa using h4 b (List.mem_of_getElem? hb)
  · cases h
end Go.Proofs.YtocpdhbkfgolfaaDoor.Ext
