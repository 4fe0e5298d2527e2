/- Printed by a program of this session (a turned copy of the kit's print): each Go function as a Lean function, and the proof that the call does just that. -/
import Derived.WalkLawsBesides
import Derived.Test.YtbbojnjagaljmaaDoorProg
import Derived.Below
import Derived.Deep.Draws
import Derived.Deep.AppendLies
import Derived.Maps.AppendAt
import Derived.OwnWalk
import Derived.Laws.BytesArg
import Derived.Laws.MakeOwn
import Derived.Laws.OwnMore
import Derived.Deep.OwnRows
import Derived.Tactics
import Derived.Lib.ConvBytes
import Derived.Laws.Slices
import Derived.WalkKit
import Derived.KernelRfl
import Derived.RowKit3
import Derived.Deep.LoopGhost
import Derived.Deep.QuietTactic
import Derived.BigQuiet
import Derived.WideLaws
import Derived.Deep.DeepCutAuto
import Derived.Deep.CutBlock
import Derived.Deep.RegionHeld3
import Derived.Laws.Rows
import Derived.Lib.AppendStr
import Derived.ArgAppend
import Derived.Laws.IdiomCopy
import Derived.OrdersHeld
import Derived.Laws.BitsLemmas
import Derived.RowKit
import Derived.Test.YtbbojnjagaljmaaDoorWWords
import Derived.Test.YtbbojnjagaljmaaDoorWLast
import Derived.Test.YtbbojnjagaljmaaDoorWTab
import Derived.Test.YtbbojnjagaljmaaDoorWQPut
import Derived.Test.YtbbojnjagaljmaaDoorWApart
import Derived.Test.YtbbojnjagaljmaaDoorWArr
import Derived.Test.YtbbojnjagaljmaaDoorWZeros
import Derived.Test.YtbbojnjagaljmaaDoorWFoot
import Derived.Test.YtbbojnjagaljmaaDoorWKept
import Derived.Test.YtbbojnjagaljmaaDoorWShare
import Derived.Test.YtbbojnjagaljmaaDoorWN
import Derived.Test.YtbbojnjagaljmaaDoorWEqStruct
import Derived.Test.YtbbojnjagaljmaaDoorWRepsOne
import Derived.Test.YtbbojnjagaljmaaDoorWGuard
import Derived.Test.YtbbojnjagaljmaaDoorWNEv
import Derived.Test.YtbbojnjagaljmaaDoorWMore
namespace Go.Proofs.YtbbojnjagaljmaaDoor.Ext
end Go.Proofs.YtbbojnjagaljmaaDoor.Ext
namespace Go.Proofs.YtbbojnjagaljmaaDoor.X
open Go.RowKit Go.Proofs.YtbbojnjagaljmaaDoorW.PrintWords Go.Proofs.YtbbojnjagaljmaaDoorW.PrintLast Go.Proofs.YtbbojnjagaljmaaDoorW.PrintMore Go.Proofs.YtbbojnjagaljmaaDoor.Ext
attribute [local go_sem] max2_int min2_int max_two min_two max_three min_three max_four min_four   -- for this text's walks alone
set_option linter.unusedVariables false
set_option linter.unusedSimpArgs false



def errW : Option Int → Value
  | none => .nilIface
  | some c => .iface 0 (.int .i64 c)
theorem errW_none : errW none = .nilIface := rfl
theorem errW_some (c : Int) : errW (some c) = .iface 0 (.int .i64 c) := rfl

theorem info5 : (Tryd.prog.info? 5).map (fun i => (i.zero, i.size, i.bytes)) = some (some (.int .u8 0), 1, 1) := by kernel_rfl
-- the values' own types

/-- The block of a slice does not hang on its length. -/
theorem own_cut {α : Type} {d : Kd α} {e : Nat} {w : World} {base : Nat} {A : Option Addr} {x y c : Nat} {v : Value} {xs : List α} (h : Kd.R d e w base (fun k_ => some k_ ≠ (Value.slice A x c).ownBlock) v xs) :
  Kd.R d e w base (fun k_ => some k_ ≠ (Value.slice A y c).ownBlock) v xs := Kd.R_mono h (fun k hk => by cases A <;> exact hk)
theorem less_irr : ∀ a : List UInt8, Op.bytesLess a a = false
 | [] => by simp [Op.bytesLess]
 | c :: a => by simp [Op.bytesLess, less_irr a]
theorem less_asym : ∀ a b : List UInt8, Op.bytesLess a b = true → Op.bytesLess b a = false
 | _, [], h => by simp [Op.bytesLess] at h
 | [], _ :: _, _ => by simp [Op.bytesLess]
 | c :: a, d :: b, h => by
  simp [Op.bytesLess] at h ⊢
  rcases h with h | ⟨rfl, h⟩
  ·
   exact ⟨UInt8.le_of_lt h, fun e => absurd h (by rw [e]; exact UInt8.lt_irrefl _)⟩
  ·
   exact ⟨UInt8.le_refl _, fun _ => less_asym a b h⟩
theorem less_tot : ∀ a b : List UInt8, Op.bytesLess a b = false → (Op.bytesLess b a || b == a) = true
 | [], [], _ => by simp
 | _ :: _, [], _ => by simp [Op.bytesLess]
 | [], _ :: _, h => by simp [Op.bytesLess] at h
 | c :: a, d :: b, h => by
  simp [Op.bytesLess] at h
  obtain ⟨h1, h2⟩ := h
  by_cases e : d = c
  ·
   subst e
   have := less_tot a b (h2 rfl)
   simp [Op.bytesLess] at this ⊢
   exact this
  ·
   have : d < c := UInt8.lt_of_le_of_ne h1 e
   simp [Op.bytesLess, this]
theorem less_flip {a b : List UInt8} (h : Op.bytesLess a b = true) : (b == a) = false := by
 rw [beq_eq_false_iff_ne]
 rintro rfl
 rw [less_irr] at h
 cases h
theorem bne_nil (l : List UInt8) : (l != []) = !l.isEmpty := by cases l <;> rfl

end Go.Proofs.YtbbojnjagaljmaaDoor.X
