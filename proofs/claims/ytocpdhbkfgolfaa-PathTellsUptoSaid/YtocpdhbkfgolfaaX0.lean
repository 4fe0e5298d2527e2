/- Printed by a program of this session (a turned copy of the kit's print): each Go function as a Lean function, and the proof that the call does just that. -/
import Derived.Test.YtocpdhbkfgolfaaProg
import Derived.Below
import Derived.Deep.Draws
import Derived.Deep.AppendLies
import Derived.Maps.AppendAt
import Derived.OwnWalk
import Derived.Laws.BytesArg
import Derived.Laws.MakeOwn
import Derived.Laws.OwnMore
import Derived.Deep.OwnRows
import Derived.Tactics
import Derived.Lib.ConvBytes
import Derived.Laws.Slices
import Derived.WalkKit
import Derived.KernelRfl
import Derived.RowKit3
import Derived.Deep.LoopGhost
import Derived.Deep.QuietTactic
import Derived.BigQuiet
import Derived.WideLaws
import Derived.Deep.DeepCutAuto
import Derived.Deep.CutBlock
import Derived.Deep.RegionHeld3
import Derived.Laws.Rows
import Derived.Lib.AppendStr
import Derived.ArgAppend
import Derived.Laws.IdiomCopy
import Derived.OrdersHeld
import Derived.Laws.BitsLemmas
import Derived.RowKit
import Derived.Test.YtocpdhbkfgolfaaWWords
import Derived.Test.YtocpdhbkfgolfaaWLast
import Derived.Test.YtocpdhbkfgolfaaWTab
import Derived.Test.YtocpdhbkfgolfaaWFour
import Derived.Test.YtocpdhbkfgolfaaWQPut
import Derived.Test.YtocpdhbkfgolfaaWApart
import Derived.Test.YtocpdhbkfgolfaaWArr
import Derived.Test.YtocpdhbkfgolfaaWZeros
import Derived.Test.YtocpdhbkfgolfaaWFoot
import Derived.Test.YtocpdhbkfgolfaaWKept
import Derived.Test.YtocpdhbkfgolfaaWShare
import Derived.Test.YtocpdhbkfgolfaaWN
import Derived.Test.YtocpdhbkfgolfaaWFootNe
import Derived.Test.YtocpdhbkfgolfaaWAt
import Derived.Test.YtocpdhbkfgolfaaWEqStruct
import Derived.Test.YtocpdhbkfgolfaaWRepsOne
import Derived.Test.YtocpdhbkfgolfaaWInv
import Derived.Test.YtocpdhbkfgolfaaWInvWords
import Derived.Test.YtocpdhbkfgolfaaWGuard
import Derived.Test.YtocpdhbkfgolfaaWNEv
import Derived.Test.YtocpdhbkfgolfaaWMore
namespace Go.Proofs.Ytocpdhbkfgolfaa.Ext
end Go.Proofs.Ytocpdhbkfgolfaa.Ext
namespace Go.Proofs.Ytocpdhbkfgolfaa.X
open Go.RowKit Go.Proofs.YtocpdhbkfgolfaaW.PrintWords Go.Proofs.YtocpdhbkfgolfaaW.PrintLast Go.Proofs.YtocpdhbkfgolfaaW.PrintMore Go.Proofs.Ytocpdhbkfgolfaa.Ext
attribute [local go_sem] max2_int min2_int max_two min_two max_three min_three max_four min_four   -- for this text's walks alone
set_option linter.unusedVariables false
set_option linter.unusedSimpArgs false



def errW : Option Int → Value
  | none => .nilIface
  | some c => .iface 0 (.int .i64 c)
theorem errW_none : errW none = .nilIface := rfl
theorem errW_some (c : Int) : errW (some c) = .iface 0 (.int .i64 c) := rfl

theorem info9 : (Try.prog.info? 9).map (fun i => (i.zero, i.size, i.bytes)) = some (some (.string ⟨#[]⟩), 1, 16) := by kernel_rfl
-- the values' own types
def rd_L1 (xs : List (List ByteArray)) (i : Int) : (List ByteArray) := xs.getD i.toNat ([] : List ByteArray)
theorem at_L1 {w : World} {A : Option Addr} {n : Nat} {xs : List (List ByteArray)} (h : Kd.C (Kd.slice 9 Kd.string) w A n xs) (i : Int) (h0 : 0 ≤ i) (h1 : i < n) : ∃ ad A0 c0, A = some ad ∧ w.cell? (ad.add i.toNat) = some (.slice A0 (rd_L1 xs i).length c0) ∧ (rd_L1 xs i).length ≤ c0 ∧ Kd.string.C w A0 (rd_L1 xs i).length (rd_L1 xs i) := by
  obtain ⟨ad, c, e, _, hK, hc0⟩ := Kd.C_get h ([] : List ByteArray) i h0 h1
  have hc : ∀ j u, c[j]? = some u → w.cell? (ad.add (i.toNat * 1 + j)) = some u := hc0
  obtain ⟨A0, c0, rfl, l0, g0⟩ := hK
  exact ⟨ad, A0, c0, e, by have hq := hc 0 _ rfl; rwa [Nat.mul_one, Nat.add_zero] at hq, l0, g0⟩

/-- The block of a slice does not hang on its length. -/
theorem own_cut {α : Type} {d : Kd α} {e : Nat} {w : World} {base : Nat} {A : Option Addr} {x y c : Nat} {v : Value} {xs : List α} (h : Kd.R d e w base (fun k_ => some k_ ≠ (Value.slice A x c).ownBlock) v xs) :
    Kd.R d e w base (fun k_ => some k_ ≠ (Value.slice A y c).ownBlock) v xs := Kd.R_mono h (fun k hk => by cases A <;> exact hk)

end Go.Proofs.Ytocpdhbkfgolfaa.X
