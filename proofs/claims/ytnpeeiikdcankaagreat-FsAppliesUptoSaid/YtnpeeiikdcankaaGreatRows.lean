/-
  No cell of these rows narrows 'for every input' (looked for: loops, veiled, ifaces, maps, wideKeys, modest, calm, conditions, laid).
  DERIVED. THE GIVEN ROWS OF THIS SEAT. 8 by the template 'for every input the law returns true; each argument reads behind the call as it read before'; 0 by the template 'total and deterministic' (their statements: YtnpeeiikdcankaaGreatTotals.lean).
  GIVEN WITH THE SEED: the statements are not yours to turn. If you find one false, say at which input.
  Laid BY PROGRAM, IN A SANDBOX (cutbox-rows.mjs): the forced cells as the released guide's own fill.sh prints them over the translation 2f2b8a2da769b917… (all of the seat's roots in one cut). By AI agents, Wed Nov 11 2026. No macro, syntax, notation, axiom, sorry.
-/
import Derived.Test.YtnpeeiikdcankaaGreatChecked
import GoSem.Claim
import GoSem.ClaimJoined
import GoSem.ClaimMapViews
import Derived.JoinedTies
import Derived.KernelRfl
namespace Go.Proofs.YtnpeeiikdcankaaGreat
/- THE CELL 'sum', in the pinned program and in every row, IS THE sha256 OF THE DUMP (.gsa) THAT YtnpeeiikdcankaaGreatProg.lean LOADS. Nothing in Lean hashes anything: it is a label: what it is worth is what the hold of that sum in a sandbox is worth. -/
noncomputable def Tryz.pinned : Pinned := { name := "ytnpeeiikdcankaagreat", sum := "2f2b8a2da769b917ac4df86708d0dd726a5c3118c68cbe19a7400b07992a3adf", checked := Tryz.checked }
namespace Rows
def none {H : Type} : Left H := { results := [], args := [] }

/-- 'linhaylaw09.PosixDoes': WHATEVER THE INPUT: true; the input reads as it did. -/
def posixDoesSpec : ChangeSpec := { name := "posixDoes", fn := fun _ => fun
  | [d1, d2] => { results := [.lit (.bool true)], args := [d1, d2] }
  | _ => none }
def posixDoesRow : OpenClaim := { program := "ytnpeeiikdcankaagreat", sum := "2f2b8a2da769b917ac4df86708d0dd726a5c3118c68cbe19a7400b07992a3adf", func := "linhay/linhaylaw09.PosixDoes", spec := "posixDoes", inPlace := ["internal/bytealg.IndexByteString", "internal/bytealg.IndexString", "slices.overlaps[linhay/api.Ent]"], unfollowed := true, recurses := true, named := ["internal/bytealg.MaxLen"], apart := false }
def PosixDoesSaid : Prop := posixDoesRow.holds Tryz.pinned (OpenSpec.ofChange posixDoesSpec)

/-- ITS FALSE NEIGHBOUR: 'it returns false'. Refute it at one input. -/
def posixDoesWrong : ChangeSpec := { name := "posixDoes", fn := fun _ => fun
  | [d1, d2] => { results := [.lit (.bool false)], args := [d1, d2] }
  | _ => none }
def PosixDoesWrongFalsely : Prop := posixDoesRow.holds Tryz.pinned (OpenSpec.ofChange posixDoesWrong)

/-- 'linhaylaw10.FsDoes': WHATEVER THE INPUT: true; the input reads as it did. -/
def fsDoesSpec : ChangeSpec := { name := "fsDoes", fn := fun _ => fun
  | [d1, d2] => { results := [.lit (.bool true)], args := [d1, d2] }
  | _ => none }
def fsDoesRow : OpenClaim := { program := "ytnpeeiikdcankaagreat", sum := "2f2b8a2da769b917ac4df86708d0dd726a5c3118c68cbe19a7400b07992a3adf", func := "linhay/linhaylaw10.FsDoes", spec := "fsDoes", inPlace := ["internal/bytealg.IndexByteString", "internal/bytealg.IndexString", "slices.overlaps[linhay/api.Ent]"], unfollowed := true, recurses := true, named := ["internal/bytealg.MaxLen"], apart := false }
def FsDoesSaid : Prop := fsDoesRow.holds Tryz.pinned (OpenSpec.ofChange fsDoesSpec)

/-- ITS FALSE NEIGHBOUR: 'it returns false'. Refute it at one input. -/
def fsDoesWrong : ChangeSpec := { name := "fsDoes", fn := fun _ => fun
  | [d1, d2] => { results := [.lit (.bool false)], args := [d1, d2] }
  | _ => none }
def FsDoesWrongFalsely : Prop := fsDoesRow.holds Tryz.pinned (OpenSpec.ofChange fsDoesWrong)

/-- 'linhaylaw10.FsApplies': WHATEVER THE INPUT: true; the input reads as it did. -/
def fsAppliesSpec : ChangeSpec := { name := "fsApplies", fn := fun _ => fun
  | [d1, d2] => { results := [.lit (.bool true)], args := [d1, d2] }
  | _ => none }
def fsAppliesRow : OpenClaim := { program := "ytnpeeiikdcankaagreat", sum := "2f2b8a2da769b917ac4df86708d0dd726a5c3118c68cbe19a7400b07992a3adf", func := "linhay/linhaylaw10.FsApplies", spec := "fsApplies", inPlace := ["internal/bytealg.IndexByteString", "internal/bytealg.IndexString", "slices.overlaps[linhay/api.Ent]"], unfollowed := true, recurses := true, named := ["internal/bytealg.MaxLen"], apart := false }
def FsAppliesSaid : Prop := fsAppliesRow.holds Tryz.pinned (OpenSpec.ofChange fsAppliesSpec)

/-- ITS FALSE NEIGHBOUR: 'it returns false'. Refute it at one input. -/
def fsAppliesWrong : ChangeSpec := { name := "fsApplies", fn := fun _ => fun
  | [d1, d2] => { results := [.lit (.bool false)], args := [d1, d2] }
  | _ => none }
def FsAppliesWrongFalsely : Prop := fsAppliesRow.holds Tryz.pinned (OpenSpec.ofChange fsAppliesWrong)

/-- 'linhaylaw20.ActValid': WHATEVER THE INPUT: true; the input reads as it did. -/
def actValidSpec : ChangeSpec := { name := "actValid", fn := fun _ => fun
  | [d1, d2, d3] => { results := [.lit (.bool true)], args := [d1, d2, d3] }
  | _ => none }
def actValidRow : OpenClaim := { program := "ytnpeeiikdcankaagreat", sum := "2f2b8a2da769b917ac4df86708d0dd726a5c3118c68cbe19a7400b07992a3adf", func := "linhay/linhaylaw20.ActValid", spec := "actValid", inPlace := ["internal/bytealg.IndexByteString", "internal/bytealg.IndexString", "internal/abi.NoEscape", "internal/bytealg.MakeNoZero", "slices.overlaps[linhay/api.Ent]"], unfollowed := true, recurses := true, named := ["internal/bytealg.MaxLen"], apart := false }
def ActValidSaid : Prop := actValidRow.holds Tryz.pinned (OpenSpec.ofChange actValidSpec)

/-- ITS FALSE NEIGHBOUR: 'it returns false'. Refute it at one input. -/
def actValidWrong : ChangeSpec := { name := "actValid", fn := fun _ => fun
  | [d1, d2, d3] => { results := [.lit (.bool false)], args := [d1, d2, d3] }
  | _ => none }
def ActValidWrongFalsely : Prop := actValidRow.holds Tryz.pinned (OpenSpec.ofChange actValidWrong)

/-- 'linhaylaw21.PlanNone': WHATEVER THE INPUT: true; the input reads as it did. -/
def planNoneSpec : ChangeSpec := { name := "planNone", fn := fun _ => fun
  | [d] => { results := [.lit (.bool true)], args := [d] }
  | _ => none }
def planNoneRow : OpenClaim := { program := "ytnpeeiikdcankaagreat", sum := "2f2b8a2da769b917ac4df86708d0dd726a5c3118c68cbe19a7400b07992a3adf", func := "linhay/linhaylaw21.PlanNone", spec := "planNone", inPlace := ["slices.overlaps[linhay/api.Conflict]", "internal/bytealg.IndexByteString", "internal/bytealg.IndexString", "slices.overlaps[linhay/api.Ent]", "internal/abi.NoEscape", "internal/bytealg.MakeNoZero"], unfollowed := true, recurses := true, named := ["internal/bytealg.MaxLen"], apart := false }
def PlanNoneSaid : Prop := planNoneRow.holds Tryz.pinned (OpenSpec.ofChange planNoneSpec)

/-- ITS FALSE NEIGHBOUR: 'it returns false'. Refute it at one input. -/
def planNoneWrong : ChangeSpec := { name := "planNone", fn := fun _ => fun
  | [d] => { results := [.lit (.bool false)], args := [d] }
  | _ => none }
def PlanNoneWrongFalsely : Prop := planNoneRow.holds Tryz.pinned (OpenSpec.ofChange planNoneWrong)

/-- 'linhaylaw21.PlanDoes': WHATEVER THE INPUT: true; the input reads as it did. -/
def planDoesSpec : ChangeSpec := { name := "planDoes", fn := fun _ => fun
  | [d1, d2] => { results := [.lit (.bool true)], args := [d1, d2] }
  | _ => none }
def planDoesRow : OpenClaim := { program := "ytnpeeiikdcankaagreat", sum := "2f2b8a2da769b917ac4df86708d0dd726a5c3118c68cbe19a7400b07992a3adf", func := "linhay/linhaylaw21.PlanDoes", spec := "planDoes", inPlace := ["internal/bytealg.IndexByteString", "internal/bytealg.IndexString", "internal/abi.NoEscape", "internal/bytealg.MakeNoZero", "slices.overlaps[linhay/api.Ent]", "slices.overlaps[linhay/api.Conflict]"], unfollowed := true, recurses := true, named := ["internal/bytealg.MaxLen"], apart := false }
def PlanDoesSaid : Prop := planDoesRow.holds Tryz.pinned (OpenSpec.ofChange planDoesSpec)

/-- ITS FALSE NEIGHBOUR: 'it returns false'. Refute it at one input. -/
def planDoesWrong : ChangeSpec := { name := "planDoes", fn := fun _ => fun
  | [d1, d2] => { results := [.lit (.bool false)], args := [d1, d2] }
  | _ => none }
def PlanDoesWrongFalsely : Prop := planDoesRow.holds Tryz.pinned (OpenSpec.ofChange planDoesWrong)

/-- 'linhaylaw20.ActNone': WHATEVER THE INPUT: true; the input reads as it did. -/
def actNoneSpec : ChangeSpec := { name := "actNone", fn := fun _ => fun
  | [d1, d2] => { results := [.lit (.bool true)], args := [d1, d2] }
  | _ => none }
def actNoneRow : OpenClaim := { program := "ytnpeeiikdcankaagreat", sum := "2f2b8a2da769b917ac4df86708d0dd726a5c3118c68cbe19a7400b07992a3adf", func := "linhay/linhaylaw20.ActNone", spec := "actNone", inPlace := ["internal/bytealg.IndexByteString", "internal/bytealg.IndexString", "internal/abi.NoEscape", "internal/bytealg.MakeNoZero", "slices.overlaps[linhay/api.Ent]"], unfollowed := true, recurses := true, named := ["internal/bytealg.MaxLen"], apart := false }
def ActNoneSaid : Prop := actNoneRow.holds Tryz.pinned (OpenSpec.ofChange actNoneSpec)

/-- ITS FALSE NEIGHBOUR: 'it returns false'. Refute it at one input. -/
def actNoneWrong : ChangeSpec := { name := "actNone", fn := fun _ => fun
  | [d1, d2] => { results := [.lit (.bool false)], args := [d1, d2] }
  | _ => none }
def ActNoneWrongFalsely : Prop := actNoneRow.holds Tryz.pinned (OpenSpec.ofChange actNoneWrong)

/-- 'linhaylaw20.ActRuns': WHATEVER THE INPUT: true; the input reads as it did. -/
def actRunsSpec : ChangeSpec := { name := "actRuns", fn := fun _ => fun
  | [d1, d2, d3] => { results := [.lit (.bool true)], args := [d1, d2, d3] }
  | _ => none }
def actRunsRow : OpenClaim := { program := "ytnpeeiikdcankaagreat", sum := "2f2b8a2da769b917ac4df86708d0dd726a5c3118c68cbe19a7400b07992a3adf", func := "linhay/linhaylaw20.ActRuns", spec := "actRuns", inPlace := ["internal/bytealg.IndexByteString", "internal/bytealg.IndexString", "internal/abi.NoEscape", "internal/bytealg.MakeNoZero", "slices.overlaps[linhay/api.Ent]"], unfollowed := true, recurses := true, named := ["internal/bytealg.MaxLen"], apart := false }
def ActRunsSaid : Prop := actRunsRow.holds Tryz.pinned (OpenSpec.ofChange actRunsSpec)

/-- ITS FALSE NEIGHBOUR: 'it returns false'. Refute it at one input. -/
def actRunsWrong : ChangeSpec := { name := "actRuns", fn := fun _ => fun
  | [d1, d2, d3] => { results := [.lit (.bool false)], args := [d1, d2, d3] }
  | _ => none }
def ActRunsWrongFalsely : Prop := actRunsRow.holds Tryz.pinned (OpenSpec.ofChange actRunsWrong)

/- THE SECOND FORM. 'bulk': how many values and letters a reading holds, each counted each time it is reached (what is shared counts as often as it is met; a slice's spare places count too). A statement '..UptoSaid' is the law's where the arguments, and the package variables that the reading takes, are together of bulk at most 1048576: NARROWER than '..Said'. Prove '..Said' where nothing that the law and all that it calls make is longer than what came in: it says more and counts as full. Else prove '..UptoSaid'. A law counts once. -/
mutual
def uptoBulk {H : Type} : DataW H → Nat
  | .lit (.string bytes) => bytes.length + 1
  | .lit _ => 1
  | .nil => 1
  | .ptr d => uptoBulk d + 1
  | .slice elems spare => uptoBulkAll elems + uptoBulkAll spare + 1
  | .agg parts => uptoBulkAll parts + 1
  | .iface _ d => uptoBulk d + 1
  | .map entries => uptoBulkEntries entries + 1
  | .held _ => 1
def uptoBulkAll {H : Type} : List (DataW H) → Nat
  | [] => 0
  | d :: r => uptoBulk d + uptoBulkAll r
def uptoBulkEntries {H : Type} : List (Lit × DataW H) → Nat
  | [] => 0
  | x :: r => uptoBulkEntry x + uptoBulkEntries r
def uptoBulkEntry {H : Type} : Lit × DataW H → Nat
  | (.string bytes, d) => bytes.length + uptoBulk d + 1
  | (_, d) => uptoBulk d + 1
 end
def uptoSmall : (H : Type) → List (DataW H) → Bool := fun _ ds => decide (uptoBulkAll ds ≤ 1048576)
def OpenSpec.upto (s : _root_.Go.ChangeSpec) : _root_.Go.OpenSpec := { _root_.Go.OpenSpec.ofChange s with cond := some uptoSmall }

/-- 'linhaylaw09.PosixDoes', WHERE WHAT IT READS IS OF BULK AT MOST 1048576: true; the input reads as it did. -/
def posixDoesUptoRow : OpenClaim := { program := "ytnpeeiikdcankaagreat", sum := "2f2b8a2da769b917ac4df86708d0dd726a5c3118c68cbe19a7400b07992a3adf", func := "linhay/linhaylaw09.PosixDoes", spec := "posixDoes", inPlace := ["internal/bytealg.IndexByteString", "internal/bytealg.IndexString", "slices.overlaps[linhay/api.Ent]"], unfollowed := true, recurses := true, named := ["internal/bytealg.MaxLen"], apart := false, narrowed := true }
def PosixDoesUptoSaid : Prop := posixDoesUptoRow.holds Tryz.pinned (OpenSpec.upto posixDoesSpec)

/-- 'linhaylaw10.FsDoes', WHERE WHAT IT READS IS OF BULK AT MOST 1048576: true; the input reads as it did. -/
def fsDoesUptoRow : OpenClaim := { program := "ytnpeeiikdcankaagreat", sum := "2f2b8a2da769b917ac4df86708d0dd726a5c3118c68cbe19a7400b07992a3adf", func := "linhay/linhaylaw10.FsDoes", spec := "fsDoes", inPlace := ["internal/bytealg.IndexByteString", "internal/bytealg.IndexString", "slices.overlaps[linhay/api.Ent]"], unfollowed := true, recurses := true, named := ["internal/bytealg.MaxLen"], apart := false, narrowed := true }
def FsDoesUptoSaid : Prop := fsDoesUptoRow.holds Tryz.pinned (OpenSpec.upto fsDoesSpec)

/-- 'linhaylaw10.FsApplies', WHERE WHAT IT READS IS OF BULK AT MOST 1048576: true; the input reads as it did. -/
def fsAppliesUptoRow : OpenClaim := { program := "ytnpeeiikdcankaagreat", sum := "2f2b8a2da769b917ac4df86708d0dd726a5c3118c68cbe19a7400b07992a3adf", func := "linhay/linhaylaw10.FsApplies", spec := "fsApplies", inPlace := ["internal/bytealg.IndexByteString", "internal/bytealg.IndexString", "slices.overlaps[linhay/api.Ent]"], unfollowed := true, recurses := true, named := ["internal/bytealg.MaxLen"], apart := false, narrowed := true }
def FsAppliesUptoSaid : Prop := fsAppliesUptoRow.holds Tryz.pinned (OpenSpec.upto fsAppliesSpec)

/-- 'linhaylaw20.ActValid', WHERE WHAT IT READS IS OF BULK AT MOST 1048576: true; the input reads as it did. -/
def actValidUptoRow : OpenClaim := { program := "ytnpeeiikdcankaagreat", sum := "2f2b8a2da769b917ac4df86708d0dd726a5c3118c68cbe19a7400b07992a3adf", func := "linhay/linhaylaw20.ActValid", spec := "actValid", inPlace := ["internal/bytealg.IndexByteString", "internal/bytealg.IndexString", "internal/abi.NoEscape", "internal/bytealg.MakeNoZero", "slices.overlaps[linhay/api.Ent]"], unfollowed := true, recurses := true, named := ["internal/bytealg.MaxLen"], apart := false, narrowed := true }
def ActValidUptoSaid : Prop := actValidUptoRow.holds Tryz.pinned (OpenSpec.upto actValidSpec)

/-- 'linhaylaw21.PlanNone', WHERE WHAT IT READS IS OF BULK AT MOST 1048576: true; the input reads as it did. -/
def planNoneUptoRow : OpenClaim := { program := "ytnpeeiikdcankaagreat", sum := "2f2b8a2da769b917ac4df86708d0dd726a5c3118c68cbe19a7400b07992a3adf", func := "linhay/linhaylaw21.PlanNone", spec := "planNone", inPlace := ["slices.overlaps[linhay/api.Conflict]", "internal/bytealg.IndexByteString", "internal/bytealg.IndexString", "slices.overlaps[linhay/api.Ent]", "internal/abi.NoEscape", "internal/bytealg.MakeNoZero"], unfollowed := true, recurses := true, named := ["internal/bytealg.MaxLen"], apart := false, narrowed := true }
def PlanNoneUptoSaid : Prop := planNoneUptoRow.holds Tryz.pinned (OpenSpec.upto planNoneSpec)

/-- 'linhaylaw21.PlanDoes', WHERE WHAT IT READS IS OF BULK AT MOST 1048576: true; the input reads as it did. -/
def planDoesUptoRow : OpenClaim := { program := "ytnpeeiikdcankaagreat", sum := "2f2b8a2da769b917ac4df86708d0dd726a5c3118c68cbe19a7400b07992a3adf", func := "linhay/linhaylaw21.PlanDoes", spec := "planDoes", inPlace := ["internal/bytealg.IndexByteString", "internal/bytealg.IndexString", "internal/abi.NoEscape", "internal/bytealg.MakeNoZero", "slices.overlaps[linhay/api.Ent]", "slices.overlaps[linhay/api.Conflict]"], unfollowed := true, recurses := true, named := ["internal/bytealg.MaxLen"], apart := false, narrowed := true }
def PlanDoesUptoSaid : Prop := planDoesUptoRow.holds Tryz.pinned (OpenSpec.upto planDoesSpec)

/-- 'linhaylaw20.ActNone', WHERE WHAT IT READS IS OF BULK AT MOST 1048576: true; the input reads as it did. -/
def actNoneUptoRow : OpenClaim := { program := "ytnpeeiikdcankaagreat", sum := "2f2b8a2da769b917ac4df86708d0dd726a5c3118c68cbe19a7400b07992a3adf", func := "linhay/linhaylaw20.ActNone", spec := "actNone", inPlace := ["internal/bytealg.IndexByteString", "internal/bytealg.IndexString", "internal/abi.NoEscape", "internal/bytealg.MakeNoZero", "slices.overlaps[linhay/api.Ent]"], unfollowed := true, recurses := true, named := ["internal/bytealg.MaxLen"], apart := false, narrowed := true }
def ActNoneUptoSaid : Prop := actNoneUptoRow.holds Tryz.pinned (OpenSpec.upto actNoneSpec)

/-- 'linhaylaw20.ActRuns', WHERE WHAT IT READS IS OF BULK AT MOST 1048576: true; the input reads as it did. -/
def actRunsUptoRow : OpenClaim := { program := "ytnpeeiikdcankaagreat", sum := "2f2b8a2da769b917ac4df86708d0dd726a5c3118c68cbe19a7400b07992a3adf", func := "linhay/linhaylaw20.ActRuns", spec := "actRuns", inPlace := ["internal/bytealg.IndexByteString", "internal/bytealg.IndexString", "internal/abi.NoEscape", "internal/bytealg.MakeNoZero", "slices.overlaps[linhay/api.Ent]"], unfollowed := true, recurses := true, named := ["internal/bytealg.MaxLen"], apart := false, narrowed := true }
def ActRunsUptoSaid : Prop := actRunsUptoRow.holds Tryz.pinned (OpenSpec.upto actRunsSpec)

end Rows
end Go.Proofs.YtnpeeiikdcankaaGreat
