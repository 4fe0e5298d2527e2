/-
  No cell of these rows narrows 'for every input' (looked for: loops, veiled, ifaces, maps, wideKeys, modest, calm, conditions, laid).
  DERIVED. THE GIVEN ROWS OF THIS SEAT. 6 by the template 'for every input the law returns true; each argument reads behind the call as it read before'; 0 by the template 'total and deterministic' (their statements: YtocpdhbkfgolfaaTotals.lean).
  GIVEN WITH THE SEED: the statements are not yours to turn. If you find one false, say at which input.
  Laid BY PROGRAM, IN A SANDBOX (cutbox-rows.mjs): the forced cells as the released guide's own fill.sh prints them over the translation 6f8f6a3c1f6c4b8d… (all of the seat's roots in one cut). By AI agents, Wed Nov 11 2026. No macro, syntax, notation, axiom, sorry.
-/
import Derived.Test.YtocpdhbkfgolfaaChecked
import GoSem.Claim
import GoSem.ClaimJoined
import GoSem.ClaimMapViews
import Derived.JoinedTies
import Derived.KernelRfl
namespace Go.Proofs.Ytocpdhbkfgolfaa
/- THE CELL 'sum', in the pinned program and in every row, IS THE sha256 OF THE DUMP (.gsa) THAT YtocpdhbkfgolfaaProg.lean LOADS. Nothing in Lean hashes anything: it is a label: what it is worth is what the hold of that sum in a sandbox is worth. -/
noncomputable def Try.pinned : Pinned := { name := "ytocpdhbkfgolfaa", sum := "6f8f6a3c1f6c4b8d6b69999201e78f9cc8820de1a8eb0079013c8924c38f6301", checked := Try.checked }
namespace Rows
def none {H : Type} : Left H := { results := [], args := [] }

/-- 'linhaylaw04.PathJoins': WHATEVER THE INPUT: true; the input reads as it did. -/
def pathJoinsSpec : ChangeSpec := { name := "pathJoins", fn := fun _ => fun
  | [d1, d2] => { results := [.lit (.bool true)], args := [d1, d2] }
  | _ => none }
def pathJoinsRow : OpenClaim := { program := "ytocpdhbkfgolfaa", sum := "6f8f6a3c1f6c4b8d6b69999201e78f9cc8820de1a8eb0079013c8924c38f6301", func := "linhay/linhaylaw04.PathJoins", spec := "pathJoins", inPlace := ["internal/bytealg.IndexByteString", "internal/bytealg.IndexString", "internal/abi.NoEscape", "internal/bytealg.MakeNoZero"], unfollowed := true, recurses := true, named := ["internal/bytealg.MaxLen"], apart := false }
def PathJoinsSaid : Prop := pathJoinsRow.holds Try.pinned (OpenSpec.ofChange pathJoinsSpec)

/-- ITS FALSE NEIGHBOUR: 'it returns false'. Refute it at one input. -/
def pathJoinsWrong : ChangeSpec := { name := "pathJoins", fn := fun _ => fun
  | [d1, d2] => { results := [.lit (.bool false)], args := [d1, d2] }
  | _ => none }
def PathJoinsWrongFalsely : Prop := pathJoinsRow.holds Try.pinned (OpenSpec.ofChange pathJoinsWrong)

/-- 'linhaylaw04.PathBack': WHATEVER THE INPUT: true; the input reads as it did. -/
def pathBackSpec : ChangeSpec := { name := "pathBack", fn := fun _ => fun
  | [d1, d2] => { results := [.lit (.bool true)], args := [d1, d2] }
  | _ => none }
def pathBackRow : OpenClaim := { program := "ytocpdhbkfgolfaa", sum := "6f8f6a3c1f6c4b8d6b69999201e78f9cc8820de1a8eb0079013c8924c38f6301", func := "linhay/linhaylaw04.PathBack", spec := "pathBack", inPlace := ["internal/bytealg.IndexByteString", "internal/bytealg.IndexString", "internal/abi.NoEscape", "internal/bytealg.MakeNoZero"], unfollowed := true, recurses := true, named := ["internal/bytealg.MaxLen"], apart := false }
def PathBackSaid : Prop := pathBackRow.holds Try.pinned (OpenSpec.ofChange pathBackSpec)

/-- ITS FALSE NEIGHBOUR: 'it returns false'. Refute it at one input. -/
def pathBackWrong : ChangeSpec := { name := "pathBack", fn := fun _ => fun
  | [d1, d2] => { results := [.lit (.bool false)], args := [d1, d2] }
  | _ => none }
def PathBackWrongFalsely : Prop := pathBackRow.holds Try.pinned (OpenSpec.ofChange pathBackWrong)

/-- 'linhaylaw30.ChoiceLists': WHATEVER THE INPUT: true; the input reads as it did. -/
def choiceListsSpec : ChangeSpec := { name := "choiceLists", fn := fun _ => fun
  | [d1, d2] => { results := [.lit (.bool true)], args := [d1, d2] }
  | _ => none }
def choiceListsRow : OpenClaim := { program := "ytocpdhbkfgolfaa", sum := "6f8f6a3c1f6c4b8d6b69999201e78f9cc8820de1a8eb0079013c8924c38f6301", func := "linhay/linhaylaw30.ChoiceLists", spec := "choiceLists", unfollowed := true, recurses := true, apart := false }
def ChoiceListsSaid : Prop := choiceListsRow.holds Try.pinned (OpenSpec.ofChange choiceListsSpec)

/-- ITS FALSE NEIGHBOUR: 'it returns false'. Refute it at one input. -/
def choiceListsWrong : ChangeSpec := { name := "choiceLists", fn := fun _ => fun
  | [d1, d2] => { results := [.lit (.bool false)], args := [d1, d2] }
  | _ => none }
def ChoiceListsWrongFalsely : Prop := choiceListsRow.holds Try.pinned (OpenSpec.ofChange choiceListsWrong)

/-- 'linhaylaw30.ChoiceBest': WHATEVER THE INPUT: true; the input reads as it did. -/
def choiceBestSpec : ChangeSpec := { name := "choiceBest", fn := fun _ => fun
  | [d1, d2] => { results := [.lit (.bool true)], args := [d1, d2] }
  | _ => none }
def choiceBestRow : OpenClaim := { program := "ytocpdhbkfgolfaa", sum := "6f8f6a3c1f6c4b8d6b69999201e78f9cc8820de1a8eb0079013c8924c38f6301", func := "linhay/linhaylaw30.ChoiceBest", spec := "choiceBest", unfollowed := true, recurses := true, apart := false }
def ChoiceBestSaid : Prop := choiceBestRow.holds Try.pinned (OpenSpec.ofChange choiceBestSpec)

/-- ITS FALSE NEIGHBOUR: 'it returns false'. Refute it at one input. -/
def choiceBestWrong : ChangeSpec := { name := "choiceBest", fn := fun _ => fun
  | [d1, d2] => { results := [.lit (.bool false)], args := [d1, d2] }
  | _ => none }
def ChoiceBestWrongFalsely : Prop := choiceBestRow.holds Try.pinned (OpenSpec.ofChange choiceBestWrong)

/-- 'linhaylaw04.PathTells': WHATEVER THE INPUT: true; the input reads as it did. -/
def pathTellsSpec : ChangeSpec := { name := "pathTells", fn := fun _ => fun
  | [d] => { results := [.lit (.bool true)], args := [d] }
  | _ => none }
def pathTellsRow : OpenClaim := { program := "ytocpdhbkfgolfaa", sum := "6f8f6a3c1f6c4b8d6b69999201e78f9cc8820de1a8eb0079013c8924c38f6301", func := "linhay/linhaylaw04.PathTells", spec := "pathTells", inPlace := ["internal/bytealg.IndexByteString", "internal/bytealg.IndexString", "internal/abi.NoEscape", "internal/bytealg.MakeNoZero"], unfollowed := true, recurses := true, named := ["internal/bytealg.MaxLen"], apart := false }
def PathTellsSaid : Prop := pathTellsRow.holds Try.pinned (OpenSpec.ofChange pathTellsSpec)

/-- ITS FALSE NEIGHBOUR: 'it returns false'. Refute it at one input. -/
def pathTellsWrong : ChangeSpec := { name := "pathTells", fn := fun _ => fun
  | [d] => { results := [.lit (.bool false)], args := [d] }
  | _ => none }
def PathTellsWrongFalsely : Prop := pathTellsRow.holds Try.pinned (OpenSpec.ofChange pathTellsWrong)

/-- 'linhaylaw30.ChoiceRanks': WHATEVER THE INPUT: true; the input reads as it did. -/
def choiceRanksSpec : ChangeSpec := { name := "choiceRanks", fn := fun _ => fun
  | [d1, d2] => { results := [.lit (.bool true)], args := [d1, d2] }
  | _ => none }
def choiceRanksRow : OpenClaim := { program := "ytocpdhbkfgolfaa", sum := "6f8f6a3c1f6c4b8d6b69999201e78f9cc8820de1a8eb0079013c8924c38f6301", func := "linhay/linhaylaw30.ChoiceRanks", spec := "choiceRanks", inPlace := ["internal/bytealg.IndexByteString", "internal/bytealg.IndexString", "internal/abi.NoEscape", "internal/bytealg.MakeNoZero"], unfollowed := true, recurses := true, named := ["internal/bytealg.MaxLen"], apart := false }
def ChoiceRanksSaid : Prop := choiceRanksRow.holds Try.pinned (OpenSpec.ofChange choiceRanksSpec)

/-- ITS FALSE NEIGHBOUR: 'it returns false'. Refute it at one input. -/
def choiceRanksWrong : ChangeSpec := { name := "choiceRanks", fn := fun _ => fun
  | [d1, d2] => { results := [.lit (.bool false)], args := [d1, d2] }
  | _ => none }
def ChoiceRanksWrongFalsely : Prop := choiceRanksRow.holds Try.pinned (OpenSpec.ofChange choiceRanksWrong)

/- THE SECOND FORM. 'bulk': how many values and letters a reading holds, each counted each time it is reached (what is shared counts as often as it is met; a slice's spare places count too). A statement '..UptoSaid' is the law's where the arguments, and the package variables that the reading takes, are together of bulk at most 1048576: NARROWER than '..Said'. Prove '..Said' where nothing that the law and all that it calls make is longer than what came in: it says more and counts as full. Else prove '..UptoSaid'. A law counts once. -/
mutual
def uptoBulk {H : Type} : DataW H → Nat
  | .lit (.string bytes) => bytes.length + 1
  | .lit _ => 1
  | .nil => 1
  | .ptr d => uptoBulk d + 1
  | .slice elems spare => uptoBulkAll elems + uptoBulkAll spare + 1
  | .agg parts => uptoBulkAll parts + 1
  | .iface _ d => uptoBulk d + 1
  | .map entries => uptoBulkEntries entries + 1
  | .held _ => 1
def uptoBulkAll {H : Type} : List (DataW H) → Nat
  | [] => 0
  | d :: r => uptoBulk d + uptoBulkAll r
def uptoBulkEntries {H : Type} : List (Lit × DataW H) → Nat
  | [] => 0
  | x :: r => uptoBulkEntry x + uptoBulkEntries r
def uptoBulkEntry {H : Type} : Lit × DataW H → Nat
  | (.string bytes, d) => bytes.length + uptoBulk d + 1
  | (_, d) => uptoBulk d + 1
 end
def uptoSmall : (H : Type) → List (DataW H) → Bool := fun _ ds => decide (uptoBulkAll ds ≤ 1048576)
def OpenSpec.upto (s : _root_.Go.ChangeSpec) : _root_.Go.OpenSpec := { _root_.Go.OpenSpec.ofChange s with cond := some uptoSmall }

/-- 'linhaylaw04.PathJoins', WHERE WHAT IT READS IS OF BULK AT MOST 1048576: true; the input reads as it did. -/
def pathJoinsUptoRow : OpenClaim := { program := "ytocpdhbkfgolfaa", sum := "6f8f6a3c1f6c4b8d6b69999201e78f9cc8820de1a8eb0079013c8924c38f6301", func := "linhay/linhaylaw04.PathJoins", spec := "pathJoins", inPlace := ["internal/bytealg.IndexByteString", "internal/bytealg.IndexString", "internal/abi.NoEscape", "internal/bytealg.MakeNoZero"], unfollowed := true, recurses := true, named := ["internal/bytealg.MaxLen"], apart := false, narrowed := true }
def PathJoinsUptoSaid : Prop := pathJoinsUptoRow.holds Try.pinned (OpenSpec.upto pathJoinsSpec)

/-- 'linhaylaw04.PathBack', WHERE WHAT IT READS IS OF BULK AT MOST 1048576: true; the input reads as it did. -/
def pathBackUptoRow : OpenClaim := { program := "ytocpdhbkfgolfaa", sum := "6f8f6a3c1f6c4b8d6b69999201e78f9cc8820de1a8eb0079013c8924c38f6301", func := "linhay/linhaylaw04.PathBack", spec := "pathBack", inPlace := ["internal/bytealg.IndexByteString", "internal/bytealg.IndexString", "internal/abi.NoEscape", "internal/bytealg.MakeNoZero"], unfollowed := true, recurses := true, named := ["internal/bytealg.MaxLen"], apart := false, narrowed := true }
def PathBackUptoSaid : Prop := pathBackUptoRow.holds Try.pinned (OpenSpec.upto pathBackSpec)

/-- 'linhaylaw30.ChoiceLists', WHERE WHAT IT READS IS OF BULK AT MOST 1048576: true; the input reads as it did. -/
def choiceListsUptoRow : OpenClaim := { program := "ytocpdhbkfgolfaa", sum := "6f8f6a3c1f6c4b8d6b69999201e78f9cc8820de1a8eb0079013c8924c38f6301", func := "linhay/linhaylaw30.ChoiceLists", spec := "choiceLists", unfollowed := true, recurses := true, apart := false, narrowed := true }
def ChoiceListsUptoSaid : Prop := choiceListsUptoRow.holds Try.pinned (OpenSpec.upto choiceListsSpec)

/-- 'linhaylaw30.ChoiceBest', WHERE WHAT IT READS IS OF BULK AT MOST 1048576: true; the input reads as it did. -/
def choiceBestUptoRow : OpenClaim := { program := "ytocpdhbkfgolfaa", sum := "6f8f6a3c1f6c4b8d6b69999201e78f9cc8820de1a8eb0079013c8924c38f6301", func := "linhay/linhaylaw30.ChoiceBest", spec := "choiceBest", unfollowed := true, recurses := true, apart := false, narrowed := true }
def ChoiceBestUptoSaid : Prop := choiceBestUptoRow.holds Try.pinned (OpenSpec.upto choiceBestSpec)

/-- 'linhaylaw04.PathTells', WHERE WHAT IT READS IS OF BULK AT MOST 1048576: true; the input reads as it did. -/
def pathTellsUptoRow : OpenClaim := { program := "ytocpdhbkfgolfaa", sum := "6f8f6a3c1f6c4b8d6b69999201e78f9cc8820de1a8eb0079013c8924c38f6301", func := "linhay/linhaylaw04.PathTells", spec := "pathTells", inPlace := ["internal/bytealg.IndexByteString", "internal/bytealg.IndexString", "internal/abi.NoEscape", "internal/bytealg.MakeNoZero"], unfollowed := true, recurses := true, named := ["internal/bytealg.MaxLen"], apart := false, narrowed := true }
def PathTellsUptoSaid : Prop := pathTellsUptoRow.holds Try.pinned (OpenSpec.upto pathTellsSpec)

/-- 'linhaylaw30.ChoiceRanks', WHERE WHAT IT READS IS OF BULK AT MOST 1048576: true; the input reads as it did. -/
def choiceRanksUptoRow : OpenClaim := { program := "ytocpdhbkfgolfaa", sum := "6f8f6a3c1f6c4b8d6b69999201e78f9cc8820de1a8eb0079013c8924c38f6301", func := "linhay/linhaylaw30.ChoiceRanks", spec := "choiceRanks", inPlace := ["internal/bytealg.IndexByteString", "internal/bytealg.IndexString", "internal/abi.NoEscape", "internal/bytealg.MakeNoZero"], unfollowed := true, recurses := true, named := ["internal/bytealg.MaxLen"], apart := false, narrowed := true }
def ChoiceRanksUptoSaid : Prop := choiceRanksUptoRow.holds Try.pinned (OpenSpec.upto choiceRanksSpec)

end Rows
end Go.Proofs.Ytocpdhbkfgolfaa
