/-
  No cell of these rows narrows 'for every input' (looked for: loops, veiled, ifaces, maps, wideKeys, modest, calm, conditions, laid).
  DERIVED. THE GIVEN ROWS OF THIS SEAT. 7 by the template 'for every input the law returns true; each argument reads behind the call as it read before'; 0 by the template 'total and deterministic' (their statements: YtjfigngmpagloaaTotals.lean).
  GIVEN WITH THE SEED: the statements are not yours to turn. If you find one false, say at which input.
  Laid BY PROGRAM, IN A SANDBOX (cutbox-rows.mjs): the forced cells as the released guide's own fill.sh prints them over the translation ebde391695b58321… (all of the seat's roots in one cut). By AI agents, Wed Nov 11 2026. No macro, syntax, notation, axiom, sorry.
-/
import Derived.Test.YtjfigngmpagloaaChecked
import GoSem.Claim
import GoSem.ClaimJoined
import GoSem.ClaimMapViews
import Derived.JoinedTies
import Derived.KernelRfl
namespace Go.Proofs.Ytjfigngmpagloaa
/- THE CELL 'sum', in the pinned program and in every row, IS THE sha256 OF THE DUMP (.gsa) THAT YtjfigngmpagloaaProg.lean LOADS. Nothing in Lean hashes anything: it is a label: what it is worth is what the hold of that sum in a sandbox is worth. -/
noncomputable def Try.pinned : Pinned := { name := "ytjfigngmpagloaa", sum := "ebde391695b58321d7230969d861b755747ff4d2e614784d7358a2a81bf51671", checked := Try.checked }
namespace Rows
def none {H : Type} : Left H := { results := [], args := [] }

/-- 'linhaylaw09.PosixAsks': WHATEVER THE INPUT: true; the input reads as it did. -/
def posixAsksSpec : ChangeSpec := { name := "posixAsks", fn := fun _ => fun
  | [d1, d2, d3] => { results := [.lit (.bool true)], args := [d1, d2, d3] }
  | _ => none }
def posixAsksRow : OpenClaim := { program := "ytjfigngmpagloaa", sum := "ebde391695b58321d7230969d861b755747ff4d2e614784d7358a2a81bf51671", func := "linhay/linhaylaw09.PosixAsks", spec := "posixAsks", inPlace := ["internal/bytealg.IndexByteString", "internal/bytealg.IndexString", "slices.overlaps[linhay/api.Ent]"], unfollowed := true, recurses := true, named := ["internal/bytealg.MaxLen"], apart := false }
def PosixAsksSaid : Prop := posixAsksRow.holds Try.pinned (OpenSpec.ofChange posixAsksSpec)

/-- ITS FALSE NEIGHBOUR: 'it returns false'. Refute it at one input. -/
def posixAsksWrong : ChangeSpec := { name := "posixAsks", fn := fun _ => fun
  | [d1, d2, d3] => { results := [.lit (.bool false)], args := [d1, d2, d3] }
  | _ => none }
def PosixAsksWrongFalsely : Prop := posixAsksRow.holds Try.pinned (OpenSpec.ofChange posixAsksWrong)

/-- 'linhaylaw08.SeekFinds': WHATEVER THE INPUT: true; the input reads as it did. -/
def seekFindsSpec : ChangeSpec := { name := "seekFinds", fn := fun _ => fun
  | [d1, d2, d3] => { results := [.lit (.bool true)], args := [d1, d2, d3] }
  | _ => none }
def seekFindsRow : OpenClaim := { program := "ytjfigngmpagloaa", sum := "ebde391695b58321d7230969d861b755747ff4d2e614784d7358a2a81bf51671", func := "linhay/linhaylaw08.SeekFinds", spec := "seekFinds", inPlace := ["internal/bytealg.IndexByteString", "internal/bytealg.IndexString", "slices.overlaps[linhay/api.Ent]", "internal/abi.NoEscape", "internal/bytealg.MakeNoZero"], unfollowed := true, recurses := true, named := ["internal/bytealg.MaxLen"], apart := false }
def SeekFindsSaid : Prop := seekFindsRow.holds Try.pinned (OpenSpec.ofChange seekFindsSpec)

/-- ITS FALSE NEIGHBOUR: 'it returns false'. Refute it at one input. -/
def seekFindsWrong : ChangeSpec := { name := "seekFinds", fn := fun _ => fun
  | [d1, d2, d3] => { results := [.lit (.bool false)], args := [d1, d2, d3] }
  | _ => none }
def SeekFindsWrongFalsely : Prop := seekFindsRow.holds Try.pinned (OpenSpec.ofChange seekFindsWrong)

/-- 'linhaylaw08.SeekReal': WHATEVER THE INPUT: true; the input reads as it did. -/
def seekRealSpec : ChangeSpec := { name := "seekReal", fn := fun _ => fun
  | [d1, d2, d3] => { results := [.lit (.bool true)], args := [d1, d2, d3] }
  | _ => none }
def seekRealRow : OpenClaim := { program := "ytjfigngmpagloaa", sum := "ebde391695b58321d7230969d861b755747ff4d2e614784d7358a2a81bf51671", func := "linhay/linhaylaw08.SeekReal", spec := "seekReal", inPlace := ["internal/bytealg.IndexByteString", "internal/bytealg.IndexString", "slices.overlaps[linhay/api.Ent]", "internal/abi.NoEscape", "internal/bytealg.MakeNoZero"], unfollowed := true, recurses := true, named := ["internal/bytealg.MaxLen"], apart := false }
def SeekRealSaid : Prop := seekRealRow.holds Try.pinned (OpenSpec.ofChange seekRealSpec)

/-- ITS FALSE NEIGHBOUR: 'it returns false'. Refute it at one input. -/
def seekRealWrong : ChangeSpec := { name := "seekReal", fn := fun _ => fun
  | [d1, d2, d3] => { results := [.lit (.bool false)], args := [d1, d2, d3] }
  | _ => none }
def SeekRealWrongFalsely : Prop := seekRealRow.holds Try.pinned (OpenSpec.ofChange seekRealWrong)

/-- 'linhaylaw08.SeekNone': WHATEVER THE INPUT: true; the input reads as it did. -/
def seekNoneSpec : ChangeSpec := { name := "seekNone", fn := fun _ => fun
  | [d1, d2, d3] => { results := [.lit (.bool true)], args := [d1, d2, d3] }
  | _ => none }
def seekNoneRow : OpenClaim := { program := "ytjfigngmpagloaa", sum := "ebde391695b58321d7230969d861b755747ff4d2e614784d7358a2a81bf51671", func := "linhay/linhaylaw08.SeekNone", spec := "seekNone", inPlace := ["internal/bytealg.IndexByteString", "internal/bytealg.IndexString", "internal/abi.NoEscape", "internal/bytealg.MakeNoZero", "slices.overlaps[linhay/api.Ent]"], unfollowed := true, recurses := true, named := ["internal/bytealg.MaxLen"], apart := false }
def SeekNoneSaid : Prop := seekNoneRow.holds Try.pinned (OpenSpec.ofChange seekNoneSpec)

/-- ITS FALSE NEIGHBOUR: 'it returns false'. Refute it at one input. -/
def seekNoneWrong : ChangeSpec := { name := "seekNone", fn := fun _ => fun
  | [d1, d2, d3] => { results := [.lit (.bool false)], args := [d1, d2, d3] }
  | _ => none }
def SeekNoneWrongFalsely : Prop := seekNoneRow.holds Try.pinned (OpenSpec.ofChange seekNoneWrong)

/-- 'linhaylaw45.TraceOf': WHATEVER THE INPUT: true; the input reads as it did. -/
def traceOfSpec : ChangeSpec := { name := "traceOf", fn := fun _ => fun
  | [d1, d2, d3] => { results := [.lit (.bool true)], args := [d1, d2, d3] }
  | _ => none }
def traceOfRow : OpenClaim := { program := "ytjfigngmpagloaa", sum := "ebde391695b58321d7230969d861b755747ff4d2e614784d7358a2a81bf51671", func := "linhay/linhaylaw45.TraceOf", spec := "traceOf", inPlace := ["internal/bytealg.IndexByteString", "internal/bytealg.IndexString", "slices.overlaps[linhay/api.Ent]", "internal/abi.NoEscape", "internal/bytealg.MakeNoZero"], unfollowed := true, recurses := true, named := ["internal/bytealg.MaxLen"], apart := false }
def TraceOfSaid : Prop := traceOfRow.holds Try.pinned (OpenSpec.ofChange traceOfSpec)

/-- ITS FALSE NEIGHBOUR: 'it returns false'. Refute it at one input. -/
def traceOfWrong : ChangeSpec := { name := "traceOf", fn := fun _ => fun
  | [d1, d2, d3] => { results := [.lit (.bool false)], args := [d1, d2, d3] }
  | _ => none }
def TraceOfWrongFalsely : Prop := traceOfRow.holds Try.pinned (OpenSpec.ofChange traceOfWrong)

/-- 'linhaylaw09.PosixMoves': WHATEVER THE INPUT: true; the input reads as it did. -/
def posixMovesSpec : ChangeSpec := { name := "posixMoves", fn := fun _ => fun
  | [d1, d2, d3] => { results := [.lit (.bool true)], args := [d1, d2, d3] }
  | _ => none }
def posixMovesRow : OpenClaim := { program := "ytjfigngmpagloaa", sum := "ebde391695b58321d7230969d861b755747ff4d2e614784d7358a2a81bf51671", func := "linhay/linhaylaw09.PosixMoves", spec := "posixMoves", inPlace := ["internal/bytealg.IndexByteString", "internal/bytealg.IndexString", "slices.overlaps[linhay/api.Ent]"], unfollowed := true, recurses := true, named := ["internal/bytealg.MaxLen"], apart := false }
def PosixMovesSaid : Prop := posixMovesRow.holds Try.pinned (OpenSpec.ofChange posixMovesSpec)

/-- ITS FALSE NEIGHBOUR: 'it returns false'. Refute it at one input. -/
def posixMovesWrong : ChangeSpec := { name := "posixMoves", fn := fun _ => fun
  | [d1, d2, d3] => { results := [.lit (.bool false)], args := [d1, d2, d3] }
  | _ => none }
def PosixMovesWrongFalsely : Prop := posixMovesRow.holds Try.pinned (OpenSpec.ofChange posixMovesWrong)

/-- 'linhaylaw09.PosixNone': WHATEVER THE INPUT: true; the input reads as it did. -/
def posixNoneSpec : ChangeSpec := { name := "posixNone", fn := fun _ => fun
  | [d] => { results := [.lit (.bool true)], args := [d] }
  | _ => none }
def posixNoneRow : OpenClaim := { program := "ytjfigngmpagloaa", sum := "ebde391695b58321d7230969d861b755747ff4d2e614784d7358a2a81bf51671", func := "linhay/linhaylaw09.PosixNone", spec := "posixNone", inPlace := ["internal/bytealg.IndexByteString", "internal/bytealg.IndexString", "slices.overlaps[linhay/api.Ent]"], unfollowed := true, recurses := true, named := ["internal/bytealg.MaxLen"], apart := false }
def PosixNoneSaid : Prop := posixNoneRow.holds Try.pinned (OpenSpec.ofChange posixNoneSpec)

/-- ITS FALSE NEIGHBOUR: 'it returns false'. Refute it at one input. -/
def posixNoneWrong : ChangeSpec := { name := "posixNone", fn := fun _ => fun
  | [d] => { results := [.lit (.bool false)], args := [d] }
  | _ => none }
def PosixNoneWrongFalsely : Prop := posixNoneRow.holds Try.pinned (OpenSpec.ofChange posixNoneWrong)

/- THE SECOND FORM. 'bulk': how many values and letters a reading holds, each counted each time it is reached (what is shared counts as often as it is met; a slice's spare places count too). A statement '..UptoSaid' is the law's where the arguments, and the package variables that the reading takes, are together of bulk at most 1048576: NARROWER than '..Said'. Prove '..Said' where nothing that the law and all that it calls make is longer than what came in: it says more and counts as full. Else prove '..UptoSaid'. A law counts once. -/
mutual
def uptoBulk {H : Type} : DataW H → Nat
  | .lit (.string bytes) => bytes.length + 1
  | .lit _ => 1
  | .nil => 1
  | .ptr d => uptoBulk d + 1
  | .slice elems spare => uptoBulkAll elems + uptoBulkAll spare + 1
  | .agg parts => uptoBulkAll parts + 1
  | .iface _ d => uptoBulk d + 1
  | .map entries => uptoBulkEntries entries + 1
  | .held _ => 1
def uptoBulkAll {H : Type} : List (DataW H) → Nat
  | [] => 0
  | d :: r => uptoBulk d + uptoBulkAll r
def uptoBulkEntries {H : Type} : List (Lit × DataW H) → Nat
  | [] => 0
  | x :: r => uptoBulkEntry x + uptoBulkEntries r
def uptoBulkEntry {H : Type} : Lit × DataW H → Nat
  | (.string bytes, d) => bytes.length + uptoBulk d + 1
  | (_, d) => uptoBulk d + 1
 end
def uptoSmall : (H : Type) → List (DataW H) → Bool := fun _ ds => decide (uptoBulkAll ds ≤ 1048576)
def OpenSpec.upto (s : _root_.Go.ChangeSpec) : _root_.Go.OpenSpec := { _root_.Go.OpenSpec.ofChange s with cond := some uptoSmall }

/-- 'linhaylaw09.PosixAsks', WHERE WHAT IT READS IS OF BULK AT MOST 1048576: true; the input reads as it did. -/
def posixAsksUptoRow : OpenClaim := { program := "ytjfigngmpagloaa", sum := "ebde391695b58321d7230969d861b755747ff4d2e614784d7358a2a81bf51671", func := "linhay/linhaylaw09.PosixAsks", spec := "posixAsks", inPlace := ["internal/bytealg.IndexByteString", "internal/bytealg.IndexString", "slices.overlaps[linhay/api.Ent]"], unfollowed := true, recurses := true, named := ["internal/bytealg.MaxLen"], apart := false, narrowed := true }
def PosixAsksUptoSaid : Prop := posixAsksUptoRow.holds Try.pinned (OpenSpec.upto posixAsksSpec)

/-- 'linhaylaw08.SeekFinds', WHERE WHAT IT READS IS OF BULK AT MOST 1048576: true; the input reads as it did. -/
def seekFindsUptoRow : OpenClaim := { program := "ytjfigngmpagloaa", sum := "ebde391695b58321d7230969d861b755747ff4d2e614784d7358a2a81bf51671", func := "linhay/linhaylaw08.SeekFinds", spec := "seekFinds", inPlace := ["internal/bytealg.IndexByteString", "internal/bytealg.IndexString", "slices.overlaps[linhay/api.Ent]", "internal/abi.NoEscape", "internal/bytealg.MakeNoZero"], unfollowed := true, recurses := true, named := ["internal/bytealg.MaxLen"], apart := false, narrowed := true }
def SeekFindsUptoSaid : Prop := seekFindsUptoRow.holds Try.pinned (OpenSpec.upto seekFindsSpec)

/-- 'linhaylaw08.SeekReal', WHERE WHAT IT READS IS OF BULK AT MOST 1048576: true; the input reads as it did. -/
def seekRealUptoRow : OpenClaim := { program := "ytjfigngmpagloaa", sum := "ebde391695b58321d7230969d861b755747ff4d2e614784d7358a2a81bf51671", func := "linhay/linhaylaw08.SeekReal", spec := "seekReal", inPlace := ["internal/bytealg.IndexByteString", "internal/bytealg.IndexString", "slices.overlaps[linhay/api.Ent]", "internal/abi.NoEscape", "internal/bytealg.MakeNoZero"], unfollowed := true, recurses := true, named := ["internal/bytealg.MaxLen"], apart := false, narrowed := true }
def SeekRealUptoSaid : Prop := seekRealUptoRow.holds Try.pinned (OpenSpec.upto seekRealSpec)

/-- 'linhaylaw08.SeekNone', WHERE WHAT IT READS IS OF BULK AT MOST 1048576: true; the input reads as it did. -/
def seekNoneUptoRow : OpenClaim := { program := "ytjfigngmpagloaa", sum := "ebde391695b58321d7230969d861b755747ff4d2e614784d7358a2a81bf51671", func := "linhay/linhaylaw08.SeekNone", spec := "seekNone", inPlace := ["internal/bytealg.IndexByteString", "internal/bytealg.IndexString", "internal/abi.NoEscape", "internal/bytealg.MakeNoZero", "slices.overlaps[linhay/api.Ent]"], unfollowed := true, recurses := true, named := ["internal/bytealg.MaxLen"], apart := false, narrowed := true }
def SeekNoneUptoSaid : Prop := seekNoneUptoRow.holds Try.pinned (OpenSpec.upto seekNoneSpec)

/-- 'linhaylaw45.TraceOf', WHERE WHAT IT READS IS OF BULK AT MOST 1048576: true; the input reads as it did. -/
def traceOfUptoRow : OpenClaim := { program := "ytjfigngmpagloaa", sum := "ebde391695b58321d7230969d861b755747ff4d2e614784d7358a2a81bf51671", func := "linhay/linhaylaw45.TraceOf", spec := "traceOf", inPlace := ["internal/bytealg.IndexByteString", "internal/bytealg.IndexString", "slices.overlaps[linhay/api.Ent]", "internal/abi.NoEscape", "internal/bytealg.MakeNoZero"], unfollowed := true, recurses := true, named := ["internal/bytealg.MaxLen"], apart := false, narrowed := true }
def TraceOfUptoSaid : Prop := traceOfUptoRow.holds Try.pinned (OpenSpec.upto traceOfSpec)

/-- 'linhaylaw09.PosixMoves', WHERE WHAT IT READS IS OF BULK AT MOST 1048576: true; the input reads as it did. -/
def posixMovesUptoRow : OpenClaim := { program := "ytjfigngmpagloaa", sum := "ebde391695b58321d7230969d861b755747ff4d2e614784d7358a2a81bf51671", func := "linhay/linhaylaw09.PosixMoves", spec := "posixMoves", inPlace := ["internal/bytealg.IndexByteString", "internal/bytealg.IndexString", "slices.overlaps[linhay/api.Ent]"], unfollowed := true, recurses := true, named := ["internal/bytealg.MaxLen"], apart := false, narrowed := true }
def PosixMovesUptoSaid : Prop := posixMovesUptoRow.holds Try.pinned (OpenSpec.upto posixMovesSpec)

/-- 'linhaylaw09.PosixNone', WHERE WHAT IT READS IS OF BULK AT MOST 1048576: true; the input reads as it did. -/
def posixNoneUptoRow : OpenClaim := { program := "ytjfigngmpagloaa", sum := "ebde391695b58321d7230969d861b755747ff4d2e614784d7358a2a81bf51671", func := "linhay/linhaylaw09.PosixNone", spec := "posixNone", inPlace := ["internal/bytealg.IndexByteString", "internal/bytealg.IndexString", "slices.overlaps[linhay/api.Ent]"], unfollowed := true, recurses := true, named := ["internal/bytealg.MaxLen"], apart := false, narrowed := true }
def PosixNoneUptoSaid : Prop := posixNoneUptoRow.holds Try.pinned (OpenSpec.upto posixNoneSpec)

end Rows
end Go.Proofs.Ytjfigngmpagloaa
