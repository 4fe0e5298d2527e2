/-
  NARROWER THAN 'FOR EVERY INPUT', by the rows' own cells (each row's printed sentence says how): WordsSplit: laid · WordsJoin: laid · TaskParse: laid · TaskLines: laid · TaskMany: laid · RowsLines: laid · RowsParse: laid.
  DERIVED. THE GIVEN ROWS OF THIS SEAT. 7 by the template 'for every input the law returns true; each argument reads behind the call as it read before'; 0 by the template 'total and deterministic' (their statements: YtocpdhbkfgolfaaDoorTotals.lean).
  GIVEN WITH THE SEED: the statements are not yours to turn. If you find one false, say at which input.
  Laid BY PROGRAM, IN A SANDBOX (cutbox-rows.mjs): the forced cells as the released guide's own fill.sh prints them over the translation 8141d5896adf1a5c… (all of the seat's roots in one cut). By AI agents, Wed Nov 11 2026. No macro, syntax, notation, axiom, sorry.
-/
import Derived.Test.YtocpdhbkfgolfaaDoorChecked
import GoSem.PinnedTables
import GoSem.Claim
import GoSem.ClaimJoined
import GoSem.ClaimMapViews
import Derived.JoinedTies
import Derived.KernelRfl
namespace Go.Proofs.YtocpdhbkfgolfaaDoor
/- THE CELL 'sum', in the pinned program and in every row, IS THE sha256 OF THE DUMP (.gsa) THAT YtocpdhbkfgolfaaDoorProg.lean LOADS. Nothing in Lean hashes anything: it is a label: what it is worth is what the hold of that sum in a sandbox is worth. -/
noncomputable def Tryd.pinned : Pinned := { name := "ytocpdhbkfgolfaadoor", sum := "8141d5896adf1a5c55cb1fb46f32a5ec090d8b13528716adeb2c84d8a74e34f8", checked := Tryd.checked }
namespace Rows
def none {H : Type} : Left H := { results := [], args := [] }

/- WHAT THE LISTED PACKAGE-LEVEL VARIABLES READ AS WHEN THE CALL BEGINS. Each datum BY PROGRAM (the guide's laid-datum.mjs) off the statement by which the dump's own 'gosem.cut.vars' lays the variable. In a bare row this is a premise. The card (YtocpdhbkfgolfaaDoorCards.lean) ties it to the program's text. -/
def laid_unicode_utf8_acceptRanges {H : Type} : DataW H := .agg [.agg [.lit (.int .u8 128), .lit (.int .u8 191)], .agg [.lit (.int .u8 160), .lit (.int .u8 191)], .agg [.lit (.int .u8 128), .lit (.int .u8 159)], .agg [.lit (.int .u8 144), .lit (.int .u8 191)], .agg [.lit (.int .u8 128), .lit (.int .u8 143)], .agg [.lit (.int .u8 0), .lit (.int .u8 0)], .agg [.lit (.int .u8 0), .lit (.int .u8 0)], .agg [.lit (.int .u8 0), .lit (.int .u8 0)], .agg [.lit (.int .u8 0), .lit (.int .u8 0)], .agg [.lit (.int .u8 0), .lit (.int .u8 0)], .agg [.lit (.int .u8 0), .lit (.int .u8 0)], .agg [.lit (.int .u8 0), .lit (.int .u8 0)], .agg [.lit (.int .u8 0), .lit (.int .u8 0)], .agg [.lit (.int .u8 0), .lit (.int .u8 0)], .agg [.lit (.int .u8 0), .lit (.int .u8 0)], .agg [.lit (.int .u8 0), .lit (.int .u8 0)]]
/-- One of Go's own tables, pinned by name: the form's constant. -/
def laid_unicode_utf8_first : DataW Unit := Go.Pinned.utf8First
def laid_linhay_task_verbs {H : Type} : DataW H := .agg [.lit (.string []), .lit (.string [109, 107, 100, 105, 114]), .lit (.string [114, 109, 100, 105, 114]), .lit (.string [108, 105, 110, 107]), .lit (.string [117, 110, 108, 105, 110, 107]), .lit (.string [109, 111, 118, 101]), .lit (.string [119, 114, 105, 116, 101])]

/-- 'linhaylaw02.WordsSplit': WHATEVER THE INPUT: true; the input reads as it did. -/
def wordsSplitSpec : ChangeSpec := { name := "wordsSplit", fn := fun _ => fun
  | [d] => { results := [.lit (.bool true)], args := [d] }
  | _ => none }
def wordsSplitRow : OpenClaim := { program := "ytocpdhbkfgolfaadoor", sum := "8141d5896adf1a5c55cb1fb46f32a5ec090d8b13528716adeb2c84d8a74e34f8", func := "linhay/linhaylaw02.WordsSplit", spec := "wordsSplit", inPlace := ["internal/bytealg.IndexByteString", "internal/bytealg.IndexString", "internal/bytealg.CountString", "internal/abi.NoEscape", "internal/bytealg.MakeNoZero"], named := ["internal/bytealg.MaxLen", "unicode/utf8.first", "unicode/utf8.acceptRanges"], apart := false, laid := [("unicode/utf8.acceptRanges", laid_unicode_utf8_acceptRanges), ("unicode/utf8.first", laid_unicode_utf8_first)] }
def WordsSplitSaid : Prop := wordsSplitRow.holds Tryd.pinned (OpenSpec.ofChange wordsSplitSpec)

/-- ITS FALSE NEIGHBOUR: 'it returns false'. Refute it at one input. -/
def wordsSplitWrong : ChangeSpec := { name := "wordsSplit", fn := fun _ => fun
  | [d] => { results := [.lit (.bool false)], args := [d] }
  | _ => none }
def WordsSplitWrongFalsely : Prop := wordsSplitRow.holds Tryd.pinned (OpenSpec.ofChange wordsSplitWrong)

/-- 'linhaylaw02.WordsJoin': WHATEVER THE INPUT: true; the input reads as it did. -/
def wordsJoinSpec : ChangeSpec := { name := "wordsJoin", fn := fun _ => fun
  | [d] => { results := [.lit (.bool true)], args := [d] }
  | _ => none }
def wordsJoinRow : OpenClaim := { program := "ytocpdhbkfgolfaadoor", sum := "8141d5896adf1a5c55cb1fb46f32a5ec090d8b13528716adeb2c84d8a74e34f8", func := "linhay/linhaylaw02.WordsJoin", spec := "wordsJoin", inPlace := ["internal/bytealg.IndexByteString", "internal/bytealg.IndexString", "internal/bytealg.CountString", "internal/abi.NoEscape", "internal/bytealg.MakeNoZero"], named := ["internal/bytealg.MaxLen", "unicode/utf8.first", "unicode/utf8.acceptRanges"], apart := false, laid := [("unicode/utf8.acceptRanges", laid_unicode_utf8_acceptRanges), ("unicode/utf8.first", laid_unicode_utf8_first)] }
def WordsJoinSaid : Prop := wordsJoinRow.holds Tryd.pinned (OpenSpec.ofChange wordsJoinSpec)

/-- ITS FALSE NEIGHBOUR: 'it returns false'. Refute it at one input. -/
def wordsJoinWrong : ChangeSpec := { name := "wordsJoin", fn := fun _ => fun
  | [d] => { results := [.lit (.bool false)], args := [d] }
  | _ => none }
def WordsJoinWrongFalsely : Prop := wordsJoinRow.holds Tryd.pinned (OpenSpec.ofChange wordsJoinWrong)

/-- 'linhaylaw19.TaskParse': WHATEVER THE INPUT: true; the input reads as it did. -/
def taskParseSpec : ChangeSpec := { name := "taskParse", fn := fun _ => fun
  | [d] => { results := [.lit (.bool true)], args := [d] }
  | _ => none }
def taskParseRow : OpenClaim := { program := "ytocpdhbkfgolfaadoor", sum := "8141d5896adf1a5c55cb1fb46f32a5ec090d8b13528716adeb2c84d8a74e34f8", func := "linhay/linhaylaw19.TaskParse", spec := "taskParse", inPlace := ["internal/bytealg.CountString", "internal/bytealg.IndexByteString", "internal/bytealg.IndexString", "internal/abi.NoEscape", "internal/bytealg.MakeNoZero"], unfollowed := true, recurses := true, named := ["unicode/utf8.first", "unicode/utf8.acceptRanges", "internal/bytealg.MaxLen", "linhay/task.verbs"], apart := false, laid := [("unicode/utf8.acceptRanges", laid_unicode_utf8_acceptRanges), ("linhay/task.verbs", laid_linhay_task_verbs), ("unicode/utf8.first", laid_unicode_utf8_first)] }
def TaskParseSaid : Prop := taskParseRow.holds Tryd.pinned (OpenSpec.ofChange taskParseSpec)

/-- ITS FALSE NEIGHBOUR: 'it returns false'. Refute it at one input. -/
def taskParseWrong : ChangeSpec := { name := "taskParse", fn := fun _ => fun
  | [d] => { results := [.lit (.bool false)], args := [d] }
  | _ => none }
def TaskParseWrongFalsely : Prop := taskParseRow.holds Tryd.pinned (OpenSpec.ofChange taskParseWrong)

/-- 'linhaylaw19.TaskLines': WHATEVER THE INPUT: true; the input reads as it did. -/
def taskLinesSpec : ChangeSpec := { name := "taskLines", fn := fun _ => fun
  | [d] => { results := [.lit (.bool true)], args := [d] }
  | _ => none }
def taskLinesRow : OpenClaim := { program := "ytocpdhbkfgolfaadoor", sum := "8141d5896adf1a5c55cb1fb46f32a5ec090d8b13528716adeb2c84d8a74e34f8", func := "linhay/linhaylaw19.TaskLines", spec := "taskLines", inPlace := ["internal/bytealg.CountString", "internal/bytealg.IndexByteString", "internal/bytealg.IndexString", "internal/abi.NoEscape", "internal/bytealg.MakeNoZero"], unfollowed := true, recurses := true, named := ["unicode/utf8.first", "unicode/utf8.acceptRanges", "internal/bytealg.MaxLen", "linhay/task.verbs"], apart := false, laid := [("unicode/utf8.acceptRanges", laid_unicode_utf8_acceptRanges), ("linhay/task.verbs", laid_linhay_task_verbs), ("unicode/utf8.first", laid_unicode_utf8_first)] }
def TaskLinesSaid : Prop := taskLinesRow.holds Tryd.pinned (OpenSpec.ofChange taskLinesSpec)

/-- ITS FALSE NEIGHBOUR: 'it returns false'. Refute it at one input. -/
def taskLinesWrong : ChangeSpec := { name := "taskLines", fn := fun _ => fun
  | [d] => { results := [.lit (.bool false)], args := [d] }
  | _ => none }
def TaskLinesWrongFalsely : Prop := taskLinesRow.holds Tryd.pinned (OpenSpec.ofChange taskLinesWrong)

/-- 'linhaylaw19.TaskMany': WHATEVER THE INPUT: true; the input reads as it did. -/
def taskManySpec : ChangeSpec := { name := "taskMany", fn := fun _ => fun
  | [d1, d2] => { results := [.lit (.bool true)], args := [d1, d2] }
  | _ => none }
def taskManyRow : OpenClaim := { program := "ytocpdhbkfgolfaadoor", sum := "8141d5896adf1a5c55cb1fb46f32a5ec090d8b13528716adeb2c84d8a74e34f8", func := "linhay/linhaylaw19.TaskMany", spec := "taskMany", inPlace := ["internal/bytealg.CountString", "internal/bytealg.IndexByteString", "internal/bytealg.IndexString", "internal/abi.NoEscape", "internal/bytealg.MakeNoZero"], unfollowed := true, recurses := true, named := ["unicode/utf8.first", "unicode/utf8.acceptRanges", "internal/bytealg.MaxLen", "linhay/task.verbs"], apart := false, laid := [("unicode/utf8.acceptRanges", laid_unicode_utf8_acceptRanges), ("linhay/task.verbs", laid_linhay_task_verbs), ("unicode/utf8.first", laid_unicode_utf8_first)] }
def TaskManySaid : Prop := taskManyRow.holds Tryd.pinned (OpenSpec.ofChange taskManySpec)

/-- ITS FALSE NEIGHBOUR: 'it returns false'. Refute it at one input. -/
def taskManyWrong : ChangeSpec := { name := "taskMany", fn := fun _ => fun
  | [d1, d2] => { results := [.lit (.bool false)], args := [d1, d2] }
  | _ => none }
def TaskManyWrongFalsely : Prop := taskManyRow.holds Tryd.pinned (OpenSpec.ofChange taskManyWrong)

/-- 'linhaylaw11.RowsLines': WHATEVER THE INPUT: true; the input reads as it did. -/
def rowsLinesSpec : ChangeSpec := { name := "rowsLines", fn := fun _ => fun
  | [d] => { results := [.lit (.bool true)], args := [d] }
  | _ => none }
def rowsLinesRow : OpenClaim := { program := "ytocpdhbkfgolfaadoor", sum := "8141d5896adf1a5c55cb1fb46f32a5ec090d8b13528716adeb2c84d8a74e34f8", func := "linhay/linhaylaw11.RowsLines", spec := "rowsLines", inPlace := ["internal/bytealg.IndexByteString", "internal/bytealg.IndexString", "internal/abi.NoEscape", "internal/bytealg.MakeNoZero", "internal/bytealg.CountString"], unfollowed := true, recurses := true, named := ["internal/bytealg.MaxLen", "unicode/utf8.first", "unicode/utf8.acceptRanges"], apart := false, laid := [("unicode/utf8.acceptRanges", laid_unicode_utf8_acceptRanges), ("unicode/utf8.first", laid_unicode_utf8_first)] }
def RowsLinesSaid : Prop := rowsLinesRow.holds Tryd.pinned (OpenSpec.ofChange rowsLinesSpec)

/-- ITS FALSE NEIGHBOUR: 'it returns false'. Refute it at one input. -/
def rowsLinesWrong : ChangeSpec := { name := "rowsLines", fn := fun _ => fun
  | [d] => { results := [.lit (.bool false)], args := [d] }
  | _ => none }
def RowsLinesWrongFalsely : Prop := rowsLinesRow.holds Tryd.pinned (OpenSpec.ofChange rowsLinesWrong)

/-- 'linhaylaw11.RowsParse': WHATEVER THE INPUT: true; the input reads as it did. -/
def rowsParseSpec : ChangeSpec := { name := "rowsParse", fn := fun _ => fun
  | [d] => { results := [.lit (.bool true)], args := [d] }
  | _ => none }
def rowsParseRow : OpenClaim := { program := "ytocpdhbkfgolfaadoor", sum := "8141d5896adf1a5c55cb1fb46f32a5ec090d8b13528716adeb2c84d8a74e34f8", func := "linhay/linhaylaw11.RowsParse", spec := "rowsParse", inPlace := ["internal/bytealg.IndexByteString", "internal/bytealg.IndexString", "internal/abi.NoEscape", "internal/bytealg.MakeNoZero", "internal/bytealg.CountString"], unfollowed := true, recurses := true, named := ["internal/bytealg.MaxLen", "unicode/utf8.first", "unicode/utf8.acceptRanges"], apart := false, laid := [("unicode/utf8.acceptRanges", laid_unicode_utf8_acceptRanges), ("unicode/utf8.first", laid_unicode_utf8_first)] }
def RowsParseSaid : Prop := rowsParseRow.holds Tryd.pinned (OpenSpec.ofChange rowsParseSpec)

/-- ITS FALSE NEIGHBOUR: 'it returns false'. Refute it at one input. -/
def rowsParseWrong : ChangeSpec := { name := "rowsParse", fn := fun _ => fun
  | [d] => { results := [.lit (.bool false)], args := [d] }
  | _ => none }
def RowsParseWrongFalsely : Prop := rowsParseRow.holds Tryd.pinned (OpenSpec.ofChange rowsParseWrong)

/- THE SECOND FORM. 'bulk': how many values and letters a reading holds, each counted each time it is reached (what is shared counts as often as it is met; a slice's spare places count too). A statement '..UptoSaid' is the law's where the arguments, and the package variables that the reading takes, are together of bulk at most 1048576: NARROWER than '..Said'. Prove '..Said' where nothing that the law and all that it calls make is longer than what came in: it says more and counts as full. Else prove '..UptoSaid'. A law counts once. -/
mutual
def uptoBulk {H : Type} : DataW H → Nat
  | .lit (.string bytes) => bytes.length + 1
  | .lit _ => 1
  | .nil => 1
  | .ptr d => uptoBulk d + 1
  | .slice elems spare => uptoBulkAll elems + uptoBulkAll spare + 1
  | .agg parts => uptoBulkAll parts + 1
  | .iface _ d => uptoBulk d + 1
  | .map entries => uptoBulkEntries entries + 1
  | .held _ => 1
def uptoBulkAll {H : Type} : List (DataW H) → Nat
  | [] => 0
  | d :: r => uptoBulk d + uptoBulkAll r
def uptoBulkEntries {H : Type} : List (Lit × DataW H) → Nat
  | [] => 0
  | x :: r => uptoBulkEntry x + uptoBulkEntries r
def uptoBulkEntry {H : Type} : Lit × DataW H → Nat
  | (.string bytes, d) => bytes.length + uptoBulk d + 1
  | (_, d) => uptoBulk d + 1
 end
def uptoSmall : (H : Type) → List (DataW H) → Bool := fun _ ds => decide (uptoBulkAll ds ≤ 1048576)
def OpenSpec.upto (s : _root_.Go.ChangeSpec) : _root_.Go.OpenSpec := { _root_.Go.OpenSpec.ofChange s with cond := some uptoSmall }

/-- 'linhaylaw02.WordsSplit', WHERE WHAT IT READS IS OF BULK AT MOST 1048576: true; the input reads as it did. -/
def wordsSplitUptoRow : OpenClaim := { program := "ytocpdhbkfgolfaadoor", sum := "8141d5896adf1a5c55cb1fb46f32a5ec090d8b13528716adeb2c84d8a74e34f8", func := "linhay/linhaylaw02.WordsSplit", spec := "wordsSplit", inPlace := ["internal/bytealg.IndexByteString", "internal/bytealg.IndexString", "internal/bytealg.CountString", "internal/abi.NoEscape", "internal/bytealg.MakeNoZero"], named := ["internal/bytealg.MaxLen", "unicode/utf8.first", "unicode/utf8.acceptRanges"], apart := false, laid := [("unicode/utf8.acceptRanges", laid_unicode_utf8_acceptRanges), ("unicode/utf8.first", laid_unicode_utf8_first)], narrowed := true }
def WordsSplitUptoSaid : Prop := wordsSplitUptoRow.holds Tryd.pinned (OpenSpec.upto wordsSplitSpec)

/-- 'linhaylaw02.WordsJoin', WHERE WHAT IT READS IS OF BULK AT MOST 1048576: true; the input reads as it did. -/
def wordsJoinUptoRow : OpenClaim := { program := "ytocpdhbkfgolfaadoor", sum := "8141d5896adf1a5c55cb1fb46f32a5ec090d8b13528716adeb2c84d8a74e34f8", func := "linhay/linhaylaw02.WordsJoin", spec := "wordsJoin", inPlace := ["internal/bytealg.IndexByteString", "internal/bytealg.IndexString", "internal/bytealg.CountString", "internal/abi.NoEscape", "internal/bytealg.MakeNoZero"], named := ["internal/bytealg.MaxLen", "unicode/utf8.first", "unicode/utf8.acceptRanges"], apart := false, laid := [("unicode/utf8.acceptRanges", laid_unicode_utf8_acceptRanges), ("unicode/utf8.first", laid_unicode_utf8_first)], narrowed := true }
def WordsJoinUptoSaid : Prop := wordsJoinUptoRow.holds Tryd.pinned (OpenSpec.upto wordsJoinSpec)

/-- 'linhaylaw19.TaskParse', WHERE WHAT IT READS IS OF BULK AT MOST 1048576: true; the input reads as it did. -/
def taskParseUptoRow : OpenClaim := { program := "ytocpdhbkfgolfaadoor", sum := "8141d5896adf1a5c55cb1fb46f32a5ec090d8b13528716adeb2c84d8a74e34f8", func := "linhay/linhaylaw19.TaskParse", spec := "taskParse", inPlace := ["internal/bytealg.CountString", "internal/bytealg.IndexByteString", "internal/bytealg.IndexString", "internal/abi.NoEscape", "internal/bytealg.MakeNoZero"], unfollowed := true, recurses := true, named := ["unicode/utf8.first", "unicode/utf8.acceptRanges", "internal/bytealg.MaxLen", "linhay/task.verbs"], apart := false, laid := [("unicode/utf8.acceptRanges", laid_unicode_utf8_acceptRanges), ("linhay/task.verbs", laid_linhay_task_verbs), ("unicode/utf8.first", laid_unicode_utf8_first)], narrowed := true }
def TaskParseUptoSaid : Prop := taskParseUptoRow.holds Tryd.pinned (OpenSpec.upto taskParseSpec)

/-- 'linhaylaw19.TaskLines', WHERE WHAT IT READS IS OF BULK AT MOST 1048576: true; the input reads as it did. -/
def taskLinesUptoRow : OpenClaim := { program := "ytocpdhbkfgolfaadoor", sum := "8141d5896adf1a5c55cb1fb46f32a5ec090d8b13528716adeb2c84d8a74e34f8", func := "linhay/linhaylaw19.TaskLines", spec := "taskLines", inPlace := ["internal/bytealg.CountString", "internal/bytealg.IndexByteString", "internal/bytealg.IndexString", "internal/abi.NoEscape", "internal/bytealg.MakeNoZero"], unfollowed := true, recurses := true, named := ["unicode/utf8.first", "unicode/utf8.acceptRanges", "internal/bytealg.MaxLen", "linhay/task.verbs"], apart := false, laid := [("unicode/utf8.acceptRanges", laid_unicode_utf8_acceptRanges), ("linhay/task.verbs", laid_linhay_task_verbs), ("unicode/utf8.first", laid_unicode_utf8_first)], narrowed := true }
def TaskLinesUptoSaid : Prop := taskLinesUptoRow.holds Tryd.pinned (OpenSpec.upto taskLinesSpec)

/-- 'linhaylaw19.TaskMany', WHERE WHAT IT READS IS OF BULK AT MOST 1048576: true; the input reads as it did. -/
def taskManyUptoRow : OpenClaim := { program := "ytocpdhbkfgolfaadoor", sum := "8141d5896adf1a5c55cb1fb46f32a5ec090d8b13528716adeb2c84d8a74e34f8", func := "linhay/linhaylaw19.TaskMany", spec := "taskMany", inPlace := ["internal/bytealg.CountString", "internal/bytealg.IndexByteString", "internal/bytealg.IndexString", "internal/abi.NoEscape", "internal/bytealg.MakeNoZero"], unfollowed := true, recurses := true, named := ["unicode/utf8.first", "unicode/utf8.acceptRanges", "internal/bytealg.MaxLen", "linhay/task.verbs"], apart := false, laid := [("unicode/utf8.acceptRanges", laid_unicode_utf8_acceptRanges), ("linhay/task.verbs", laid_linhay_task_verbs), ("unicode/utf8.first", laid_unicode_utf8_first)], narrowed := true }
def TaskManyUptoSaid : Prop := taskManyUptoRow.holds Tryd.pinned (OpenSpec.upto taskManySpec)

/-- 'linhaylaw11.RowsLines', WHERE WHAT IT READS IS OF BULK AT MOST 1048576: true; the input reads as it did. -/
def rowsLinesUptoRow : OpenClaim := { program := "ytocpdhbkfgolfaadoor", sum := "8141d5896adf1a5c55cb1fb46f32a5ec090d8b13528716adeb2c84d8a74e34f8", func := "linhay/linhaylaw11.RowsLines", spec := "rowsLines", inPlace := ["internal/bytealg.IndexByteString", "internal/bytealg.IndexString", "internal/abi.NoEscape", "internal/bytealg.MakeNoZero", "internal/bytealg.CountString"], unfollowed := true, recurses := true, named := ["internal/bytealg.MaxLen", "unicode/utf8.first", "unicode/utf8.acceptRanges"], apart := false, laid := [("unicode/utf8.acceptRanges", laid_unicode_utf8_acceptRanges), ("unicode/utf8.first", laid_unicode_utf8_first)], narrowed := true }
def RowsLinesUptoSaid : Prop := rowsLinesUptoRow.holds Tryd.pinned (OpenSpec.upto rowsLinesSpec)

/-- 'linhaylaw11.RowsParse', WHERE WHAT IT READS IS OF BULK AT MOST 1048576: true; the input reads as it did. -/
def rowsParseUptoRow : OpenClaim := { program := "ytocpdhbkfgolfaadoor", sum := "8141d5896adf1a5c55cb1fb46f32a5ec090d8b13528716adeb2c84d8a74e34f8", func := "linhay/linhaylaw11.RowsParse", spec := "rowsParse", inPlace := ["internal/bytealg.IndexByteString", "internal/bytealg.IndexString", "internal/abi.NoEscape", "internal/bytealg.MakeNoZero", "internal/bytealg.CountString"], unfollowed := true, recurses := true, named := ["internal/bytealg.MaxLen", "unicode/utf8.first", "unicode/utf8.acceptRanges"], apart := false, laid := [("unicode/utf8.acceptRanges", laid_unicode_utf8_acceptRanges), ("unicode/utf8.first", laid_unicode_utf8_first)], narrowed := true }
def RowsParseUptoSaid : Prop := rowsParseUptoRow.holds Tryd.pinned (OpenSpec.upto rowsParseSpec)

end Rows
end Go.Proofs.YtocpdhbkfgolfaaDoor
