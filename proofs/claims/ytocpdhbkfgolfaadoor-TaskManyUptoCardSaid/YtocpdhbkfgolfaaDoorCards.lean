/-
  DERIVED. GIVEN WITH THE SEED: THE CARDS: each row of YtocpdhbkfgolfaaDoorRows.lean that lists a variable, with what it lists TIED to the program's text (the seventh form; the later family's looks); each row that meets fmt, with fmt's text TOLD by the authors' own Lean function (tested against real Go, not proved from fmt's source: count such statements apart). THE CARD IS WHAT COUNTS. Prove the row's statement (the work); the ties are given (YtocpdhbkfgolfaaDoorTie.lean); close each card by the builder's one call (the guide's Derived/Test/ToyasCard.lean, 'card_holds'). Laid BY PROGRAM, IN A SANDBOX (cutbox-door.mjs). By AI agents, Wed Nov 11 2026. No macro, syntax, notation, axiom, sorry.
-/
import Derived.Test.YtocpdhbkfgolfaaDoorRows
import GoSem.ClaimSeven
namespace Go.Proofs.YtocpdhbkfgolfaaDoor
namespace Rows

/-- THE TIED CARD OF 'linhaylaw02.WordsSplit'. -/
def wordsSplitCard : Claim7 := { stood := { row := wordsSplitRow, standIns := [], harness := (true, "126e322a5dfe88a3b6b0e131d1427780bb332295d637b7d3bf0d36c72a377874"), looks := false }, kinds := [], alts := [], laidByText := true, laidKinds := [.data, .pinned], laidTests := true, laidLooks := .later }
def WordsSplitCardSaid : Prop := Claim7.holds Tryd.pinned (.plain (OpenSpec.ofChange wordsSplitSpec)) wordsSplitCard

/-- THE TIED CARD OF 'linhaylaw02.WordsJoin'. -/
def wordsJoinCard : Claim7 := { stood := { row := wordsJoinRow, standIns := [], harness := (true, "126e322a5dfe88a3b6b0e131d1427780bb332295d637b7d3bf0d36c72a377874"), looks := false }, kinds := [], alts := [], laidByText := true, laidKinds := [.data, .pinned], laidTests := true, laidLooks := .later }
def WordsJoinCardSaid : Prop := Claim7.holds Tryd.pinned (.plain (OpenSpec.ofChange wordsJoinSpec)) wordsJoinCard

/-- THE TIED CARD OF 'linhaylaw19.TaskParse'. -/
def taskParseCard : Claim7 := { stood := { row := taskParseRow, standIns := [], harness := (true, "126e322a5dfe88a3b6b0e131d1427780bb332295d637b7d3bf0d36c72a377874"), looks := false }, kinds := [], alts := [], laidByText := true, laidKinds := [.data, .data, .pinned], laidTests := true, laidLooks := .later }
def TaskParseCardSaid : Prop := Claim7.holds Tryd.pinned (.plain (OpenSpec.ofChange taskParseSpec)) taskParseCard

/-- THE TIED CARD OF 'linhaylaw19.TaskLines'. -/
def taskLinesCard : Claim7 := { stood := { row := taskLinesRow, standIns := [], harness := (true, "126e322a5dfe88a3b6b0e131d1427780bb332295d637b7d3bf0d36c72a377874"), looks := false }, kinds := [], alts := [], laidByText := true, laidKinds := [.data, .data, .pinned], laidTests := true, laidLooks := .later }
def TaskLinesCardSaid : Prop := Claim7.holds Tryd.pinned (.plain (OpenSpec.ofChange taskLinesSpec)) taskLinesCard

/-- THE TIED CARD OF 'linhaylaw19.TaskMany'. -/
def taskManyCard : Claim7 := { stood := { row := taskManyRow, standIns := [], harness := (true, "126e322a5dfe88a3b6b0e131d1427780bb332295d637b7d3bf0d36c72a377874"), looks := false }, kinds := [], alts := [], laidByText := true, laidKinds := [.data, .data, .pinned], laidTests := true, laidLooks := .later }
def TaskManyCardSaid : Prop := Claim7.holds Tryd.pinned (.plain (OpenSpec.ofChange taskManySpec)) taskManyCard

/-- THE TIED CARD OF 'linhaylaw11.RowsLines'. -/
def rowsLinesCard : Claim7 := { stood := { row := rowsLinesRow, standIns := [], harness := (true, "126e322a5dfe88a3b6b0e131d1427780bb332295d637b7d3bf0d36c72a377874"), looks := false }, kinds := [], alts := [], laidByText := true, laidKinds := [.data, .pinned], laidTests := true, laidLooks := .later }
def RowsLinesCardSaid : Prop := Claim7.holds Tryd.pinned (.plain (OpenSpec.ofChange rowsLinesSpec)) rowsLinesCard

/-- THE TIED CARD OF 'linhaylaw11.RowsParse'. -/
def rowsParseCard : Claim7 := { stood := { row := rowsParseRow, standIns := [], harness := (true, "126e322a5dfe88a3b6b0e131d1427780bb332295d637b7d3bf0d36c72a377874"), looks := false }, kinds := [], alts := [], laidByText := true, laidKinds := [.data, .pinned], laidTests := true, laidLooks := .later }
def RowsParseCardSaid : Prop := Claim7.holds Tryd.pinned (.plain (OpenSpec.ofChange rowsParseSpec)) rowsParseCard

/-- THE SECOND FORM's CARD OF 'linhaylaw02.WordsSplit'. -/
def wordsSplitUptoCard : Claim7 := { stood := { row := wordsSplitUptoRow, standIns := [], harness := (true, "126e322a5dfe88a3b6b0e131d1427780bb332295d637b7d3bf0d36c72a377874"), looks := false }, kinds := [], alts := [], laidByText := true, laidKinds := [.data, .pinned], laidTests := true, laidLooks := .later }
def WordsSplitUptoCardSaid : Prop := Claim7.holds Tryd.pinned (.plain (OpenSpec.upto wordsSplitSpec)) wordsSplitUptoCard

/-- THE SECOND FORM's CARD OF 'linhaylaw02.WordsJoin'. -/
def wordsJoinUptoCard : Claim7 := { stood := { row := wordsJoinUptoRow, standIns := [], harness := (true, "126e322a5dfe88a3b6b0e131d1427780bb332295d637b7d3bf0d36c72a377874"), looks := false }, kinds := [], alts := [], laidByText := true, laidKinds := [.data, .pinned], laidTests := true, laidLooks := .later }
def WordsJoinUptoCardSaid : Prop := Claim7.holds Tryd.pinned (.plain (OpenSpec.upto wordsJoinSpec)) wordsJoinUptoCard

/-- THE SECOND FORM's CARD OF 'linhaylaw19.TaskParse'. -/
def taskParseUptoCard : Claim7 := { stood := { row := taskParseUptoRow, standIns := [], harness := (true, "126e322a5dfe88a3b6b0e131d1427780bb332295d637b7d3bf0d36c72a377874"), looks := false }, kinds := [], alts := [], laidByText := true, laidKinds := [.data, .data, .pinned], laidTests := true, laidLooks := .later }
def TaskParseUptoCardSaid : Prop := Claim7.holds Tryd.pinned (.plain (OpenSpec.upto taskParseSpec)) taskParseUptoCard

/-- THE SECOND FORM's CARD OF 'linhaylaw19.TaskLines'. -/
def taskLinesUptoCard : Claim7 := { stood := { row := taskLinesUptoRow, standIns := [], harness := (true, "126e322a5dfe88a3b6b0e131d1427780bb332295d637b7d3bf0d36c72a377874"), looks := false }, kinds := [], alts := [], laidByText := true, laidKinds := [.data, .data, .pinned], laidTests := true, laidLooks := .later }
def TaskLinesUptoCardSaid : Prop := Claim7.holds Tryd.pinned (.plain (OpenSpec.upto taskLinesSpec)) taskLinesUptoCard

/-- THE SECOND FORM's CARD OF 'linhaylaw19.TaskMany'. -/
def taskManyUptoCard : Claim7 := { stood := { row := taskManyUptoRow, standIns := [], harness := (true, "126e322a5dfe88a3b6b0e131d1427780bb332295d637b7d3bf0d36c72a377874"), looks := false }, kinds := [], alts := [], laidByText := true, laidKinds := [.data, .data, .pinned], laidTests := true, laidLooks := .later }
def TaskManyUptoCardSaid : Prop := Claim7.holds Tryd.pinned (.plain (OpenSpec.upto taskManySpec)) taskManyUptoCard

/-- THE SECOND FORM's CARD OF 'linhaylaw11.RowsLines'. -/
def rowsLinesUptoCard : Claim7 := { stood := { row := rowsLinesUptoRow, standIns := [], harness := (true, "126e322a5dfe88a3b6b0e131d1427780bb332295d637b7d3bf0d36c72a377874"), looks := false }, kinds := [], alts := [], laidByText := true, laidKinds := [.data, .pinned], laidTests := true, laidLooks := .later }
def RowsLinesUptoCardSaid : Prop := Claim7.holds Tryd.pinned (.plain (OpenSpec.upto rowsLinesSpec)) rowsLinesUptoCard

/-- THE SECOND FORM's CARD OF 'linhaylaw11.RowsParse'. -/
def rowsParseUptoCard : Claim7 := { stood := { row := rowsParseUptoRow, standIns := [], harness := (true, "126e322a5dfe88a3b6b0e131d1427780bb332295d637b7d3bf0d36c72a377874"), looks := false }, kinds := [], alts := [], laidByText := true, laidKinds := [.data, .pinned], laidTests := true, laidLooks := .later }
def RowsParseUptoCardSaid : Prop := Claim7.holds Tryd.pinned (.plain (OpenSpec.upto rowsParseSpec)) rowsParseUptoCard
end Rows
end Go.Proofs.YtocpdhbkfgolfaaDoor
