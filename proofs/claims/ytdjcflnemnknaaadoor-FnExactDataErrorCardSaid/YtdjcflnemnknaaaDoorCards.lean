/-
  DERIVED. GIVEN WITH THE SEED: THE CARDS: each row of YtdjcflnemnknaaaDoorRows.lean that lists a variable, with what it lists TIED to the program's text (the seventh form; the later family's looks); each row that meets fmt, with fmt's text TOLD by the authors' own Lean function (tested against real Go, not proved from fmt's source: count such statements apart). THE CARD IS WHAT COUNTS. Prove the row's statement (the work); the ties are given (YtdjcflnemnknaaaDoorTie.lean); close each card by the builder's one call (the guide's Derived/Test/ToyasCard.lean, 'card_holds'). Laid BY PROGRAM, IN A SANDBOX (cutbox-door.mjs). By AI agents, Wed Nov 11 2026. No macro, syntax, notation, axiom, sorry.
-/
import Derived.Test.YtdjcflnemnknaaaDoorRows
import GoSem.ClaimSeven
namespace Go.Proofs.YtdjcflnemnknaaaDoor
namespace Rows

/-- THE TIED CARD OF 'laws.FnExactFormatCell'. -/
def fnExactFormatCellCard : Claim7 := { stood := { row := fnExactFormatCellRow, standIns := [], harness := (true, "d1f19570623459938fbd0e752fe048a6ac4ae8ad369fa73b706944cdc963572f"), looks := true }, kinds := [], alts := [], laidByText := true, laidKinds := [.data, .data, .data], laidTests := true, laidLooks := .later }
def FnExactFormatCellCardSaid : Prop := Claim7.holds Tryd.pinned (.plain (OpenSpec.ofChange fnExactFormatCellSpec)) fnExactFormatCellCard

/-- THE TIED CARD OF 'laws.FnExactFormatNotebook'. -/
def fnExactFormatNotebookCard : Claim7 := { stood := { row := fnExactFormatNotebookRow, standIns := [], harness := (true, "d1f19570623459938fbd0e752fe048a6ac4ae8ad369fa73b706944cdc963572f"), looks := true }, kinds := [], alts := [], laidByText := true, laidKinds := [.data, .data, .data], laidTests := true, laidLooks := .later }
def FnExactFormatNotebookCardSaid : Prop := Claim7.holds Tryd.pinned (.plain (OpenSpec.ofChange fnExactFormatNotebookSpec)) fnExactFormatNotebookCard

/-- THE TIED CARD OF 'laws.FnExactFormatData'. -/
def fnExactFormatDataCard : Claim7 := { stood := { row := fnExactFormatDataRow, standIns := [], harness := (true, "d1f19570623459938fbd0e752fe048a6ac4ae8ad369fa73b706944cdc963572f"), looks := true }, kinds := [], alts := [], laidByText := true, laidKinds := [.data, .data, .data], laidTests := true, laidLooks := .later }
def FnExactFormatDataCardSaid : Prop := Claim7.holds Tryd.pinned (.plain (OpenSpec.ofChange fnExactFormatDataSpec)) fnExactFormatDataCard

/-- THE TIED CARD OF 'laws.FnExactParseCell'. -/
def fnExactParseCellCard : Claim7 := { stood := { row := fnExactParseCellRow, standIns := [], harness := (true, "d1f19570623459938fbd0e752fe048a6ac4ae8ad369fa73b706944cdc963572f"), looks := true }, kinds := [], alts := [], laidByText := true, laidKinds := [.data, .data, .data, .data, .sentinel, .sentinel, .pinned], laidTests := true, laidLooks := .later }
def FnExactParseCellCardSaid : Prop := Claim7.holds Tryd.pinned (.plain (OpenSpec.ofChange fnExactParseCellSpec)) fnExactParseCellCard

/-- THE TIED CARD OF 'laws.FnExactDataError'. -/
def fnExactDataErrorCard : Claim7 := { stood := { row := fnExactDataErrorRow, standIns := [], harness := (true, "d1f19570623459938fbd0e752fe048a6ac4ae8ad369fa73b706944cdc963572f"), looks := true }, kinds := [], alts := [], laidByText := true, laidKinds := [.data, .data, .data, .data, .sentinel, .sentinel, .pinned], laidTests := true, laidLooks := .later }
def FnExactDataErrorCardSaid : Prop := Claim7.holds Tryd.pinned (.plain (OpenSpec.ofChange fnExactDataErrorSpec)) fnExactDataErrorCard

/-- THE TIED CARD OF 'laws.FnExactParseNotebook'. -/
def fnExactParseNotebookCard : Claim7 := { stood := { row := fnExactParseNotebookRow, standIns := [], harness := (true, "d1f19570623459938fbd0e752fe048a6ac4ae8ad369fa73b706944cdc963572f"), looks := true }, kinds := [], alts := [], laidByText := true, laidKinds := [.data, .data, .data, .data, .sentinel, .sentinel, .pinned], laidTests := true, laidLooks := .later }
def FnExactParseNotebookCardSaid : Prop := Claim7.holds Tryd.pinned (.plain (OpenSpec.ofChange fnExactParseNotebookSpec)) fnExactParseNotebookCard

/-- THE SECOND FORM's CARD OF 'laws.FnExactFormatCell'. -/
def fnExactFormatCellUptoCard : Claim7 := { stood := { row := fnExactFormatCellUptoRow, standIns := [], harness := (true, "d1f19570623459938fbd0e752fe048a6ac4ae8ad369fa73b706944cdc963572f"), looks := true }, kinds := [], alts := [], laidByText := true, laidKinds := [.data, .data, .data], laidTests := true, laidLooks := .later }
def FnExactFormatCellUptoCardSaid : Prop := Claim7.holds Tryd.pinned (.plain (OpenSpec.upto fnExactFormatCellSpec)) fnExactFormatCellUptoCard

/-- THE SECOND FORM's CARD OF 'laws.FnExactFormatNotebook'. -/
def fnExactFormatNotebookUptoCard : Claim7 := { stood := { row := fnExactFormatNotebookUptoRow, standIns := [], harness := (true, "d1f19570623459938fbd0e752fe048a6ac4ae8ad369fa73b706944cdc963572f"), looks := true }, kinds := [], alts := [], laidByText := true, laidKinds := [.data, .data, .data], laidTests := true, laidLooks := .later }
def FnExactFormatNotebookUptoCardSaid : Prop := Claim7.holds Tryd.pinned (.plain (OpenSpec.upto fnExactFormatNotebookSpec)) fnExactFormatNotebookUptoCard

/-- THE SECOND FORM's CARD OF 'laws.FnExactFormatData'. -/
def fnExactFormatDataUptoCard : Claim7 := { stood := { row := fnExactFormatDataUptoRow, standIns := [], harness := (true, "d1f19570623459938fbd0e752fe048a6ac4ae8ad369fa73b706944cdc963572f"), looks := true }, kinds := [], alts := [], laidByText := true, laidKinds := [.data, .data, .data], laidTests := true, laidLooks := .later }
def FnExactFormatDataUptoCardSaid : Prop := Claim7.holds Tryd.pinned (.plain (OpenSpec.upto fnExactFormatDataSpec)) fnExactFormatDataUptoCard

/-- THE SECOND FORM's CARD OF 'laws.FnExactParseCell'. -/
def fnExactParseCellUptoCard : Claim7 := { stood := { row := fnExactParseCellUptoRow, standIns := [], harness := (true, "d1f19570623459938fbd0e752fe048a6ac4ae8ad369fa73b706944cdc963572f"), looks := true }, kinds := [], alts := [], laidByText := true, laidKinds := [.data, .data, .data, .data, .sentinel, .sentinel, .pinned], laidTests := true, laidLooks := .later }
def FnExactParseCellUptoCardSaid : Prop := Claim7.holds Tryd.pinned (.plain (OpenSpec.upto fnExactParseCellSpec)) fnExactParseCellUptoCard

/-- THE SECOND FORM's CARD OF 'laws.FnExactDataError'. -/
def fnExactDataErrorUptoCard : Claim7 := { stood := { row := fnExactDataErrorUptoRow, standIns := [], harness := (true, "d1f19570623459938fbd0e752fe048a6ac4ae8ad369fa73b706944cdc963572f"), looks := true }, kinds := [], alts := [], laidByText := true, laidKinds := [.data, .data, .data, .data, .sentinel, .sentinel, .pinned], laidTests := true, laidLooks := .later }
def FnExactDataErrorUptoCardSaid : Prop := Claim7.holds Tryd.pinned (.plain (OpenSpec.upto fnExactDataErrorSpec)) fnExactDataErrorUptoCard

/-- THE SECOND FORM's CARD OF 'laws.FnExactParseNotebook'. -/
def fnExactParseNotebookUptoCard : Claim7 := { stood := { row := fnExactParseNotebookUptoRow, standIns := [], harness := (true, "d1f19570623459938fbd0e752fe048a6ac4ae8ad369fa73b706944cdc963572f"), looks := true }, kinds := [], alts := [], laidByText := true, laidKinds := [.data, .data, .data, .data, .sentinel, .sentinel, .pinned], laidTests := true, laidLooks := .later }
def FnExactParseNotebookUptoCardSaid : Prop := Claim7.holds Tryd.pinned (.plain (OpenSpec.upto fnExactParseNotebookSpec)) fnExactParseNotebookUptoCard
end Rows
end Go.Proofs.YtdjcflnemnknaaaDoor
