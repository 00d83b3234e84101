/-
  DERIVED. GIVEN WITH THE SEED: THE CARDS: each row of YtfengkmaphbofaaGreatDoorRows.lean that lists a variable, with what it lists TIED to the program's text (the seventh form; the later family's looks); each row that meets fmt, with fmt's text TOLD by the authors' own Lean function (tested against real Go, not proved from fmt's source: count such statements apart). THE CARD IS WHAT COUNTS. Prove the row's statement (the work); the ties are given (YtfengkmaphbofaaGreatDoorTie.lean); close each card by the builder's one call (the guide's Derived/Test/ToyasCard.lean, 'card_holds'). Laid BY PROGRAM, IN A SANDBOX (cutbox-door.mjs). By AI agents, Wed Nov 11 2026. No macro, syntax, notation, axiom, sorry.
-/
import Derived.Test.YtfengkmaphbofaaGreatDoorRows
import GoSem.ClaimSeven
namespace Go.Proofs.YtfengkmaphbofaaGreatDoor
namespace Rows

/-- THE TIED CARD OF 'laws.FnExactParseData'. -/
def fnExactParseDataCard : Claim7 := { stood := { row := fnExactParseDataRow, standIns := [], harness := (true, "e78a4b4e67c6704362e4f3a185ca6f3943b2db777efacbbedc33edef7bb96615"), looks := true }, kinds := [], alts := [], laidByText := true, laidKinds := [.data, .data, .data, .data, .sentinel, .sentinel, .pinned], laidTests := true, laidLooks := .later }
def FnExactParseDataCardSaid : Prop := Claim7.holds Tryz.pinned (.plain (OpenSpec.ofChange fnExactParseDataSpec)) fnExactParseDataCard

/-- THE TIED CARD OF 'laws.FnFiles'. -/
def fnFilesCard : Claim7 := { stood := { row := fnFilesRow, standIns := [], harness := (true, "e78a4b4e67c6704362e4f3a185ca6f3943b2db777efacbbedc33edef7bb96615"), looks := true }, kinds := [], alts := [], laidByText := true, laidKinds := [.data, .data, .data, .data, .sentinel, .sentinel, .pinned], laidTests := true, laidLooks := .later }
def FnFilesCardSaid : Prop := Claim7.holds Tryz.pinned (.plain (OpenSpec.ofChange fnFilesSpec)) fnFilesCard

/-- THE TIED CARD OF 'laws.FnData'. -/
def fnDataCard : Claim7 := { stood := { row := fnDataRow, standIns := [], harness := (true, "e78a4b4e67c6704362e4f3a185ca6f3943b2db777efacbbedc33edef7bb96615"), looks := true }, kinds := [], alts := [], laidByText := true, laidKinds := [.data, .data, .data, .data, .sentinel, .sentinel, .pinned], laidTests := true, laidLooks := .later }
def FnDataCardSaid : Prop := Claim7.holds Tryz.pinned (.plain (OpenSpec.ofChange fnDataSpec)) fnDataCard

/-- THE SECOND FORM's CARD OF 'laws.FnExactParseData'. -/
def fnExactParseDataUptoCard : Claim7 := { stood := { row := fnExactParseDataUptoRow, standIns := [], harness := (true, "e78a4b4e67c6704362e4f3a185ca6f3943b2db777efacbbedc33edef7bb96615"), looks := true }, kinds := [], alts := [], laidByText := true, laidKinds := [.data, .data, .data, .data, .sentinel, .sentinel, .pinned], laidTests := true, laidLooks := .later }
def FnExactParseDataUptoCardSaid : Prop := Claim7.holds Tryz.pinned (.plain (OpenSpec.upto fnExactParseDataSpec)) fnExactParseDataUptoCard

/-- THE SECOND FORM's CARD OF 'laws.FnFiles'. -/
def fnFilesUptoCard : Claim7 := { stood := { row := fnFilesUptoRow, standIns := [], harness := (true, "e78a4b4e67c6704362e4f3a185ca6f3943b2db777efacbbedc33edef7bb96615"), looks := true }, kinds := [], alts := [], laidByText := true, laidKinds := [.data, .data, .data, .data, .sentinel, .sentinel, .pinned], laidTests := true, laidLooks := .later }
def FnFilesUptoCardSaid : Prop := Claim7.holds Tryz.pinned (.plain (OpenSpec.upto fnFilesSpec)) fnFilesUptoCard

/-- THE SECOND FORM's CARD OF 'laws.FnData'. -/
def fnDataUptoCard : Claim7 := { stood := { row := fnDataUptoRow, standIns := [], harness := (true, "e78a4b4e67c6704362e4f3a185ca6f3943b2db777efacbbedc33edef7bb96615"), looks := true }, kinds := [], alts := [], laidByText := true, laidKinds := [.data, .data, .data, .data, .sentinel, .sentinel, .pinned], laidTests := true, laidLooks := .later }
def FnDataUptoCardSaid : Prop := Claim7.holds Tryz.pinned (.plain (OpenSpec.upto fnDataSpec)) fnDataUptoCard
end Rows
end Go.Proofs.YtfengkmaphbofaaGreatDoor
