/-
  DERIVED. GIVEN WITH THE SEED: THE CARDS: each row of YtdcgcccaaooclaaGreatDoorRows.lean that lists a variable, with what it lists TIED to the program's text (the seventh form; the later family's looks); each row that meets fmt, with fmt's text TOLD by the authors' own Lean function (tested against real Go, not proved from fmt's source: count such statements apart). THE CARD IS WHAT COUNTS. Prove the row's statement (the work); the ties are given (YtdcgcccaaooclaaGreatDoorTie.lean); close each card by the builder's one call (the guide's Derived/Test/ToyasCard.lean, 'card_holds'). Laid BY PROGRAM, IN A SANDBOX (cutbox-door.mjs). By AI agents, Wed Nov 11 2026. No macro, syntax, notation, axiom, sorry.
-/
import Derived.Test.YtdcgcccaaooclaaGreatDoorRows
import GoSem.ClaimSeven
namespace Go.Proofs.YtdcgcccaaooclaaGreatDoor
namespace Rows

/-- THE TIED CARD OF 'broadsheetlaw06.EscapeExpands'. -/
def escapeExpandsCard : Claim7 := { stood := { row := escapeExpandsRow, standIns := [], harness := (true, "5fe3d3d5fdde025affe5ba866a2b7ca520bcd48b79afe24b9e4b575ece9a603d"), looks := true }, kinds := [], alts := [], laidByText := true, laidKinds := [.data, .data, .data, .data, .sentinel, .sentinel, .pinned], laidTests := true, laidLooks := .later }
def EscapeExpandsCardSaid : Prop := Claim7.holds Tryz.pinned (.plain (OpenSpec.ofChange escapeExpandsSpec)) escapeExpandsCard

/-- THE TIED CARD OF 'broadsheetlaw06.EscapeEscapes'. -/
def escapeEscapesCard : Claim7 := { stood := { row := escapeEscapesRow, standIns := [], harness := (true, "5fe3d3d5fdde025affe5ba866a2b7ca520bcd48b79afe24b9e4b575ece9a603d"), looks := true }, kinds := [], alts := [], laidByText := true, laidKinds := [.data, .data, .data, .data, .sentinel, .sentinel, .pinned], laidTests := true, laidLooks := .later }
def EscapeEscapesCardSaid : Prop := Claim7.holds Tryz.pinned (.plain (OpenSpec.ofChange escapeEscapesSpec)) escapeEscapesCard

/-- THE TIED CARD OF 'broadsheetlaw06.EscapeBack'. -/
def escapeBackCard : Claim7 := { stood := { row := escapeBackRow, standIns := [], harness := (true, "5fe3d3d5fdde025affe5ba866a2b7ca520bcd48b79afe24b9e4b575ece9a603d"), looks := true }, kinds := [], alts := [], laidByText := true, laidKinds := [.data, .data, .data, .data, .sentinel, .sentinel, .pinned], laidTests := true, laidLooks := .later }
def EscapeBackCardSaid : Prop := Claim7.holds Tryz.pinned (.plain (OpenSpec.ofChange escapeBackSpec)) escapeBackCard

/-- THE TIED CARD OF 'broadsheetlaw06.EscapeParts'. -/
def escapePartsCard : Claim7 := { stood := { row := escapePartsRow, standIns := [], harness := (true, "5fe3d3d5fdde025affe5ba866a2b7ca520bcd48b79afe24b9e4b575ece9a603d"), looks := true }, kinds := [], alts := [], laidByText := true, laidKinds := [.data, .data, .data, .data, .sentinel, .sentinel, .pinned], laidTests := true, laidLooks := .later }
def EscapePartsCardSaid : Prop := Claim7.holds Tryz.pinned (.plain (OpenSpec.ofChange escapePartsSpec)) escapePartsCard

/-- THE TIED CARD OF 'broadsheetlaw06.EscapeSmall'. -/
def escapeSmallCard : Claim7 := { stood := { row := escapeSmallRow, standIns := [], harness := (true, "5fe3d3d5fdde025affe5ba866a2b7ca520bcd48b79afe24b9e4b575ece9a603d"), looks := true }, kinds := [], alts := [], laidByText := true, laidKinds := [.data, .data, .data, .data, .sentinel, .sentinel, .pinned], laidTests := true, laidLooks := .later }
def EscapeSmallCardSaid : Prop := Claim7.holds Tryz.pinned (.plain (OpenSpec.ofChange escapeSmallSpec)) escapeSmallCard

/-- THE SECOND FORM's CARD OF 'broadsheetlaw06.EscapeExpands'. -/
def escapeExpandsUptoCard : Claim7 := { stood := { row := escapeExpandsUptoRow, standIns := [], harness := (true, "5fe3d3d5fdde025affe5ba866a2b7ca520bcd48b79afe24b9e4b575ece9a603d"), looks := true }, kinds := [], alts := [], laidByText := true, laidKinds := [.data, .data, .data, .data, .sentinel, .sentinel, .pinned], laidTests := true, laidLooks := .later }
def EscapeExpandsUptoCardSaid : Prop := Claim7.holds Tryz.pinned (.plain (OpenSpec.upto escapeExpandsSpec)) escapeExpandsUptoCard

/-- THE SECOND FORM's CARD OF 'broadsheetlaw06.EscapeEscapes'. -/
def escapeEscapesUptoCard : Claim7 := { stood := { row := escapeEscapesUptoRow, standIns := [], harness := (true, "5fe3d3d5fdde025affe5ba866a2b7ca520bcd48b79afe24b9e4b575ece9a603d"), looks := true }, kinds := [], alts := [], laidByText := true, laidKinds := [.data, .data, .data, .data, .sentinel, .sentinel, .pinned], laidTests := true, laidLooks := .later }
def EscapeEscapesUptoCardSaid : Prop := Claim7.holds Tryz.pinned (.plain (OpenSpec.upto escapeEscapesSpec)) escapeEscapesUptoCard

/-- THE SECOND FORM's CARD OF 'broadsheetlaw06.EscapeBack'. -/
def escapeBackUptoCard : Claim7 := { stood := { row := escapeBackUptoRow, standIns := [], harness := (true, "5fe3d3d5fdde025affe5ba866a2b7ca520bcd48b79afe24b9e4b575ece9a603d"), looks := true }, kinds := [], alts := [], laidByText := true, laidKinds := [.data, .data, .data, .data, .sentinel, .sentinel, .pinned], laidTests := true, laidLooks := .later }
def EscapeBackUptoCardSaid : Prop := Claim7.holds Tryz.pinned (.plain (OpenSpec.upto escapeBackSpec)) escapeBackUptoCard

/-- THE SECOND FORM's CARD OF 'broadsheetlaw06.EscapeParts'. -/
def escapePartsUptoCard : Claim7 := { stood := { row := escapePartsUptoRow, standIns := [], harness := (true, "5fe3d3d5fdde025affe5ba866a2b7ca520bcd48b79afe24b9e4b575ece9a603d"), looks := true }, kinds := [], alts := [], laidByText := true, laidKinds := [.data, .data, .data, .data, .sentinel, .sentinel, .pinned], laidTests := true, laidLooks := .later }
def EscapePartsUptoCardSaid : Prop := Claim7.holds Tryz.pinned (.plain (OpenSpec.upto escapePartsSpec)) escapePartsUptoCard

/-- THE SECOND FORM's CARD OF 'broadsheetlaw06.EscapeSmall'. -/
def escapeSmallUptoCard : Claim7 := { stood := { row := escapeSmallUptoRow, standIns := [], harness := (true, "5fe3d3d5fdde025affe5ba866a2b7ca520bcd48b79afe24b9e4b575ece9a603d"), looks := true }, kinds := [], alts := [], laidByText := true, laidKinds := [.data, .data, .data, .data, .sentinel, .sentinel, .pinned], laidTests := true, laidLooks := .later }
def EscapeSmallUptoCardSaid : Prop := Claim7.holds Tryz.pinned (.plain (OpenSpec.upto escapeSmallSpec)) escapeSmallUptoCard
end Rows
end Go.Proofs.YtdcgcccaaooclaaGreatDoor
