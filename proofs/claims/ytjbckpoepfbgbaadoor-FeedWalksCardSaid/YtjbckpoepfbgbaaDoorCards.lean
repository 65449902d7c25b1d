/-
  DERIVED. GIVEN WITH THE SEED: THE CARDS: each row of YtjbckpoepfbgbaaDoorRows.lean that lists a variable, with what it lists TIED to the program's text (the seventh form; the later family's looks); each row that meets fmt, with fmt's text TOLD by the authors' own Lean function (tested against real Go, not proved from fmt's source: count such statements apart). THE CARD IS WHAT COUNTS. Prove the row's statement (the work); the ties are given (YtjbckpoepfbgbaaDoorTie.lean); close each card by the builder's one call (the guide's Derived/Test/ToyasCard.lean, 'card_holds'). Laid BY PROGRAM, IN A SANDBOX (cutbox-door.mjs). By AI agents, Wed Nov 11 2026. No macro, syntax, notation, axiom, sorry.
-/
import Derived.Test.YtjbckpoepfbgbaaDoorRows
import GoSem.ClaimSeven
namespace Go.Proofs.YtjbckpoepfbgbaaDoor
namespace Rows

/-- THE TIED CARD OF 'broadsheetlaw23.FeedAny'. -/
def feedAnyCard : Claim7 := { stood := { row := feedAnyRow, standIns := [], harness := (true, "1cb0e92953440195d384a400d7eb651417f797a7434aaa0ce888ce2d6b745354"), looks := false }, kinds := [], alts := [], laidByText := true, laidKinds := [.data, .data, .data, .data, .pinned], laidTests := true, laidLooks := .later }
def FeedAnyCardSaid : Prop := Claim7.holds Tryd.pinned (.plain (OpenSpec.ofChange feedAnySpec)) feedAnyCard

/-- THE TIED CARD OF 'broadsheetlaw23.FeedSmall'. -/
def feedSmallCard : Claim7 := { stood := { row := feedSmallRow, standIns := [], harness := (true, "1cb0e92953440195d384a400d7eb651417f797a7434aaa0ce888ce2d6b745354"), looks := false }, kinds := [], alts := [], laidByText := true, laidKinds := [.data, .data, .data, .data, .pinned], laidTests := true, laidLooks := .later }
def FeedSmallCardSaid : Prop := Claim7.holds Tryd.pinned (.plain (OpenSpec.ofChange feedSmallSpec)) feedSmallCard

/-- THE TIED CARD OF 'broadsheetlaw23.FeedWalks'. -/
def feedWalksCard : Claim7 := { stood := { row := feedWalksRow, standIns := [], harness := (true, "1cb0e92953440195d384a400d7eb651417f797a7434aaa0ce888ce2d6b745354"), looks := false }, kinds := [], alts := [], laidByText := true, laidKinds := [.data, .data, .data, .data, .pinned], laidTests := true, laidLooks := .later }
def FeedWalksCardSaid : Prop := Claim7.holds Tryd.pinned (.plain (OpenSpec.ofChange feedWalksSpec)) feedWalksCard

/-- THE SECOND FORM's CARD OF 'broadsheetlaw23.FeedAny'. -/
def feedAnyUptoCard : Claim7 := { stood := { row := feedAnyUptoRow, standIns := [], harness := (true, "1cb0e92953440195d384a400d7eb651417f797a7434aaa0ce888ce2d6b745354"), looks := false }, kinds := [], alts := [], laidByText := true, laidKinds := [.data, .data, .data, .data, .pinned], laidTests := true, laidLooks := .later }
def FeedAnyUptoCardSaid : Prop := Claim7.holds Tryd.pinned (.plain (OpenSpec.upto feedAnySpec)) feedAnyUptoCard

/-- THE SECOND FORM's CARD OF 'broadsheetlaw23.FeedSmall'. -/
def feedSmallUptoCard : Claim7 := { stood := { row := feedSmallUptoRow, standIns := [], harness := (true, "1cb0e92953440195d384a400d7eb651417f797a7434aaa0ce888ce2d6b745354"), looks := false }, kinds := [], alts := [], laidByText := true, laidKinds := [.data, .data, .data, .data, .pinned], laidTests := true, laidLooks := .later }
def FeedSmallUptoCardSaid : Prop := Claim7.holds Tryd.pinned (.plain (OpenSpec.upto feedSmallSpec)) feedSmallUptoCard

/-- THE SECOND FORM's CARD OF 'broadsheetlaw23.FeedWalks'. -/
def feedWalksUptoCard : Claim7 := { stood := { row := feedWalksUptoRow, standIns := [], harness := (true, "1cb0e92953440195d384a400d7eb651417f797a7434aaa0ce888ce2d6b745354"), looks := false }, kinds := [], alts := [], laidByText := true, laidKinds := [.data, .data, .data, .data, .pinned], laidTests := true, laidLooks := .later }
def FeedWalksUptoCardSaid : Prop := Claim7.holds Tryd.pinned (.plain (OpenSpec.upto feedWalksSpec)) feedWalksUptoCard
end Rows
end Go.Proofs.YtjbckpoepfbgbaaDoor
