/-
  DERIVED. GIVEN WITH THE SEED: THE CARDS: each row of YtcplaafmelcndaaGreatDoorRows.lean that lists a variable, with what it lists TIED to the program's text (the seventh form; the later family's looks); each row that meets fmt, with fmt's text TOLD by the authors' own Lean function (tested against real Go, not proved from fmt's source: count such statements apart). THE CARD IS WHAT COUNTS. Prove the row's statement (the work); the ties are given (YtcplaafmelcndaaGreatDoorTie.lean); close each card by the builder's one call (the guide's Derived/Test/ToyasCard.lean, 'card_holds'). Laid BY PROGRAM, IN A SANDBOX (cutbox-door.mjs). By AI agents, Wed Nov 11 2026. No macro, syntax, notation, axiom, sorry.
-/
import Derived.Test.YtcplaafmelcndaaGreatDoorRows
import GoSem.ClaimSeven
namespace Go.Proofs.YtcplaafmelcndaaGreatDoor
namespace Rows

/-- THE TIED CARD OF 'broadsheetlaw15.AtomChecks'. -/
def atomChecksCard : Claim7 := { stood := { row := atomChecksRow, standIns := [], harness := (true, "f0d71428c60a6ab70c7e41549407a9cf5ee5322a54d9ab6170d7aea47b8cd19a"), looks := false }, kinds := [], alts := [], laidByText := true, laidKinds := [.data, .pinned], laidTests := true, laidLooks := .later }
def AtomChecksCardSaid : Prop := Claim7.holds Tryz.pinned (.plain (OpenSpec.ofChange atomChecksSpec)) atomChecksCard

/-- THE TIED CARD OF 'broadsheetlaw15.AtomSmall'. -/
def atomSmallCard : Claim7 := { stood := { row := atomSmallRow, standIns := [], harness := (true, "f0d71428c60a6ab70c7e41549407a9cf5ee5322a54d9ab6170d7aea47b8cd19a"), looks := false }, kinds := [], alts := [], laidByText := true, laidKinds := [.data, .pinned], laidTests := true, laidLooks := .later }
def AtomSmallCardSaid : Prop := Claim7.holds Tryz.pinned (.plain (OpenSpec.ofChange atomSmallSpec)) atomSmallCard

/-- THE TIED CARD OF 'broadsheetlaw15.AtomOne'. -/
def atomOneCard : Claim7 := { stood := { row := atomOneRow, standIns := [], harness := (true, "f0d71428c60a6ab70c7e41549407a9cf5ee5322a54d9ab6170d7aea47b8cd19a"), looks := false }, kinds := [], alts := [], laidByText := true, laidKinds := [.data, .pinned], laidTests := true, laidLooks := .later }
def AtomOneCardSaid : Prop := Claim7.holds Tryz.pinned (.plain (OpenSpec.ofChange atomOneSpec)) atomOneCard

/-- THE TIED CARD OF 'broadsheetlaw15.AtomForeign'. -/
def atomForeignCard : Claim7 := { stood := { row := atomForeignRow, standIns := [], harness := (true, "f0d71428c60a6ab70c7e41549407a9cf5ee5322a54d9ab6170d7aea47b8cd19a"), looks := false }, kinds := [], alts := [], laidByText := true, laidKinds := [.data, .pinned], laidTests := true, laidLooks := .later }
def AtomForeignCardSaid : Prop := Claim7.holds Tryz.pinned (.plain (OpenSpec.ofChange atomForeignSpec)) atomForeignCard

/-- THE TIED CARD OF 'broadsheetlaw15.AtomOrder'. -/
def atomOrderCard : Claim7 := { stood := { row := atomOrderRow, standIns := [], harness := (true, "f0d71428c60a6ab70c7e41549407a9cf5ee5322a54d9ab6170d7aea47b8cd19a"), looks := false }, kinds := [], alts := [], laidByText := true, laidKinds := [.data, .pinned], laidTests := true, laidLooks := .later }
def AtomOrderCardSaid : Prop := Claim7.holds Tryz.pinned (.plain (OpenSpec.ofChange atomOrderSpec)) atomOrderCard

/-- THE SECOND FORM's CARD OF 'broadsheetlaw15.AtomChecks'. -/
def atomChecksUptoCard : Claim7 := { stood := { row := atomChecksUptoRow, standIns := [], harness := (true, "f0d71428c60a6ab70c7e41549407a9cf5ee5322a54d9ab6170d7aea47b8cd19a"), looks := false }, kinds := [], alts := [], laidByText := true, laidKinds := [.data, .pinned], laidTests := true, laidLooks := .later }
def AtomChecksUptoCardSaid : Prop := Claim7.holds Tryz.pinned (.plain (OpenSpec.upto atomChecksSpec)) atomChecksUptoCard

/-- THE SECOND FORM's CARD OF 'broadsheetlaw15.AtomSmall'. -/
def atomSmallUptoCard : Claim7 := { stood := { row := atomSmallUptoRow, standIns := [], harness := (true, "f0d71428c60a6ab70c7e41549407a9cf5ee5322a54d9ab6170d7aea47b8cd19a"), looks := false }, kinds := [], alts := [], laidByText := true, laidKinds := [.data, .pinned], laidTests := true, laidLooks := .later }
def AtomSmallUptoCardSaid : Prop := Claim7.holds Tryz.pinned (.plain (OpenSpec.upto atomSmallSpec)) atomSmallUptoCard

/-- THE SECOND FORM's CARD OF 'broadsheetlaw15.AtomOne'. -/
def atomOneUptoCard : Claim7 := { stood := { row := atomOneUptoRow, standIns := [], harness := (true, "f0d71428c60a6ab70c7e41549407a9cf5ee5322a54d9ab6170d7aea47b8cd19a"), looks := false }, kinds := [], alts := [], laidByText := true, laidKinds := [.data, .pinned], laidTests := true, laidLooks := .later }
def AtomOneUptoCardSaid : Prop := Claim7.holds Tryz.pinned (.plain (OpenSpec.upto atomOneSpec)) atomOneUptoCard

/-- THE SECOND FORM's CARD OF 'broadsheetlaw15.AtomForeign'. -/
def atomForeignUptoCard : Claim7 := { stood := { row := atomForeignUptoRow, standIns := [], harness := (true, "f0d71428c60a6ab70c7e41549407a9cf5ee5322a54d9ab6170d7aea47b8cd19a"), looks := false }, kinds := [], alts := [], laidByText := true, laidKinds := [.data, .pinned], laidTests := true, laidLooks := .later }
def AtomForeignUptoCardSaid : Prop := Claim7.holds Tryz.pinned (.plain (OpenSpec.upto atomForeignSpec)) atomForeignUptoCard

/-- THE SECOND FORM's CARD OF 'broadsheetlaw15.AtomOrder'. -/
def atomOrderUptoCard : Claim7 := { stood := { row := atomOrderUptoRow, standIns := [], harness := (true, "f0d71428c60a6ab70c7e41549407a9cf5ee5322a54d9ab6170d7aea47b8cd19a"), looks := false }, kinds := [], alts := [], laidByText := true, laidKinds := [.data, .pinned], laidTests := true, laidLooks := .later }
def AtomOrderUptoCardSaid : Prop := Claim7.holds Tryz.pinned (.plain (OpenSpec.upto atomOrderSpec)) atomOrderUptoCard
end Rows
end Go.Proofs.YtcplaafmelcndaaGreatDoor
