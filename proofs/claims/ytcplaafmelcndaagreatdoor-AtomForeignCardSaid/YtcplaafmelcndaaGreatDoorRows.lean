/-
  NARROWER THAN 'FOR EVERY INPUT', by the rows' own cells (each row's printed sentence says how): AtomChecks: loops, laid · AtomSmall: laid · AtomOne: laid · AtomForeign: loops, laid · AtomOrder: loops, laid.
  DERIVED. THE GIVEN ROWS OF THIS SEAT. 5 by the template 'for every input the law returns true; each argument reads behind the call as it read before'; 0 by the template 'total and deterministic' (their statements: YtcplaafmelcndaaGreatDoorTotals.lean).
  GIVEN WITH THE SEED: the statements are not yours to turn. If you find one false, say at which input.
  Laid BY PROGRAM, IN A SANDBOX (cutbox-rows.mjs): the forced cells as the released guide's own fill.sh prints them over the translation 273520200b2d2524… (all of the seat's roots in one cut). By AI agents, Wed Nov 11 2026. No macro, syntax, notation, axiom, sorry.
-/
import Derived.Test.YtcplaafmelcndaaGreatDoorChecked
import GoSem.PinnedTables
import GoSem.Claim
import GoSem.ClaimJoined
import GoSem.ClaimMapViews
import Derived.JoinedTies
import Derived.KernelRfl
namespace Go.Proofs.YtcplaafmelcndaaGreatDoor
/- THE CELL 'sum', in the pinned program and in every row, IS THE sha256 OF THE DUMP (.gsa) THAT YtcplaafmelcndaaGreatDoorProg.lean LOADS. Nothing in Lean hashes anything: it is a label: what it is worth is what the hold of that sum in a sandbox is worth. -/
noncomputable def Tryz.pinned : Pinned := { name := "ytcplaafmelcndaagreatdoor", sum := "273520200b2d2524a3bd9db923d2c01fef18b8bda4eac8588860278f5e7d3aa2", checked := Tryz.checked }
namespace Rows
def none {H : Type} : Left H := { results := [], args := [] }

/- WHAT THE LISTED PACKAGE-LEVEL VARIABLES READ AS WHEN THE CALL BEGINS. Each datum BY PROGRAM (the guide's laid-datum.mjs) off the statement by which the dump's own 'gosem.cut.vars' lays the variable. In a bare row this is a premise. The card (YtcplaafmelcndaaGreatDoorCards.lean) ties it to the program's text. -/
def laid_unicode_utf8_acceptRanges {H : Type} : DataW H := .agg [.agg [.lit (.int .u8 128), .lit (.int .u8 191)], .agg [.lit (.int .u8 160), .lit (.int .u8 191)], .agg [.lit (.int .u8 128), .lit (.int .u8 159)], .agg [.lit (.int .u8 144), .lit (.int .u8 191)], .agg [.lit (.int .u8 128), .lit (.int .u8 143)], .agg [.lit (.int .u8 0), .lit (.int .u8 0)], .agg [.lit (.int .u8 0), .lit (.int .u8 0)], .agg [.lit (.int .u8 0), .lit (.int .u8 0)], .agg [.lit (.int .u8 0), .lit (.int .u8 0)], .agg [.lit (.int .u8 0), .lit (.int .u8 0)], .agg [.lit (.int .u8 0), .lit (.int .u8 0)], .agg [.lit (.int .u8 0), .lit (.int .u8 0)], .agg [.lit (.int .u8 0), .lit (.int .u8 0)], .agg [.lit (.int .u8 0), .lit (.int .u8 0)], .agg [.lit (.int .u8 0), .lit (.int .u8 0)], .agg [.lit (.int .u8 0), .lit (.int .u8 0)]]
/-- One of Go's own tables, pinned by name: the form's constant. -/
def laid_unicode_utf8_first : DataW Unit := Go.Pinned.utf8First

/-- 'broadsheetlaw15.AtomChecks': WHATEVER THE INPUT: true; the input reads as it did. -/
def atomChecksSpec : ChangeSpec := { name := "atomChecks", fn := fun _ => fun
  | [d1, d2] => { results := [.lit (.bool true)], args := [d1, d2] }
  | _ => none }
def atomChecksRow : OpenClaim := { program := "ytcplaafmelcndaagreatdoor", sum := "273520200b2d2524a3bd9db923d2c01fef18b8bda4eac8588860278f5e7d3aa2", func := "broadsheet/broadsheetlaw15.AtomChecks", spec := "atomChecks", inPlace := ["internal/abi.NoEscape", "internal/bytealg.IndexByteString", "internal/bytealg.IndexString"], unfollowed := true, recurses := true, named := ["unicode/utf8.first", "unicode/utf8.acceptRanges", "internal/bytealg.MaxLen"], loops := true, plainKeys := false, apart := false, laid := [("unicode/utf8.acceptRanges", laid_unicode_utf8_acceptRanges), ("unicode/utf8.first", laid_unicode_utf8_first)] }
def AtomChecksSaid : Prop := atomChecksRow.holds Tryz.pinned (OpenSpec.ofChange atomChecksSpec)

/-- ITS FALSE NEIGHBOUR: 'it returns false'. Refute it at one input. -/
def atomChecksWrong : ChangeSpec := { name := "atomChecks", fn := fun _ => fun
  | [d1, d2] => { results := [.lit (.bool false)], args := [d1, d2] }
  | _ => none }
def AtomChecksWrongFalsely : Prop := atomChecksRow.holds Tryz.pinned (OpenSpec.ofChange atomChecksWrong)

/-- 'broadsheetlaw15.AtomSmall': WHATEVER THE INPUT: true; the input reads as it did. -/
def atomSmallSpec : ChangeSpec := { name := "atomSmall", fn := fun _ => fun
  | [d1, d2, d3] => { results := [.lit (.bool true)], args := [d1, d2, d3] }
  | _ => none }
def atomSmallRow : OpenClaim := { program := "ytcplaafmelcndaagreatdoor", sum := "273520200b2d2524a3bd9db923d2c01fef18b8bda4eac8588860278f5e7d3aa2", func := "broadsheet/broadsheetlaw15.AtomSmall", spec := "atomSmall", inPlace := ["internal/abi.NoEscape", "internal/bytealg.IndexByteString", "internal/bytealg.IndexString"], unfollowed := true, recurses := true, named := ["unicode/utf8.first", "unicode/utf8.acceptRanges", "internal/bytealg.MaxLen"], plainKeys := false, apart := false, laid := [("unicode/utf8.acceptRanges", laid_unicode_utf8_acceptRanges), ("unicode/utf8.first", laid_unicode_utf8_first)] }
def AtomSmallSaid : Prop := atomSmallRow.holds Tryz.pinned (OpenSpec.ofChange atomSmallSpec)

/-- ITS FALSE NEIGHBOUR: 'it returns false'. Refute it at one input. -/
def atomSmallWrong : ChangeSpec := { name := "atomSmall", fn := fun _ => fun
  | [d1, d2, d3] => { results := [.lit (.bool false)], args := [d1, d2, d3] }
  | _ => none }
def AtomSmallWrongFalsely : Prop := atomSmallRow.holds Tryz.pinned (OpenSpec.ofChange atomSmallWrong)

/-- 'broadsheetlaw15.AtomOne': WHATEVER THE INPUT: true; the input reads as it did. -/
def atomOneSpec : ChangeSpec := { name := "atomOne", fn := fun _ => fun
  | [d1, d2] => { results := [.lit (.bool true)], args := [d1, d2] }
  | _ => none }
def atomOneRow : OpenClaim := { program := "ytcplaafmelcndaagreatdoor", sum := "273520200b2d2524a3bd9db923d2c01fef18b8bda4eac8588860278f5e7d3aa2", func := "broadsheet/broadsheetlaw15.AtomOne", spec := "atomOne", inPlace := ["internal/abi.NoEscape", "internal/bytealg.IndexByteString", "internal/bytealg.IndexString"], unfollowed := true, recurses := true, named := ["unicode/utf8.first", "unicode/utf8.acceptRanges", "internal/bytealg.MaxLen"], plainKeys := false, apart := false, laid := [("unicode/utf8.acceptRanges", laid_unicode_utf8_acceptRanges), ("unicode/utf8.first", laid_unicode_utf8_first)] }
def AtomOneSaid : Prop := atomOneRow.holds Tryz.pinned (OpenSpec.ofChange atomOneSpec)

/-- ITS FALSE NEIGHBOUR: 'it returns false'. Refute it at one input. -/
def atomOneWrong : ChangeSpec := { name := "atomOne", fn := fun _ => fun
  | [d1, d2] => { results := [.lit (.bool false)], args := [d1, d2] }
  | _ => none }
def AtomOneWrongFalsely : Prop := atomOneRow.holds Tryz.pinned (OpenSpec.ofChange atomOneWrong)

/-- 'broadsheetlaw15.AtomForeign': WHATEVER THE INPUT: true; the input reads as it did. -/
def atomForeignSpec : ChangeSpec := { name := "atomForeign", fn := fun _ => fun
  | [d1, d2, d3, d4, d5] => { results := [.lit (.bool true)], args := [d1, d2, d3, d4, d5] }
  | _ => none }
def atomForeignRow : OpenClaim := { program := "ytcplaafmelcndaagreatdoor", sum := "273520200b2d2524a3bd9db923d2c01fef18b8bda4eac8588860278f5e7d3aa2", func := "broadsheet/broadsheetlaw15.AtomForeign", spec := "atomForeign", inPlace := ["internal/abi.NoEscape", "internal/bytealg.IndexByteString", "internal/bytealg.IndexString"], unfollowed := true, recurses := true, named := ["unicode/utf8.first", "unicode/utf8.acceptRanges", "internal/bytealg.MaxLen"], loops := true, plainKeys := false, apart := false, laid := [("unicode/utf8.acceptRanges", laid_unicode_utf8_acceptRanges), ("unicode/utf8.first", laid_unicode_utf8_first)] }
def AtomForeignSaid : Prop := atomForeignRow.holds Tryz.pinned (OpenSpec.ofChange atomForeignSpec)

/-- ITS FALSE NEIGHBOUR: 'it returns false'. Refute it at one input. -/
def atomForeignWrong : ChangeSpec := { name := "atomForeign", fn := fun _ => fun
  | [d1, d2, d3, d4, d5] => { results := [.lit (.bool false)], args := [d1, d2, d3, d4, d5] }
  | _ => none }
def AtomForeignWrongFalsely : Prop := atomForeignRow.holds Tryz.pinned (OpenSpec.ofChange atomForeignWrong)

/-- 'broadsheetlaw15.AtomOrder': WHATEVER THE INPUT: true; the input reads as it did. -/
def atomOrderSpec : ChangeSpec := { name := "atomOrder", fn := fun _ => fun
  | [d1, d2, d3] => { results := [.lit (.bool true)], args := [d1, d2, d3] }
  | _ => none }
def atomOrderRow : OpenClaim := { program := "ytcplaafmelcndaagreatdoor", sum := "273520200b2d2524a3bd9db923d2c01fef18b8bda4eac8588860278f5e7d3aa2", func := "broadsheet/broadsheetlaw15.AtomOrder", spec := "atomOrder", inPlace := ["internal/abi.NoEscape", "internal/bytealg.IndexByteString", "internal/bytealg.IndexString"], unfollowed := true, recurses := true, named := ["unicode/utf8.first", "unicode/utf8.acceptRanges", "internal/bytealg.MaxLen"], loops := true, plainKeys := false, apart := false, laid := [("unicode/utf8.acceptRanges", laid_unicode_utf8_acceptRanges), ("unicode/utf8.first", laid_unicode_utf8_first)] }
def AtomOrderSaid : Prop := atomOrderRow.holds Tryz.pinned (OpenSpec.ofChange atomOrderSpec)

/-- ITS FALSE NEIGHBOUR: 'it returns false'. Refute it at one input. -/
def atomOrderWrong : ChangeSpec := { name := "atomOrder", fn := fun _ => fun
  | [d1, d2, d3] => { results := [.lit (.bool false)], args := [d1, d2, d3] }
  | _ => none }
def AtomOrderWrongFalsely : Prop := atomOrderRow.holds Tryz.pinned (OpenSpec.ofChange atomOrderWrong)

/- THE SECOND FORM. 'bulk': how many values and letters a reading holds, each counted each time it is reached (what is shared counts as often as it is met; a slice's spare places count too). A statement '..UptoSaid' is the law's where the arguments, and the package variables that the reading takes, are together of bulk at most 1048576: NARROWER than '..Said'. Prove '..Said' where nothing that the law and all that it calls make is longer than what came in: it says more and counts as full. Else prove '..UptoSaid'. A law counts once. -/
mutual
def uptoBulk {H : Type} : DataW H → Nat
  | .lit (.string bytes) => bytes.length + 1
  | .lit _ => 1
  | .nil => 1
  | .ptr d => uptoBulk d + 1
  | .slice elems spare => uptoBulkAll elems + uptoBulkAll spare + 1
  | .agg parts => uptoBulkAll parts + 1
  | .iface _ d => uptoBulk d + 1
  | .map entries => uptoBulkEntries entries + 1
  | .held _ => 1
def uptoBulkAll {H : Type} : List (DataW H) → Nat
  | [] => 0
  | d :: r => uptoBulk d + uptoBulkAll r
def uptoBulkEntries {H : Type} : List (Lit × DataW H) → Nat
  | [] => 0
  | x :: r => uptoBulkEntry x + uptoBulkEntries r
def uptoBulkEntry {H : Type} : Lit × DataW H → Nat
  | (.string bytes, d) => bytes.length + uptoBulk d + 1
  | (_, d) => uptoBulk d + 1
 end
def uptoSmall : (H : Type) → List (DataW H) → Bool := fun _ ds => decide (uptoBulkAll ds ≤ 1048576)
def OpenSpec.upto (s : _root_.Go.ChangeSpec) : _root_.Go.OpenSpec := { _root_.Go.OpenSpec.ofChange s with cond := some uptoSmall }

/-- 'broadsheetlaw15.AtomChecks', WHERE WHAT IT READS IS OF BULK AT MOST 1048576: true; the input reads as it did. -/
def atomChecksUptoRow : OpenClaim := { program := "ytcplaafmelcndaagreatdoor", sum := "273520200b2d2524a3bd9db923d2c01fef18b8bda4eac8588860278f5e7d3aa2", func := "broadsheet/broadsheetlaw15.AtomChecks", spec := "atomChecks", inPlace := ["internal/abi.NoEscape", "internal/bytealg.IndexByteString", "internal/bytealg.IndexString"], unfollowed := true, recurses := true, named := ["unicode/utf8.first", "unicode/utf8.acceptRanges", "internal/bytealg.MaxLen"], loops := true, plainKeys := false, apart := false, laid := [("unicode/utf8.acceptRanges", laid_unicode_utf8_acceptRanges), ("unicode/utf8.first", laid_unicode_utf8_first)], narrowed := true }
def AtomChecksUptoSaid : Prop := atomChecksUptoRow.holds Tryz.pinned (OpenSpec.upto atomChecksSpec)

/-- 'broadsheetlaw15.AtomSmall', WHERE WHAT IT READS IS OF BULK AT MOST 1048576: true; the input reads as it did. -/
def atomSmallUptoRow : OpenClaim := { program := "ytcplaafmelcndaagreatdoor", sum := "273520200b2d2524a3bd9db923d2c01fef18b8bda4eac8588860278f5e7d3aa2", func := "broadsheet/broadsheetlaw15.AtomSmall", spec := "atomSmall", inPlace := ["internal/abi.NoEscape", "internal/bytealg.IndexByteString", "internal/bytealg.IndexString"], unfollowed := true, recurses := true, named := ["unicode/utf8.first", "unicode/utf8.acceptRanges", "internal/bytealg.MaxLen"], plainKeys := false, apart := false, laid := [("unicode/utf8.acceptRanges", laid_unicode_utf8_acceptRanges), ("unicode/utf8.first", laid_unicode_utf8_first)], narrowed := true }
def AtomSmallUptoSaid : Prop := atomSmallUptoRow.holds Tryz.pinned (OpenSpec.upto atomSmallSpec)

/-- 'broadsheetlaw15.AtomOne', WHERE WHAT IT READS IS OF BULK AT MOST 1048576: true; the input reads as it did. -/
def atomOneUptoRow : OpenClaim := { program := "ytcplaafmelcndaagreatdoor", sum := "273520200b2d2524a3bd9db923d2c01fef18b8bda4eac8588860278f5e7d3aa2", func := "broadsheet/broadsheetlaw15.AtomOne", spec := "atomOne", inPlace := ["internal/abi.NoEscape", "internal/bytealg.IndexByteString", "internal/bytealg.IndexString"], unfollowed := true, recurses := true, named := ["unicode/utf8.first", "unicode/utf8.acceptRanges", "internal/bytealg.MaxLen"], plainKeys := false, apart := false, laid := [("unicode/utf8.acceptRanges", laid_unicode_utf8_acceptRanges), ("unicode/utf8.first", laid_unicode_utf8_first)], narrowed := true }
def AtomOneUptoSaid : Prop := atomOneUptoRow.holds Tryz.pinned (OpenSpec.upto atomOneSpec)

/-- 'broadsheetlaw15.AtomForeign', WHERE WHAT IT READS IS OF BULK AT MOST 1048576: true; the input reads as it did. -/
def atomForeignUptoRow : OpenClaim := { program := "ytcplaafmelcndaagreatdoor", sum := "273520200b2d2524a3bd9db923d2c01fef18b8bda4eac8588860278f5e7d3aa2", func := "broadsheet/broadsheetlaw15.AtomForeign", spec := "atomForeign", inPlace := ["internal/abi.NoEscape", "internal/bytealg.IndexByteString", "internal/bytealg.IndexString"], unfollowed := true, recurses := true, named := ["unicode/utf8.first", "unicode/utf8.acceptRanges", "internal/bytealg.MaxLen"], loops := true, plainKeys := false, apart := false, laid := [("unicode/utf8.acceptRanges", laid_unicode_utf8_acceptRanges), ("unicode/utf8.first", laid_unicode_utf8_first)], narrowed := true }
def AtomForeignUptoSaid : Prop := atomForeignUptoRow.holds Tryz.pinned (OpenSpec.upto atomForeignSpec)

/-- 'broadsheetlaw15.AtomOrder', WHERE WHAT IT READS IS OF BULK AT MOST 1048576: true; the input reads as it did. -/
def atomOrderUptoRow : OpenClaim := { program := "ytcplaafmelcndaagreatdoor", sum := "273520200b2d2524a3bd9db923d2c01fef18b8bda4eac8588860278f5e7d3aa2", func := "broadsheet/broadsheetlaw15.AtomOrder", spec := "atomOrder", inPlace := ["internal/abi.NoEscape", "internal/bytealg.IndexByteString", "internal/bytealg.IndexString"], unfollowed := true, recurses := true, named := ["unicode/utf8.first", "unicode/utf8.acceptRanges", "internal/bytealg.MaxLen"], loops := true, plainKeys := false, apart := false, laid := [("unicode/utf8.acceptRanges", laid_unicode_utf8_acceptRanges), ("unicode/utf8.first", laid_unicode_utf8_first)], narrowed := true }
def AtomOrderUptoSaid : Prop := atomOrderUptoRow.holds Tryz.pinned (OpenSpec.upto atomOrderSpec)

end Rows
end Go.Proofs.YtcplaafmelcndaaGreatDoor
