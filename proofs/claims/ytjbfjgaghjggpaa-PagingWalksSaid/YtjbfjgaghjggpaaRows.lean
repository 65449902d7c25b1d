/-
  NARROWER THAN 'FOR EVERY INPUT', by the rows' own cells (each row's printed sentence says how): PagingAny: loops.
  DERIVED. THE GIVEN ROWS OF THIS SEAT. 4 by the template 'for every input the law returns true; each argument reads behind the call as it read before'; 0 by the template 'total and deterministic' (their statements: YtjbfjgaghjggpaaTotals.lean).
  GIVEN WITH THE SEED: the statements are not yours to turn. If you find one false, say at which input.
  Laid BY PROGRAM, IN A SANDBOX (cutbox-rows.mjs): the forced cells as the released guide's own fill.sh prints them over the translation f398158363aeee92… (all of the seat's roots in one cut). By AI agents, Wed Nov 11 2026. No macro, syntax, notation, axiom, sorry.
-/
import Derived.Test.YtjbfjgaghjggpaaChecked
import GoSem.Claim
import GoSem.ClaimJoined
import GoSem.ClaimMapViews
import Derived.JoinedTies
import Derived.KernelRfl
namespace Go.Proofs.Ytjbfjgaghjggpaa
/- THE CELL 'sum', in the pinned program and in every row, IS THE sha256 OF THE DUMP (.gsa) THAT YtjbfjgaghjggpaaProg.lean LOADS. Nothing in Lean hashes anything: it is a label: what it is worth is what the hold of that sum in a sandbox is worth. -/
noncomputable def Try.pinned : Pinned := { name := "ytjbfjgaghjggpaa", sum := "f398158363aeee92c48794da25bd202dda44b6dddfa8f2298739c9dcef4e9eff", checked := Try.checked }
namespace Rows
def none {H : Type} : Left H := { results := [], args := [] }

/-- 'broadsheetlaw22.PagingOrder': WHATEVER THE INPUT: true; the input reads as it did. -/
def pagingOrderSpec : ChangeSpec := { name := "pagingOrder", fn := fun _ => fun
  | [d] => { results := [.lit (.bool true)], args := [d] }
  | _ => none }
def pagingOrderRow : OpenClaim := { program := "ytjbfjgaghjggpaa", sum := "f398158363aeee92c48794da25bd202dda44b6dddfa8f2298739c9dcef4e9eff", func := "broadsheet/broadsheetlaw22.PagingOrder", spec := "pagingOrder", unfollowed := true, recurses := true, apart := false }
def PagingOrderSaid : Prop := pagingOrderRow.holds Try.pinned (OpenSpec.ofChange pagingOrderSpec)

/-- ITS FALSE NEIGHBOUR: 'it returns false'. Refute it at one input. -/
def pagingOrderWrong : ChangeSpec := { name := "pagingOrder", fn := fun _ => fun
  | [d] => { results := [.lit (.bool false)], args := [d] }
  | _ => none }
def PagingOrderWrongFalsely : Prop := pagingOrderRow.holds Try.pinned (OpenSpec.ofChange pagingOrderWrong)

/-- 'broadsheetlaw22.PagingAny': WHATEVER THE INPUT: true; the input reads as it did. -/
def pagingAnySpec : ChangeSpec := { name := "pagingAny", fn := fun _ => fun
  | [d1, d2, d3, d4] => { results := [.lit (.bool true)], args := [d1, d2, d3, d4] }
  | _ => none }
def pagingAnyRow : OpenClaim := { program := "ytjbfjgaghjggpaa", sum := "f398158363aeee92c48794da25bd202dda44b6dddfa8f2298739c9dcef4e9eff", func := "broadsheet/broadsheetlaw22.PagingAny", spec := "pagingAny", unfollowed := true, recurses := true, loops := true, apart := false }
def PagingAnySaid : Prop := pagingAnyRow.holds Try.pinned (OpenSpec.ofChange pagingAnySpec)

/-- ITS FALSE NEIGHBOUR: 'it returns false'. Refute it at one input. -/
def pagingAnyWrong : ChangeSpec := { name := "pagingAny", fn := fun _ => fun
  | [d1, d2, d3, d4] => { results := [.lit (.bool false)], args := [d1, d2, d3, d4] }
  | _ => none }
def PagingAnyWrongFalsely : Prop := pagingAnyRow.holds Try.pinned (OpenSpec.ofChange pagingAnyWrong)

/-- 'broadsheetlaw22.PagingSmall': WHATEVER THE INPUT: true; the input reads as it did. -/
def pagingSmallSpec : ChangeSpec := { name := "pagingSmall", fn := fun _ => fun
  | [d1, d2, d3] => { results := [.lit (.bool true)], args := [d1, d2, d3] }
  | _ => none }
def pagingSmallRow : OpenClaim := { program := "ytjbfjgaghjggpaa", sum := "f398158363aeee92c48794da25bd202dda44b6dddfa8f2298739c9dcef4e9eff", func := "broadsheet/broadsheetlaw22.PagingSmall", spec := "pagingSmall", unfollowed := true, recurses := true, apart := false }
def PagingSmallSaid : Prop := pagingSmallRow.holds Try.pinned (OpenSpec.ofChange pagingSmallSpec)

/-- ITS FALSE NEIGHBOUR: 'it returns false'. Refute it at one input. -/
def pagingSmallWrong : ChangeSpec := { name := "pagingSmall", fn := fun _ => fun
  | [d1, d2, d3] => { results := [.lit (.bool false)], args := [d1, d2, d3] }
  | _ => none }
def PagingSmallWrongFalsely : Prop := pagingSmallRow.holds Try.pinned (OpenSpec.ofChange pagingSmallWrong)

/-- 'broadsheetlaw22.PagingWalks': WHATEVER THE INPUT: true; the input reads as it did. -/
def pagingWalksSpec : ChangeSpec := { name := "pagingWalks", fn := fun _ => fun
  | [d1, d2] => { results := [.lit (.bool true)], args := [d1, d2] }
  | _ => none }
def pagingWalksRow : OpenClaim := { program := "ytjbfjgaghjggpaa", sum := "f398158363aeee92c48794da25bd202dda44b6dddfa8f2298739c9dcef4e9eff", func := "broadsheet/broadsheetlaw22.PagingWalks", spec := "pagingWalks", unfollowed := true, recurses := true, apart := false }
def PagingWalksSaid : Prop := pagingWalksRow.holds Try.pinned (OpenSpec.ofChange pagingWalksSpec)

/-- ITS FALSE NEIGHBOUR: 'it returns false'. Refute it at one input. -/
def pagingWalksWrong : ChangeSpec := { name := "pagingWalks", fn := fun _ => fun
  | [d1, d2] => { results := [.lit (.bool false)], args := [d1, d2] }
  | _ => none }
def PagingWalksWrongFalsely : Prop := pagingWalksRow.holds Try.pinned (OpenSpec.ofChange pagingWalksWrong)

/- THE SECOND FORM. 'bulk': how many values and letters a reading holds, each counted each time it is reached (what is shared counts as often as it is met; a slice's spare places count too). A statement '..UptoSaid' is the law's where the arguments, and the package variables that the reading takes, are together of bulk at most 1048576: NARROWER than '..Said'. Prove '..Said' where nothing that the law and all that it calls make is longer than what came in: it says more and counts as full. Else prove '..UptoSaid'. A law counts once. -/
mutual
def uptoBulk {H : Type} : DataW H → Nat
  | .lit (.string bytes) => bytes.length + 1
  | .lit _ => 1
  | .nil => 1
  | .ptr d => uptoBulk d + 1
  | .slice elems spare => uptoBulkAll elems + uptoBulkAll spare + 1
  | .agg parts => uptoBulkAll parts + 1
  | .iface _ d => uptoBulk d + 1
  | .map entries => uptoBulkEntries entries + 1
  | .held _ => 1
def uptoBulkAll {H : Type} : List (DataW H) → Nat
  | [] => 0
  | d :: r => uptoBulk d + uptoBulkAll r
def uptoBulkEntries {H : Type} : List (Lit × DataW H) → Nat
  | [] => 0
  | x :: r => uptoBulkEntry x + uptoBulkEntries r
def uptoBulkEntry {H : Type} : Lit × DataW H → Nat
  | (.string bytes, d) => bytes.length + uptoBulk d + 1
  | (_, d) => uptoBulk d + 1
 end
def uptoSmall : (H : Type) → List (DataW H) → Bool := fun _ ds => decide (uptoBulkAll ds ≤ 1048576)
def OpenSpec.upto (s : _root_.Go.ChangeSpec) : _root_.Go.OpenSpec := { _root_.Go.OpenSpec.ofChange s with cond := some uptoSmall }

/-- 'broadsheetlaw22.PagingOrder', WHERE WHAT IT READS IS OF BULK AT MOST 1048576: true; the input reads as it did. -/
def pagingOrderUptoRow : OpenClaim := { program := "ytjbfjgaghjggpaa", sum := "f398158363aeee92c48794da25bd202dda44b6dddfa8f2298739c9dcef4e9eff", func := "broadsheet/broadsheetlaw22.PagingOrder", spec := "pagingOrder", unfollowed := true, recurses := true, apart := false, narrowed := true }
def PagingOrderUptoSaid : Prop := pagingOrderUptoRow.holds Try.pinned (OpenSpec.upto pagingOrderSpec)

/-- 'broadsheetlaw22.PagingAny', WHERE WHAT IT READS IS OF BULK AT MOST 1048576: true; the input reads as it did. -/
def pagingAnyUptoRow : OpenClaim := { program := "ytjbfjgaghjggpaa", sum := "f398158363aeee92c48794da25bd202dda44b6dddfa8f2298739c9dcef4e9eff", func := "broadsheet/broadsheetlaw22.PagingAny", spec := "pagingAny", unfollowed := true, recurses := true, loops := true, apart := false, narrowed := true }
def PagingAnyUptoSaid : Prop := pagingAnyUptoRow.holds Try.pinned (OpenSpec.upto pagingAnySpec)

/-- 'broadsheetlaw22.PagingSmall', WHERE WHAT IT READS IS OF BULK AT MOST 1048576: true; the input reads as it did. -/
def pagingSmallUptoRow : OpenClaim := { program := "ytjbfjgaghjggpaa", sum := "f398158363aeee92c48794da25bd202dda44b6dddfa8f2298739c9dcef4e9eff", func := "broadsheet/broadsheetlaw22.PagingSmall", spec := "pagingSmall", unfollowed := true, recurses := true, apart := false, narrowed := true }
def PagingSmallUptoSaid : Prop := pagingSmallUptoRow.holds Try.pinned (OpenSpec.upto pagingSmallSpec)

/-- 'broadsheetlaw22.PagingWalks', WHERE WHAT IT READS IS OF BULK AT MOST 1048576: true; the input reads as it did. -/
def pagingWalksUptoRow : OpenClaim := { program := "ytjbfjgaghjggpaa", sum := "f398158363aeee92c48794da25bd202dda44b6dddfa8f2298739c9dcef4e9eff", func := "broadsheet/broadsheetlaw22.PagingWalks", spec := "pagingWalks", unfollowed := true, recurses := true, apart := false, narrowed := true }
def PagingWalksUptoSaid : Prop := pagingWalksUptoRow.holds Try.pinned (OpenSpec.upto pagingWalksSpec)

end Rows
end Go.Proofs.Ytjbfjgaghjggpaa
