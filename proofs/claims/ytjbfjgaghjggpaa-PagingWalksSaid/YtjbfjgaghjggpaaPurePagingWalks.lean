/- PagingWalks: what is asked of its numbers. -/
import Derived.Test.YtjbfjgaghjggpaaPrx0
import Derived.OpenShut
set_option linter.unusedVariables false
namespace Go.Proofs.Ytjbfjgaghjggpaa.Pure
open Go.RowKit Go.Proofs.Ytjbfjgaghjggpaa.Pr
theorem PagingWalks (l : List S47) (a1 : Int) (h : (Lit.int .u8 a1).wf = true) : ∃ k : Nat, true = true ∧ 0 ≤ a1 ∧ a1 ≤ 255 := ⟨0, rfl, Go.bounds_u8 h⟩
end Go.Proofs.Ytjbfjgaghjggpaa.Pure
