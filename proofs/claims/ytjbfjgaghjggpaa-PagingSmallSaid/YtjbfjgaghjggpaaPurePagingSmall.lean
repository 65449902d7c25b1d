/- PagingSmall's plain statement: members of numbers are at most sixty; what is held to be alike is so. No memory in sight. -/
import Derived.Test.YtjbfjgaghjggpaaMem
import Derived.Test.YtjbfjgaghjggpaaPrx4
set_option linter.unusedVariables false
namespace Go.Proofs.Ytjbfjgaghjggpaa.Pure
open Go.RowKit Go.Proofs.Ytjbfjgaghjggpaa.Mem Go.Proofs.Ytjbfjgaghjggpaa.Pr

theorem PagingSmall (l : List S47) (a1 a2 : Int) (_ : (Lit.int .u8 a1).wf = true) (_ : (Lit.int .u8 a2).wf = true) : ∃ k, broadsheetlaw22_PagingSmall.f k l a1 a2 = some true := by
  obtain ⟨k, hk⟩ := members_f l
  refine ⟨k, ?_⟩
  unfold broadsheetlaw22_PagingSmall.f Gv.broadsheetlaw22_awake.f Gv.broadsheetlaw22_same.f
  rw [hk]
  simp only [Option.bind_some, if_true]
  rw [if_pos (by rw [mems_len]; omega)]
  rfl
end Go.Proofs.Ytjbfjgaghjggpaa.Pure
