/- DateParses: what the law's function answers, in plain Lean. -/
import Derived.Test.YtfcmdameiabjmaaDoorAwk
import Derived.Test.YtfcmdameiabjmaaDoorParD
set_option linter.unusedVariables false
namespace Go.Proofs.YtfcmdameiabjmaaDoor.Pure
open Go.RowKit Go.Proofs.YtfcmdameiabjmaaDoor.Pr Go.Proofs.YtfcmdameiabjmaaDoorW.PrintWords Go.Proofs.YtfcmdameiabjmaaDoorW.PrintLast Go.Proofs.YtfcmdameiabjmaaDoor.Fun
theorem DateParses : broadsheetlaw11_DateParses.Pure := by
  intro s hs
  refine ⟨5000, ?_⟩
  unfold broadsheetlaw11_DateParses.f
  rw [awake_eq 5000 (by decide)]
  by_cases h : (s.size : Int) > 300
  · rw [if_pos h]; rfl
  · rw [if_neg h, rparse_eq s (by omega) 5000 (by decide)]
    unfold Go.Proofs.YtfcmdameiabjmaaDoor.Txt.date_Parse.f
    rw [if_pos (by omega)]
    simp
end Go.Proofs.YtfcmdameiabjmaaDoor.Pure
