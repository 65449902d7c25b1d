/- DatePrints: what the law's function answers, in plain Lean. -/
import Derived.Test.YtfcmdameiabjmaaDoorAwk
import Derived.Test.YtfcmdameiabjmaaDoorPrb
import Derived.Test.YtfcmdameiabjmaaDoorPrx9
set_option linter.unusedVariables false
namespace Go.Proofs.YtfcmdameiabjmaaDoor.Pure
open Go.RowKit Go.Proofs.YtfcmdameiabjmaaDoor.Pr Go.Proofs.YtfcmdameiabjmaaDoorW.PrintWords Go.Proofs.YtfcmdameiabjmaaDoorW.PrintLast Go.Proofs.YtfcmdameiabjmaaDoor.Fun
theorem both (a b : Int) : ∃ t : ByteArray × Int, date_Print.f 6000 a b = some t ∧ broadsheetref11_Print.f 6000 a b = some t := by
  by_cases h : inR a b
  · exact ⟨_, print_ok 6000 (by decide) a b h, rprint_ok 6000 (by decide) a b h⟩
  · exact ⟨_, print_bad 6000 (by decide) a b h, rprint_bad 6000 (by decide) a b h⟩
theorem rcmp_eq (a b c d : Int) : broadsheetref11_Cmp.f 6000 a b c d = some (cmpR a b c d) := by
  unfold broadsheetref11_Cmp.f cmpR cmpI
  simp only [broadsheetref11_Cmp.j0]
  by_cases h1 : a < c
  · rw [if_pos h1, if_pos trivial, if_pos h1]; rfl
  · rw [if_neg h1]
    by_cases h2 : a = c
    · subst h2
      rw [if_pos rfl, if_neg (Int.lt_irrefl a), if_neg (Int.lt_irrefl a)]
      by_cases h3 : b < d
      · rw [decide_eq_true h3, if_pos rfl, if_pos rfl, if_pos h3]
      · rw [decide_eq_false h3, if_neg (by decide), if_pos rfl, if_neg h3]
        by_cases h4 : b = d
        · subst h4; simp
        · have : b > d := by omega
          rw [if_pos this]; simp [h4]
    · rw [if_neg h2, if_neg h1, if_pos (show a > c by omega)]
      simp [h2]
theorem DatePrints : ∀ (a0_0 a0_1 a1_0 a1_1 : Int), (Lit.int .i64 a0_0).wf = true → (Lit.int .i64 a0_1).wf = true → (Lit.int .i64 a1_0).wf = true → (Lit.int .i64 a1_1).wf = true → ∃ k, broadsheetlaw11_DatePrints.f k a0_0 a0_1 a1_0 a1_1 = some true := by
  intro a b c d _ _ _ _
  refine ⟨6000, ?_⟩
  unfold broadsheetlaw11_DatePrints.f
  obtain ⟨t, e1, e2⟩ := both a b
  rw [e1, e2, awake_eq 6000 (by decide), cmp_eq 6000 (by decide), rcmp_eq]
  simp
end Go.Proofs.YtfcmdameiabjmaaDoor.Pure
