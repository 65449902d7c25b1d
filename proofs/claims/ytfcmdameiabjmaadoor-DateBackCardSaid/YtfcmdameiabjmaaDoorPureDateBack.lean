/- DateBack: what the law's function answers, in plain Lean. -/
import Derived.Test.YtfcmdameiabjmaaDoorAwk
import Derived.Test.YtfcmdameiabjmaaDoorBck
import Derived.Test.YtfcmdameiabjmaaDoorPrx10
set_option linter.unusedVariables false
namespace Go.Proofs.YtfcmdameiabjmaaDoor.Pure
open Go.RowKit Go.Proofs.YtfcmdameiabjmaaDoor.Pr Go.Proofs.YtfcmdameiabjmaaDoorW.PrintWords Go.Proofs.YtfcmdameiabjmaaDoorW.PrintLast Go.Proofs.YtfcmdameiabjmaaDoor.Fun
theorem dparse (s : ByteArray) (h : s.size ≤ 140737488351232) : Go.Proofs.YtfcmdameiabjmaaDoor.Txt.date_Parse.f s = some (Go.Proofs.YtfcmdameiabjmaaDoor.Txt.parseR s) := by
  unfold Go.Proofs.YtfcmdameiabjmaaDoor.Txt.date_Parse.f
  rw [if_pos h]
theorem back_j0 (k : Nat) (hk : 10 ≤ k) (s : ByteArray) : broadsheetlaw11_DateBack.j0 k s true = some true := by
  obtain ⟨k, rfl⟩ : ∃ q, k = q + 1 := ⟨k - 1, by omega⟩
  simp only [broadsheetlaw11_DateBack.j0]
  by_cases h : (s.size : Int) > 300
  · rw [if_pos h]
  · rw [if_neg h, dparse s (by omega)]
    simp only [Option.bind_some]
    generalize Go.Proofs.YtfcmdameiabjmaaDoor.Txt.parseR s = p
    by_cases hr : inR p.1 p.2.1
    · rw [print_ok k (by omega) _ _ hr]
      simp only [Option.bind_some]
      rw [dparse _ (by have := printT_size _ _ hr; omega), parse_print _ _ hr]
      simp
    · rw [print_bad k (by omega) _ _ hr]
      simp only [Option.bind_some]
      rw [dparse _ (by decide), parse_bad0]
      simp
theorem DateBack : ∀ (a0_0 a0_1 : Int) (a1 : ByteArray), (Lit.int .i64 a0_0).wf = true → (Lit.int .i64 a0_1).wf = true → a1.size ≤ 140737488351232 → ∃ k, broadsheetlaw11_DateBack.f k a0_0 a0_1 a1 = some true := by
  intro a b s _ _ hs
  refine ⟨50, ?_⟩
  unfold broadsheetlaw11_DateBack.f
  rw [awake_eq 50 (by decide)]
  simp only [Option.bind_some]
  rw [if_pos trivial]
  by_cases hr : inR a b
  · rw [print_ok 50 (by omega) _ _ hr]
    simp only [Option.bind_some]
    rw [if_pos trivial, dparse _ (by have := printT_size _ _ hr; omega), parse_print _ _ hr]
    simp only [Option.bind_some]
    rw [if_pos trivial, if_neg (by simp)]
    exact back_j0 50 (by decide) s
  · rw [print_bad 50 (by omega) _ _ hr]
    simp only [Option.bind_some]
    rw [if_neg (by decide)]
    exact back_j0 50 (by decide) s
end Go.Proofs.YtfcmdameiabjmaaDoor.Pure
