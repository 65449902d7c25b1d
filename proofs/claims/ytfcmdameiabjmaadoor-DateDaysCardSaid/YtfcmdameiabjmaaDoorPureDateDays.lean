/- DateDays: what the law's function answers, in plain Lean. -/
import Derived.Test.YtfcmdameiabjmaaDoorAwk
import Derived.Test.YtfcmdameiabjmaaDoorBck
import Derived.Test.YtfcmdameiabjmaaDoorPrb
import Derived.Test.YtfcmdameiabjmaaDoorPrx10
set_option linter.unusedVariables false
namespace Go.Proofs.YtfcmdameiabjmaaDoor.Pure
open Go.RowKit Go.Proofs.YtfcmdameiabjmaaDoor.Pr Go.Proofs.YtfcmdameiabjmaaDoorW.PrintWords Go.Proofs.YtfcmdameiabjmaaDoorW.PrintLast Go.Proofs.YtfcmdameiabjmaaDoor.Fun
theorem dparse (s : ByteArray) (h : s.size ≤ 140737488351232) : Go.Proofs.YtfcmdameiabjmaaDoor.Txt.date_Parse.f s = some (Go.Proofs.YtfcmdameiabjmaaDoor.Txt.parseR s) := by
  unfold Go.Proofs.YtfcmdameiabjmaaDoor.Txt.date_Parse.f
  rw [if_pos h]
theorem days_loop (x : Int) (h0 : -100000000000 ≤ x) (h1 : x ≤ 400000000000) (q : Nat) : ∀ (k : Nat) (j : Int), 0 ≤ j → j ≤ 370 → (370 - j).toNat = q → q + 5100 ≤ k → broadsheetlaw11_DateDays.l0 k x j = some true := by
  induction q with
  | zero =>
    intro k j hj hj2 hq hk
    obtain ⟨k, rfl⟩ : ∃ q, k = q + 1 := ⟨k - 1, by omega⟩
    simp only [broadsheetlaw11_DateDays.l0]
    rw [if_neg (by omega), awake_eq k (by omega)]
    rfl
  | succ q ih =>
    intro k j hj hj2 hq hk
    obtain ⟨k, rfl⟩ : ∃ q, k = q + 1 := ⟨k - 1, by omega⟩
    have step := ih k (j + 1) (by omega) (by omega) (by omega) (by omega)
    simp only [broadsheetlaw11_DateDays.l0]
    rw [if_pos (by omega), w64 (n := j * 86400) (by omega), w64 (n := x + j * 86400) (by omega), w64 (n := j + 1) (by omega), step]
    generalize x + j * 86400 = a
    by_cases hr : inR a 0
    · rw [print_ok k (by omega) _ _ hr, rprint_ok k (by omega) _ _ hr]
      simp only [Option.bind_some]
      rw [dparse _ (by have := printT_size _ _ hr; omega), parse_print _ _ hr]
      simp
    · rw [print_bad k (by omega) _ _ hr, rprint_bad k (by omega) _ _ hr]
      simp only [Option.bind_some]
      rw [dparse _ (by decide), parse_bad0]
      simp
theorem DateDays : broadsheetlaw11_DateDays.Pure := by
  intro a b ha hb
  refine ⟨6000, ?_⟩
  unfold broadsheetlaw11_DateDays.f
  have ha' : 0 ≤ a ∧ a ≤ 65535 := wf16 ha
  have hb' : 0 ≤ b ∧ b ≤ 4294967295 := wf32 hb
  rw [w64 (n := a) (by omega), w64 (n := b) (by omega), tm ha'.1, tm hb'.1, w64 (n := a % 10000 * 31556952) (by omega), w64 (n := -62167219200 + a % 10000 * 31556952) (by omega), w64 (by omega)]
  exact days_loop _ (by omega) (by omega) _ 6000 0 (by omega) (by omega) rfl (by omega)
end Go.Proofs.YtfcmdameiabjmaaDoor.Pure
