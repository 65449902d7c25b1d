-- Written by given.py, a program of this session, over the kit's printer.
import Derived.Test.YtfcmdameiabjmaaDoorPrx0
namespace Go.Proofs.YtfcmdameiabjmaaDoor.Pr
open Go.RowKit Go.Proofs.YtfcmdameiabjmaaDoorW.PrintWords Go.Proofs.YtfcmdameiabjmaaDoorW.PrintLast Go.Proofs.YtfcmdameiabjmaaDoorW.PrintMore
attribute [local go_sem] max2_int min2_int max_two min_two max_three min_three max_four min_four   -- for this text's walks alone
set_option linter.unusedVariables false
set_option linter.unusedSimpArgs false

/-! ### date_civil: function 29 -/
def date_civil.f (a0 : Int) : Option (Int × Int × Int) := if (wrap64 (Int.tdiv (wrap64 ((wrap64 (5 * (wrap64 ((Int.tmod a0 146097) - (wrap64 ((wrap64 ((wrap64 (365 * (wrap64 (Int.tdiv (wrap64 ((wrap64 ((wrap64 ((Int.tmod a0 146097) - (wrap64 (Int.tdiv (Int.tmod a0 146097) 1460)))) + (wrap64 (Int.tdiv (Int.tmod a0 146097) 36524)))) - (wrap64 (Int.tdiv (Int.tmod a0 146097) 146096)))) 365)))) + (wrap64 (Int.tdiv (wrap64 (Int.tdiv (wrap64 ((wrap64 ((wrap64 ((Int.tmod a0 146097) - (wrap64 (Int.tdiv (Int.tmod a0 146097) 1460)))) + (wrap64 (Int.tdiv (Int.tmod a0 146097) 36524)))) - (wrap64 (Int.tdiv (Int.tmod a0 146097) 146096)))) 365)) 4)))) - (wrap64 (Int.tdiv (wrap64 (Int.tdiv (wrap64 ((wrap64 ((wrap64 ((Int.tmod a0 146097) - (wrap64 (Int.tdiv (Int.tmod a0 146097) 1460)))) + (wrap64 (Int.tdiv (Int.tmod a0 146097) 36524)))) - (wrap64 (Int.tdiv (Int.tmod a0 146097) 146096)))) 365)) 100)))))))) + 2)) 153)) < 10 then (some (wrap64 ((wrap64 (Int.tdiv (wrap64 ((wrap64 ((wrap64 ((Int.tmod a0 146097) - (wrap64 (Int.tdiv (Int.tmod a0 146097) 1460)))) + (wrap64 (Int.tdiv (Int.tmod a0 146097) 36524)))) - (wrap64 (Int.tdiv (Int.tmod a0 146097) 146096)))) 365)) + (wrap64 ((wrap64 ((wrap64 (Int.tdiv a0 146097)) * 400)) - 400))), wrap64 ((wrap64 (Int.tdiv (wrap64 ((wrap64 (5 * (wrap64 ((Int.tmod a0 146097) - (wrap64 ((wrap64 ((wrap64 (365 * (wrap64 (Int.tdiv (wrap64 ((wrap64 ((wrap64 ((Int.tmod a0 146097) - (wrap64 (Int.tdiv (Int.tmod a0 146097) 1460)))) + (wrap64 (Int.tdiv (Int.tmod a0 146097) 36524)))) - (wrap64 (Int.tdiv (Int.tmod a0 146097) 146096)))) 365)))) + (wrap64 (Int.tdiv (wrap64 (Int.tdiv (wrap64 ((wrap64 ((wrap64 ((Int.tmod a0 146097) - (wrap64 (Int.tdiv (Int.tmod a0 146097) 1460)))) + (wrap64 (Int.tdiv (Int.tmod a0 146097) 36524)))) - (wrap64 (Int.tdiv (Int.tmod a0 146097) 146096)))) 365)) 4)))) - (wrap64 (Int.tdiv (wrap64 (Int.tdiv (wrap64 ((wrap64 ((wrap64 ((Int.tmod a0 146097) - (wrap64 (Int.tdiv (Int.tmod a0 146097) 1460)))) + (wrap64 (Int.tdiv (Int.tmod a0 146097) 36524)))) - (wrap64 (Int.tdiv (Int.tmod a0 146097) 146096)))) 365)) 100)))))))) + 2)) 153)) + 3), wrap64 ((wrap64 ((wrap64 ((Int.tmod a0 146097) - (wrap64 ((wrap64 ((wrap64 (365 * (wrap64 (Int.tdiv (wrap64 ((wrap64 ((wrap64 ((Int.tmod a0 146097) - (wrap64 (Int.tdiv (Int.tmod a0 146097) 1460)))) + (wrap64 (Int.tdiv (Int.tmod a0 146097) 36524)))) - (wrap64 (Int.tdiv (Int.tmod a0 146097) 146096)))) 365)))) + (wrap64 (Int.tdiv (wrap64 (Int.tdiv (wrap64 ((wrap64 ((wrap64 ((Int.tmod a0 146097) - (wrap64 (Int.tdiv (Int.tmod a0 146097) 1460)))) + (wrap64 (Int.tdiv (Int.tmod a0 146097) 36524)))) - (wrap64 (Int.tdiv (Int.tmod a0 146097) 146096)))) 365)) 4)))) - (wrap64 (Int.tdiv (wrap64 (Int.tdiv (wrap64 ((wrap64 ((wrap64 ((Int.tmod a0 146097) - (wrap64 (Int.tdiv (Int.tmod a0 146097) 1460)))) + (wrap64 (Int.tdiv (Int.tmod a0 146097) 36524)))) - (wrap64 (Int.tdiv (Int.tmod a0 146097) 146096)))) 365)) 100)))))) - (wrap64 (Int.tdiv (wrap64 ((wrap64 (153 * (wrap64 (Int.tdiv (wrap64 ((wrap64 (5 * (wrap64 ((Int.tmod a0 146097) - (wrap64 ((wrap64 ((wrap64 (365 * (wrap64 (Int.tdiv (wrap64 ((wrap64 ((wrap64 ((Int.tmod a0 146097) - (wrap64 (Int.tdiv (Int.tmod a0 146097) 1460)))) + (wrap64 (Int.tdiv (Int.tmod a0 146097) 36524)))) - (wrap64 (Int.tdiv (Int.tmod a0 146097) 146096)))) 365)))) + (wrap64 (Int.tdiv (wrap64 (Int.tdiv (wrap64 ((wrap64 ((wrap64 ((Int.tmod a0 146097) - (wrap64 (Int.tdiv (Int.tmod a0 146097) 1460)))) + (wrap64 (Int.tdiv (Int.tmod a0 146097) 36524)))) - (wrap64 (Int.tdiv (Int.tmod a0 146097) 146096)))) 365)) 4)))) - (wrap64 (Int.tdiv (wrap64 (Int.tdiv (wrap64 ((wrap64 ((wrap64 ((Int.tmod a0 146097) - (wrap64 (Int.tdiv (Int.tmod a0 146097) 1460)))) + (wrap64 (Int.tdiv (Int.tmod a0 146097) 36524)))) - (wrap64 (Int.tdiv (Int.tmod a0 146097) 146096)))) 365)) 100)))))))) + 2)) 153)))) + 2)) 5)))) + 1))) else (some (wrap64 ((wrap64 ((wrap64 (Int.tdiv (wrap64 ((wrap64 ((wrap64 ((Int.tmod a0 146097) - (wrap64 (Int.tdiv (Int.tmod a0 146097) 1460)))) + (wrap64 (Int.tdiv (Int.tmod a0 146097) 36524)))) - (wrap64 (Int.tdiv (Int.tmod a0 146097) 146096)))) 365)) + (wrap64 ((wrap64 ((wrap64 (Int.tdiv a0 146097)) * 400)) - 400)))) + 1), wrap64 ((wrap64 (Int.tdiv (wrap64 ((wrap64 (5 * (wrap64 ((Int.tmod a0 146097) - (wrap64 ((wrap64 ((wrap64 (365 * (wrap64 (Int.tdiv (wrap64 ((wrap64 ((wrap64 ((Int.tmod a0 146097) - (wrap64 (Int.tdiv (Int.tmod a0 146097) 1460)))) + (wrap64 (Int.tdiv (Int.tmod a0 146097) 36524)))) - (wrap64 (Int.tdiv (Int.tmod a0 146097) 146096)))) 365)))) + (wrap64 (Int.tdiv (wrap64 (Int.tdiv (wrap64 ((wrap64 ((wrap64 ((Int.tmod a0 146097) - (wrap64 (Int.tdiv (Int.tmod a0 146097) 1460)))) + (wrap64 (Int.tdiv (Int.tmod a0 146097) 36524)))) - (wrap64 (Int.tdiv (Int.tmod a0 146097) 146096)))) 365)) 4)))) - (wrap64 (Int.tdiv (wrap64 (Int.tdiv (wrap64 ((wrap64 ((wrap64 ((Int.tmod a0 146097) - (wrap64 (Int.tdiv (Int.tmod a0 146097) 1460)))) + (wrap64 (Int.tdiv (Int.tmod a0 146097) 36524)))) - (wrap64 (Int.tdiv (Int.tmod a0 146097) 146096)))) 365)) 100)))))))) + 2)) 153)) - 9), wrap64 ((wrap64 ((wrap64 ((Int.tmod a0 146097) - (wrap64 ((wrap64 ((wrap64 (365 * (wrap64 (Int.tdiv (wrap64 ((wrap64 ((wrap64 ((Int.tmod a0 146097) - (wrap64 (Int.tdiv (Int.tmod a0 146097) 1460)))) + (wrap64 (Int.tdiv (Int.tmod a0 146097) 36524)))) - (wrap64 (Int.tdiv (Int.tmod a0 146097) 146096)))) 365)))) + (wrap64 (Int.tdiv (wrap64 (Int.tdiv (wrap64 ((wrap64 ((wrap64 ((Int.tmod a0 146097) - (wrap64 (Int.tdiv (Int.tmod a0 146097) 1460)))) + (wrap64 (Int.tdiv (Int.tmod a0 146097) 36524)))) - (wrap64 (Int.tdiv (Int.tmod a0 146097) 146096)))) 365)) 4)))) - (wrap64 (Int.tdiv (wrap64 (Int.tdiv (wrap64 ((wrap64 ((wrap64 ((Int.tmod a0 146097) - (wrap64 (Int.tdiv (Int.tmod a0 146097) 1460)))) + (wrap64 (Int.tdiv (Int.tmod a0 146097) 36524)))) - (wrap64 (Int.tdiv (Int.tmod a0 146097) 146096)))) 365)) 100)))))) - (wrap64 (Int.tdiv (wrap64 ((wrap64 (153 * (wrap64 (Int.tdiv (wrap64 ((wrap64 (5 * (wrap64 ((Int.tmod a0 146097) - (wrap64 ((wrap64 ((wrap64 (365 * (wrap64 (Int.tdiv (wrap64 ((wrap64 ((wrap64 ((Int.tmod a0 146097) - (wrap64 (Int.tdiv (Int.tmod a0 146097) 1460)))) + (wrap64 (Int.tdiv (Int.tmod a0 146097) 36524)))) - (wrap64 (Int.tdiv (Int.tmod a0 146097) 146096)))) 365)))) + (wrap64 (Int.tdiv (wrap64 (Int.tdiv (wrap64 ((wrap64 ((wrap64 ((Int.tmod a0 146097) - (wrap64 (Int.tdiv (Int.tmod a0 146097) 1460)))) + (wrap64 (Int.tdiv (Int.tmod a0 146097) 36524)))) - (wrap64 (Int.tdiv (Int.tmod a0 146097) 146096)))) 365)) 4)))) - (wrap64 (Int.tdiv (wrap64 (Int.tdiv (wrap64 ((wrap64 ((wrap64 ((Int.tmod a0 146097) - (wrap64 (Int.tdiv (Int.tmod a0 146097) 1460)))) + (wrap64 (Int.tdiv (Int.tmod a0 146097) 36524)))) - (wrap64 (Int.tdiv (Int.tmod a0 146097) 146096)))) 365)) 100)))))))) + 2)) 153)))) + 2)) 5)))) + 1)))
set_option maxHeartbeats 8000000 in
set_option maxRecDepth 100000 in
theorem date_civil.calls (a0 : Int) (r1 : Int) (r2 : Int) (r3 : Int) (w : World) (h : date_civil.f a0 = some (r1, r2, r3)) :
    Calls Tryd.prog 29 #[.int .i64 a0] w fun e w' => e = .returned (.tuple #[.int .i64 r1, .int .i64 r2, .int .i64 r3]) ∧ Drawn0 w w' := by
  have H : (if (wrap64 (Int.tdiv (wrap64 ((wrap64 (5 * (wrap64 ((Int.tmod a0 146097) - (wrap64 ((wrap64 ((wrap64 (365 * (wrap64 (Int.tdiv (wrap64 ((wrap64 ((wrap64 ((Int.tmod a0 146097) - (wrap64 (Int.tdiv (Int.tmod a0 146097) 1460)))) + (wrap64 (Int.tdiv (Int.tmod a0 146097) 36524)))) - (wrap64 (Int.tdiv (Int.tmod a0 146097) 146096)))) 365)))) + (wrap64 (Int.tdiv (wrap64 (Int.tdiv (wrap64 ((wrap64 ((wrap64 ((Int.tmod a0 146097) - (wrap64 (Int.tdiv (Int.tmod a0 146097) 1460)))) + (wrap64 (Int.tdiv (Int.tmod a0 146097) 36524)))) - (wrap64 (Int.tdiv (Int.tmod a0 146097) 146096)))) 365)) 4)))) - (wrap64 (Int.tdiv (wrap64 (Int.tdiv (wrap64 ((wrap64 ((wrap64 ((Int.tmod a0 146097) - (wrap64 (Int.tdiv (Int.tmod a0 146097) 1460)))) + (wrap64 (Int.tdiv (Int.tmod a0 146097) 36524)))) - (wrap64 (Int.tdiv (Int.tmod a0 146097) 146096)))) 365)) 100)))))))) + 2)) 153)) < 10 then (some (wrap64 ((wrap64 (Int.tdiv (wrap64 ((wrap64 ((wrap64 ((Int.tmod a0 146097) - (wrap64 (Int.tdiv (Int.tmod a0 146097) 1460)))) + (wrap64 (Int.tdiv (Int.tmod a0 146097) 36524)))) - (wrap64 (Int.tdiv (Int.tmod a0 146097) 146096)))) 365)) + (wrap64 ((wrap64 ((wrap64 (Int.tdiv a0 146097)) * 400)) - 400))), wrap64 ((wrap64 (Int.tdiv (wrap64 ((wrap64 (5 * (wrap64 ((Int.tmod a0 146097) - (wrap64 ((wrap64 ((wrap64 (365 * (wrap64 (Int.tdiv (wrap64 ((wrap64 ((wrap64 ((Int.tmod a0 146097) - (wrap64 (Int.tdiv (Int.tmod a0 146097) 1460)))) + (wrap64 (Int.tdiv (Int.tmod a0 146097) 36524)))) - (wrap64 (Int.tdiv (Int.tmod a0 146097) 146096)))) 365)))) + (wrap64 (Int.tdiv (wrap64 (Int.tdiv (wrap64 ((wrap64 ((wrap64 ((Int.tmod a0 146097) - (wrap64 (Int.tdiv (Int.tmod a0 146097) 1460)))) + (wrap64 (Int.tdiv (Int.tmod a0 146097) 36524)))) - (wrap64 (Int.tdiv (Int.tmod a0 146097) 146096)))) 365)) 4)))) - (wrap64 (Int.tdiv (wrap64 (Int.tdiv (wrap64 ((wrap64 ((wrap64 ((Int.tmod a0 146097) - (wrap64 (Int.tdiv (Int.tmod a0 146097) 1460)))) + (wrap64 (Int.tdiv (Int.tmod a0 146097) 36524)))) - (wrap64 (Int.tdiv (Int.tmod a0 146097) 146096)))) 365)) 100)))))))) + 2)) 153)) + 3), wrap64 ((wrap64 ((wrap64 ((Int.tmod a0 146097) - (wrap64 ((wrap64 ((wrap64 (365 * (wrap64 (Int.tdiv (wrap64 ((wrap64 ((wrap64 ((Int.tmod a0 146097) - (wrap64 (Int.tdiv (Int.tmod a0 146097) 1460)))) + (wrap64 (Int.tdiv (Int.tmod a0 146097) 36524)))) - (wrap64 (Int.tdiv (Int.tmod a0 146097) 146096)))) 365)))) + (wrap64 (Int.tdiv (wrap64 (Int.tdiv (wrap64 ((wrap64 ((wrap64 ((Int.tmod a0 146097) - (wrap64 (Int.tdiv (Int.tmod a0 146097) 1460)))) + (wrap64 (Int.tdiv (Int.tmod a0 146097) 36524)))) - (wrap64 (Int.tdiv (Int.tmod a0 146097) 146096)))) 365)) 4)))) - (wrap64 (Int.tdiv (wrap64 (Int.tdiv (wrap64 ((wrap64 ((wrap64 ((Int.tmod a0 146097) - (wrap64 (Int.tdiv (Int.tmod a0 146097) 1460)))) + (wrap64 (Int.tdiv (Int.tmod a0 146097) 36524)))) - (wrap64 (Int.tdiv (Int.tmod a0 146097) 146096)))) 365)) 100)))))) - (wrap64 (Int.tdiv (wrap64 ((wrap64 (153 * (wrap64 (Int.tdiv (wrap64 ((wrap64 (5 * (wrap64 ((Int.tmod a0 146097) - (wrap64 ((wrap64 ((wrap64 (365 * (wrap64 (Int.tdiv (wrap64 ((wrap64 ((wrap64 ((Int.tmod a0 146097) - (wrap64 (Int.tdiv (Int.tmod a0 146097) 1460)))) + (wrap64 (Int.tdiv (Int.tmod a0 146097) 36524)))) - (wrap64 (Int.tdiv (Int.tmod a0 146097) 146096)))) 365)))) + (wrap64 (Int.tdiv (wrap64 (Int.tdiv (wrap64 ((wrap64 ((wrap64 ((Int.tmod a0 146097) - (wrap64 (Int.tdiv (Int.tmod a0 146097) 1460)))) + (wrap64 (Int.tdiv (Int.tmod a0 146097) 36524)))) - (wrap64 (Int.tdiv (Int.tmod a0 146097) 146096)))) 365)) 4)))) - (wrap64 (Int.tdiv (wrap64 (Int.tdiv (wrap64 ((wrap64 ((wrap64 ((Int.tmod a0 146097) - (wrap64 (Int.tdiv (Int.tmod a0 146097) 1460)))) + (wrap64 (Int.tdiv (Int.tmod a0 146097) 36524)))) - (wrap64 (Int.tdiv (Int.tmod a0 146097) 146096)))) 365)) 100)))))))) + 2)) 153)))) + 2)) 5)))) + 1))) else (some (wrap64 ((wrap64 ((wrap64 (Int.tdiv (wrap64 ((wrap64 ((wrap64 ((Int.tmod a0 146097) - (wrap64 (Int.tdiv (Int.tmod a0 146097) 1460)))) + (wrap64 (Int.tdiv (Int.tmod a0 146097) 36524)))) - (wrap64 (Int.tdiv (Int.tmod a0 146097) 146096)))) 365)) + (wrap64 ((wrap64 ((wrap64 (Int.tdiv a0 146097)) * 400)) - 400)))) + 1), wrap64 ((wrap64 (Int.tdiv (wrap64 ((wrap64 (5 * (wrap64 ((Int.tmod a0 146097) - (wrap64 ((wrap64 ((wrap64 (365 * (wrap64 (Int.tdiv (wrap64 ((wrap64 ((wrap64 ((Int.tmod a0 146097) - (wrap64 (Int.tdiv (Int.tmod a0 146097) 1460)))) + (wrap64 (Int.tdiv (Int.tmod a0 146097) 36524)))) - (wrap64 (Int.tdiv (Int.tmod a0 146097) 146096)))) 365)))) + (wrap64 (Int.tdiv (wrap64 (Int.tdiv (wrap64 ((wrap64 ((wrap64 ((Int.tmod a0 146097) - (wrap64 (Int.tdiv (Int.tmod a0 146097) 1460)))) + (wrap64 (Int.tdiv (Int.tmod a0 146097) 36524)))) - (wrap64 (Int.tdiv (Int.tmod a0 146097) 146096)))) 365)) 4)))) - (wrap64 (Int.tdiv (wrap64 (Int.tdiv (wrap64 ((wrap64 ((wrap64 ((Int.tmod a0 146097) - (wrap64 (Int.tdiv (Int.tmod a0 146097) 1460)))) + (wrap64 (Int.tdiv (Int.tmod a0 146097) 36524)))) - (wrap64 (Int.tdiv (Int.tmod a0 146097) 146096)))) 365)) 100)))))))) + 2)) 153)) - 9), wrap64 ((wrap64 ((wrap64 ((Int.tmod a0 146097) - (wrap64 ((wrap64 ((wrap64 (365 * (wrap64 (Int.tdiv (wrap64 ((wrap64 ((wrap64 ((Int.tmod a0 146097) - (wrap64 (Int.tdiv (Int.tmod a0 146097) 1460)))) + (wrap64 (Int.tdiv (Int.tmod a0 146097) 36524)))) - (wrap64 (Int.tdiv (Int.tmod a0 146097) 146096)))) 365)))) + (wrap64 (Int.tdiv (wrap64 (Int.tdiv (wrap64 ((wrap64 ((wrap64 ((Int.tmod a0 146097) - (wrap64 (Int.tdiv (Int.tmod a0 146097) 1460)))) + (wrap64 (Int.tdiv (Int.tmod a0 146097) 36524)))) - (wrap64 (Int.tdiv (Int.tmod a0 146097) 146096)))) 365)) 4)))) - (wrap64 (Int.tdiv (wrap64 (Int.tdiv (wrap64 ((wrap64 ((wrap64 ((Int.tmod a0 146097) - (wrap64 (Int.tdiv (Int.tmod a0 146097) 1460)))) + (wrap64 (Int.tdiv (Int.tmod a0 146097) 36524)))) - (wrap64 (Int.tdiv (Int.tmod a0 146097) 146096)))) 365)) 100)))))) - (wrap64 (Int.tdiv (wrap64 ((wrap64 (153 * (wrap64 (Int.tdiv (wrap64 ((wrap64 (5 * (wrap64 ((Int.tmod a0 146097) - (wrap64 ((wrap64 ((wrap64 (365 * (wrap64 (Int.tdiv (wrap64 ((wrap64 ((wrap64 ((Int.tmod a0 146097) - (wrap64 (Int.tdiv (Int.tmod a0 146097) 1460)))) + (wrap64 (Int.tdiv (Int.tmod a0 146097) 36524)))) - (wrap64 (Int.tdiv (Int.tmod a0 146097) 146096)))) 365)))) + (wrap64 (Int.tdiv (wrap64 (Int.tdiv (wrap64 ((wrap64 ((wrap64 ((Int.tmod a0 146097) - (wrap64 (Int.tdiv (Int.tmod a0 146097) 1460)))) + (wrap64 (Int.tdiv (Int.tmod a0 146097) 36524)))) - (wrap64 (Int.tdiv (Int.tmod a0 146097) 146096)))) 365)) 4)))) - (wrap64 (Int.tdiv (wrap64 (Int.tdiv (wrap64 ((wrap64 ((wrap64 ((Int.tmod a0 146097) - (wrap64 (Int.tdiv (Int.tmod a0 146097) 1460)))) + (wrap64 (Int.tdiv (Int.tmod a0 146097) 36524)))) - (wrap64 (Int.tdiv (Int.tmod a0 146097) 146096)))) 365)) 100)))))))) + 2)) 153)))) + 2)) 5)))) + 1)))) = some (r1, r2, r3) := h
  clear h
  by_cases c2 : (wrap64 (Int.tdiv (wrap64 ((wrap64 (5 * (wrap64 ((Int.tmod a0 146097) - (wrap64 ((wrap64 ((wrap64 (365 * (wrap64 (Int.tdiv (wrap64 ((wrap64 ((wrap64 ((Int.tmod a0 146097) - (wrap64 (Int.tdiv (Int.tmod a0 146097) 1460)))) + (wrap64 (Int.tdiv (Int.tmod a0 146097) 36524)))) - (wrap64 (Int.tdiv (Int.tmod a0 146097) 146096)))) 365)))) + (wrap64 (Int.tdiv (wrap64 (Int.tdiv (wrap64 ((wrap64 ((wrap64 ((Int.tmod a0 146097) - (wrap64 (Int.tdiv (Int.tmod a0 146097) 1460)))) + (wrap64 (Int.tdiv (Int.tmod a0 146097) 36524)))) - (wrap64 (Int.tdiv (Int.tmod a0 146097) 146096)))) 365)) 4)))) - (wrap64 (Int.tdiv (wrap64 (Int.tdiv (wrap64 ((wrap64 ((wrap64 ((Int.tmod a0 146097) - (wrap64 (Int.tdiv (Int.tmod a0 146097) 1460)))) + (wrap64 (Int.tdiv (Int.tmod a0 146097) 36524)))) - (wrap64 (Int.tdiv (Int.tmod a0 146097) 146096)))) 365)) 100)))))))) + 2)) 153)) < 10
  · rw [if_pos c2] at H
    have c2b0 : decide ((wrap64 (Int.tdiv (wrap64 ((wrap64 (5 * (wrap64 ((Int.tmod a0 146097) - (wrap64 ((wrap64 ((wrap64 (365 * (wrap64 (Int.tdiv (wrap64 ((wrap64 ((wrap64 ((Int.tmod a0 146097) - (wrap64 (Int.tdiv (Int.tmod a0 146097) 1460)))) + (wrap64 (Int.tdiv (Int.tmod a0 146097) 36524)))) - (wrap64 (Int.tdiv (Int.tmod a0 146097) 146096)))) 365)))) + (wrap64 (Int.tdiv (wrap64 (Int.tdiv (wrap64 ((wrap64 ((wrap64 ((Int.tmod a0 146097) - (wrap64 (Int.tdiv (Int.tmod a0 146097) 1460)))) + (wrap64 (Int.tdiv (Int.tmod a0 146097) 36524)))) - (wrap64 (Int.tdiv (Int.tmod a0 146097) 146096)))) 365)) 4)))) - (wrap64 (Int.tdiv (wrap64 (Int.tdiv (wrap64 ((wrap64 ((wrap64 ((Int.tmod a0 146097) - (wrap64 (Int.tdiv (Int.tmod a0 146097) 1460)))) + (wrap64 (Int.tdiv (Int.tmod a0 146097) 36524)))) - (wrap64 (Int.tdiv (Int.tmod a0 146097) 146096)))) 365)) 100)))))))) + 2)) 153)) < 10) = true := decide_eq_true c2
    clear c2
    simp only [Option.some.injEq, Prod.mk.injEq] at H
    obtain ⟨rfl, rfl, rfl⟩ := H
    go_enter Tryd.func29, Tryd.ntmps29
    go_wp2
    go_ret3
    exact ⟨by first | rfl | (simp; done) | (simp [*]; done), by repeat (first | exact Drawn0.refl _ | apply Drawn0.step)⟩
  · rw [if_neg c2] at H
    have c2b0 : decide ((wrap64 (Int.tdiv (wrap64 ((wrap64 (5 * (wrap64 ((Int.tmod a0 146097) - (wrap64 ((wrap64 ((wrap64 (365 * (wrap64 (Int.tdiv (wrap64 ((wrap64 ((wrap64 ((Int.tmod a0 146097) - (wrap64 (Int.tdiv (Int.tmod a0 146097) 1460)))) + (wrap64 (Int.tdiv (Int.tmod a0 146097) 36524)))) - (wrap64 (Int.tdiv (Int.tmod a0 146097) 146096)))) 365)))) + (wrap64 (Int.tdiv (wrap64 (Int.tdiv (wrap64 ((wrap64 ((wrap64 ((Int.tmod a0 146097) - (wrap64 (Int.tdiv (Int.tmod a0 146097) 1460)))) + (wrap64 (Int.tdiv (Int.tmod a0 146097) 36524)))) - (wrap64 (Int.tdiv (Int.tmod a0 146097) 146096)))) 365)) 4)))) - (wrap64 (Int.tdiv (wrap64 (Int.tdiv (wrap64 ((wrap64 ((wrap64 ((Int.tmod a0 146097) - (wrap64 (Int.tdiv (Int.tmod a0 146097) 1460)))) + (wrap64 (Int.tdiv (Int.tmod a0 146097) 36524)))) - (wrap64 (Int.tdiv (Int.tmod a0 146097) 146096)))) 365)) 100)))))))) + 2)) 153)) < 10) = false := decide_eq_false c2
    clear c2
    simp only [Option.some.injEq, Prod.mk.injEq] at H
    obtain ⟨rfl, rfl, rfl⟩ := H
    go_enter Tryd.func29, Tryd.ntmps29
    go_wp2
    go_ret3
    exact ⟨by first | rfl | (simp; done) | (simp [*]; done), by repeat (first | exact Drawn0.refl _ | apply Drawn0.step)⟩

/-! ### date_Print: function 13 -/
def date_Print.j0 : Nat → Bool → Int → Int → Option (ByteArray × Int)
  | 0, _, _, _ => none
  | k + 1, x26, x102000, x102001 => if x26 = true then (some ((⟨#[]⟩ : ByteArray), 110)) else ((date_civil.f (wrap64 ((wrap64 ((wrap64 (Int.tdiv (wrap64 (x102000 - (Int.tmod (wrap64 (x102000 + 62167219200)) 86400))) 86400)) + 719468)) + 146097))).bind fun bt102 => ((Go.Proofs.YtfcmdameiabjmaaDoor.Txt.date_pad.f bt102.1 4).bind fun t105 => (if t105.size + 1 ≤ 9223372036854775807 then ((Go.Proofs.YtfcmdameiabjmaaDoor.Txt.date_pad.f bt102.2.1 2).bind fun t106 => (if (t105 ++ (⟨#[45]⟩ : ByteArray)).size + t106.size ≤ 9223372036854775807 then (if ((t105 ++ (⟨#[45]⟩ : ByteArray)) ++ t106).size + 1 ≤ 9223372036854775807 then ((Go.Proofs.YtfcmdameiabjmaaDoor.Txt.date_pad.f bt102.2.2 2).bind fun t107 => (if (((t105 ++ (⟨#[45]⟩ : ByteArray)) ++ t106) ++ (⟨#[45]⟩ : ByteArray)).size + t107.size ≤ 9223372036854775807 then (if ((((t105 ++ (⟨#[45]⟩ : ByteArray)) ++ t106) ++ (⟨#[45]⟩ : ByteArray)) ++ t107).size + 1 ≤ 9223372036854775807 then ((Go.Proofs.YtfcmdameiabjmaaDoor.Txt.date_pad.f (wrap64 (Int.tdiv (Int.tmod (wrap64 (x102000 + 62167219200)) 86400) 3600)) 2).bind fun t108 => (if (((((t105 ++ (⟨#[45]⟩ : ByteArray)) ++ t106) ++ (⟨#[45]⟩ : ByteArray)) ++ t107) ++ (⟨#[84]⟩ : ByteArray)).size + t108.size ≤ 9223372036854775807 then (if ((((((t105 ++ (⟨#[45]⟩ : ByteArray)) ++ t106) ++ (⟨#[45]⟩ : ByteArray)) ++ t107) ++ (⟨#[84]⟩ : ByteArray)) ++ t108).size + 1 ≤ 9223372036854775807 then ((Go.Proofs.YtfcmdameiabjmaaDoor.Txt.date_pad.f (Int.tmod (wrap64 (Int.tdiv (Int.tmod (wrap64 (x102000 + 62167219200)) 86400) 60)) 60) 2).bind fun t109 => (if (((((((t105 ++ (⟨#[45]⟩ : ByteArray)) ++ t106) ++ (⟨#[45]⟩ : ByteArray)) ++ t107) ++ (⟨#[84]⟩ : ByteArray)) ++ t108) ++ (⟨#[58]⟩ : ByteArray)).size + t109.size ≤ 9223372036854775807 then (if ((((((((t105 ++ (⟨#[45]⟩ : ByteArray)) ++ t106) ++ (⟨#[45]⟩ : ByteArray)) ++ t107) ++ (⟨#[84]⟩ : ByteArray)) ++ t108) ++ (⟨#[58]⟩ : ByteArray)) ++ t109).size + 1 ≤ 9223372036854775807 then ((Go.Proofs.YtfcmdameiabjmaaDoor.Txt.date_pad.f (Int.tmod (Int.tmod (wrap64 (x102000 + 62167219200)) 86400) 60) 2).bind fun t110 => (if (((((((((t105 ++ (⟨#[45]⟩ : ByteArray)) ++ t106) ++ (⟨#[45]⟩ : ByteArray)) ++ t107) ++ (⟨#[84]⟩ : ByteArray)) ++ t108) ++ (⟨#[58]⟩ : ByteArray)) ++ t109) ++ (⟨#[58]⟩ : ByteArray)).size + t110.size ≤ 9223372036854775807 then (if x102001 > 0 then ((Go.Proofs.YtfcmdameiabjmaaDoor.Txt.date_pad.f x102001 9).bind fun t111 => ((Go.Proofs.YtfcmdameiabjmaaDoor.Txt.strings_TrimRight.f t111 (⟨#[48]⟩ : ByteArray)).bind fun t112 => (if 1 + t112.size ≤ 9223372036854775807 then (if ((((((((((t105 ++ (⟨#[45]⟩ : ByteArray)) ++ t106) ++ (⟨#[45]⟩ : ByteArray)) ++ t107) ++ (⟨#[84]⟩ : ByteArray)) ++ t108) ++ (⟨#[58]⟩ : ByteArray)) ++ t109) ++ (⟨#[58]⟩ : ByteArray)) ++ t110).size + ((⟨#[46]⟩ : ByteArray) ++ t112).size ≤ 9223372036854775807 then (if (((((((((((t105 ++ (⟨#[45]⟩ : ByteArray)) ++ t106) ++ (⟨#[45]⟩ : ByteArray)) ++ t107) ++ (⟨#[84]⟩ : ByteArray)) ++ t108) ++ (⟨#[58]⟩ : ByteArray)) ++ t109) ++ (⟨#[58]⟩ : ByteArray)) ++ t110) ++ ((⟨#[46]⟩ : ByteArray) ++ t112)).size + 1 ≤ 9223372036854775807 then (some ((((((((((((t105 ++ (⟨#[45]⟩ : ByteArray)) ++ t106) ++ (⟨#[45]⟩ : ByteArray)) ++ t107) ++ (⟨#[84]⟩ : ByteArray)) ++ t108) ++ (⟨#[58]⟩ : ByteArray)) ++ t109) ++ (⟨#[58]⟩ : ByteArray)) ++ t110) ++ ((⟨#[46]⟩ : ByteArray) ++ t112)) ++ (⟨#[90]⟩ : ByteArray), 0)) else (none)) else (none)) else (none)))) else (if ((((((((((t105 ++ (⟨#[45]⟩ : ByteArray)) ++ t106) ++ (⟨#[45]⟩ : ByteArray)) ++ t107) ++ (⟨#[84]⟩ : ByteArray)) ++ t108) ++ (⟨#[58]⟩ : ByteArray)) ++ t109) ++ (⟨#[58]⟩ : ByteArray)) ++ t110).size + 1 ≤ 9223372036854775807 then (some (((((((((((t105 ++ (⟨#[45]⟩ : ByteArray)) ++ t106) ++ (⟨#[45]⟩ : ByteArray)) ++ t107) ++ (⟨#[84]⟩ : ByteArray)) ++ t108) ++ (⟨#[58]⟩ : ByteArray)) ++ t109) ++ (⟨#[58]⟩ : ByteArray)) ++ t110) ++ (⟨#[90]⟩ : ByteArray), 0)) else (none))) else (none))) else (none)) else (none))) else (none)) else (none))) else (none)) else (none))) else (none)) else (none))) else (none))))
def date_Print.f (k : Nat) (a0_0 : Int) (a0_1 : Int) : Option (ByteArray × Int) := if a0_0 < (-62167219200) then (date_Print.j0 k true a0_0 a0_1) else (if a0_0 > 253402300799 then (date_Print.j0 k true a0_0 a0_1) else (if a0_1 < 0 then (date_Print.j0 k true a0_0 a0_1) else (date_Print.j0 k (decide (a0_1 > 999999999)) a0_0 a0_1)))
theorem date_Print.mono_l : ∀ k, (∀ y0 y1 y2, LeO (date_Print.j0 k y0 y1 y2) (date_Print.j0 (k + 1) y0 y1 y2))
  | 0 => fun _ _ _ r h => by simp [date_Print.j0] at h
  | k + 1 => by
    have ih0 := date_Print.mono_l k
    · intro y0 y1 y2
      unfold date_Print.j0
      repeat' first
      | (with_reducible exact ih0 _ _ _)
      | (with_reducible exact LeO.refl _)
      | (with_reducible exact LeO.none _)
      | (with_reducible refine LeO.ite ?_ ?_)
      | (with_reducible refine LeO.bind ?_ (fun _ => ?_))
      | exact ih0 _ _ _
      | exact LeO.none _
      | refine LeO.ite ?_ ?_
      | refine LeO.bind ?_ (fun _ => ?_)
theorem date_Print.mono : ∀ a0 a1 k, LeO (date_Print.f k a0 a1) (date_Print.f (k + 1) a0 a1) := by
  intro a0 a1 k
  have ih0 := date_Print.mono_l k
  unfold date_Print.f
  repeat' first
      | (with_reducible exact ih0 _ _ _)
      | (with_reducible exact LeO.refl _)
      | (with_reducible exact LeO.none _)
      | (with_reducible refine LeO.ite ?_ ?_)
      | (with_reducible refine LeO.bind ?_ (fun _ => ?_))
      | exact ih0 _ _ _
      | exact LeO.none _
      | refine LeO.ite ?_ ?_
      | refine LeO.bind ?_ (fun _ => ?_)
set_option maxHeartbeats 8000000 in
set_option maxRecDepth 100000 in
theorem date_Print.calls (k : Nat) (a0_0 : Int) (a0_1 : Int) (r1 : ByteArray) (r2 : Int) (w : World) (hG : Go.Proofs.YtfcmdameiabjmaaDoor.Txt.LaidW w) (h : date_Print.f k a0_0 a0_1 = some (r1, r2)) :
    Calls Tryd.prog 13 #[.agg #[.int .i64 a0_0, .int .i64 a0_1]] w fun e w' => e = .returned (.tuple #[.string r1, .int .i64 r2]) ∧ Below w.heap.size w w' := by
  have hu24 := Tryd.underlying24
  have HB := Aside0.mk (Below.refl w.heap.size w)
  have HG := Aside0.mk hG
  clear hG
  have H : (if a0_0 < (-62167219200) then (date_Print.j0 k true a0_0 a0_1) else (if a0_0 > 253402300799 then (date_Print.j0 k true a0_0 a0_1) else (if a0_1 < 0 then (date_Print.j0 k true a0_0 a0_1) else (date_Print.j0 k (decide (a0_1 > 999999999)) a0_0 a0_1)))) = some (r1, r2) := h
  clear h
  have HC2 := Aside0.mk H
  clear H
  go_enter Tryd.func13, Tryd.ntmps13
  go_upto_region 1 with (first | ((with_reducible refine gate_dst (N := 1) rfl ?_); refine box_event ?hg (N := 1) ?hd (cs := #[.int .i64 a0_0, .int .i64 a0_1]) (t := 24) ?hr ?_; (case hd => rfl); (case hg => rfl); (case hr => first | (go_simp; done) | (go_simp; rfl)); intro gb101 hg w3 hbox hb; have n0_ := Aside0.mk (below_step (by repeat (first | (with_reducible first | exact HB.out | apply below_alloc | apply pw_below_drewN | apply below_drew1) | exact HB.out)) hb); have n1_ := Aside0.mk (hbox); have n2_ := Aside0.mk ((by rw [hg]; exact (below_size (by repeat (first | (with_reducible first | exact HB.out | apply below_alloc | apply pw_below_drewN | apply below_drew1) | exact HB.out))) : w.heap.size ≤ gb101)); have n3_ := Aside0.mk ((by rw [hg]; exact (below_size (by repeat (first | (with_reducible first | exact HB.out | apply below_alloc | apply pw_below_drewN | apply below_drew1) | exact HB.out))) : w.heap.size ≤ gb101)); clear HB; have HB := n0_; have BK101 := n1_; have GW101 := n2_; have GE101 := n3_; clear n0_ n1_ n2_ n3_; clear hb hbox hg))
  (try simp only [Act.put, List.setIfInBounds_toArray, List.set_cons_zero, List.set_cons_succ])
  go_cut [26] (fun v26 wc => ∃ (kq : Nat) (x26_1 : Bool), v26 = .bool x26_1 ∧ Aside0 (date_Print.j0 kq x26_1 a0_0 a0_1 = some (r1, r2)) ∧ Aside0 (kq ≤ k) ∧ Aside0 (wc.heap[gb101]? = some (.cells #[.int .i64 a0_0, .int .i64 a0_1] 24 (0, 0))) ∧ Aside0 (Below w.heap.size w wc))
  case first =>
    have H := HC2.out
    clear HC2
    by_cases c4 : a0_0 < (-62167219200)
    · rw [if_pos c4] at H
      have c4b0 : decide (a0_0 < (-62167219200)) = true := decide_eq_true c4
      clear c4
      (first | rw [c4b0] | (simp only [i64_w, i32_w]; rw [c4b0]) | skip)
      have H' := Aside0.mk H
      clear H
      have hcz5_0 : w3.cell? ⟨gb101, 0, none⟩ = some (.int .i64 a0_0) := (blk_cell BK101.out 0).trans rfl
      have hcz5_1 : w3.cell? ⟨gb101, 1, none⟩ = some (.int .i64 a0_1) := (blk_cell BK101.out 1).trans rfl
      have hfz5_0 := blk_frozen BK101.out 0
      have hfz5_1 := blk_frozen BK101.out 1
      go_wp2
      go_meet
      case rel => exact ⟨_, (true), (by first | rfl | (simp; done) | (simp [*]; done)), H', ⟨by first | omega | exact Nat.le_refl _⟩, ⟨by (with_reducible repeat (first | refine blk_drewN ?_ _ | refine blk_drew ?_ | refine blk_alloc ?_ _)); exact BK101.out⟩, ⟨by repeat (first | (with_reducible first | exact HB.out | apply below_alloc | apply pw_below_drewN | apply below_drew1 | refine below_set ?_ GE101.out) | exact HB.out)⟩⟩
    · rw [if_neg c4] at H
      have c4b0 : decide (a0_0 < (-62167219200)) = false := decide_eq_false c4
      clear c4
      (first | rw [c4b0] | (simp only [i64_w, i32_w]; rw [c4b0]) | skip)
      by_cases c6 : a0_0 > 253402300799
      · rw [if_pos c6] at H
        have c6b0 : decide (253402300799 < a0_0) = true := decide_eq_true c6
        clear c6
        have H' := Aside0.mk H
        clear H
        have hcz7_0 : w3.cell? ⟨gb101, 0, none⟩ = some (.int .i64 a0_0) := (blk_cell BK101.out 0).trans rfl
        have hcz7_1 : w3.cell? ⟨gb101, 1, none⟩ = some (.int .i64 a0_1) := (blk_cell BK101.out 1).trans rfl
        have hfz7_0 := blk_frozen BK101.out 0
        have hfz7_1 := blk_frozen BK101.out 1
        go_wp2
        go_meet
        case rel => exact ⟨_, (true), (by first | rfl | (simp; done) | (simp [*]; done)), H', ⟨by first | omega | exact Nat.le_refl _⟩, ⟨by (with_reducible repeat (first | refine blk_drewN ?_ _ | refine blk_drew ?_ | refine blk_alloc ?_ _)); exact BK101.out⟩, ⟨by repeat (first | (with_reducible first | exact HB.out | apply below_alloc | apply pw_below_drewN | apply below_drew1 | refine below_set ?_ GE101.out) | exact HB.out)⟩⟩
      · rw [if_neg c6] at H
        have c6b0 : decide (253402300799 < a0_0) = false := decide_eq_false c6
        clear c6
        by_cases c8 : a0_1 < 0
        · rw [if_pos c8] at H
          have c8b0 : decide (a0_1 < 0) = true := decide_eq_true c8
          clear c8
          have H' := Aside0.mk H
          clear H
          have hcz9_0 : w3.cell? ⟨gb101, 0, none⟩ = some (.int .i64 a0_0) := (blk_cell BK101.out 0).trans rfl
          have hcz9_1 : w3.cell? ⟨gb101, 1, none⟩ = some (.int .i64 a0_1) := (blk_cell BK101.out 1).trans rfl
          have hfz9_0 := blk_frozen BK101.out 0
          have hfz9_1 := blk_frozen BK101.out 1
          go_wp2
          go_meet
          case rel => exact ⟨_, (true), (by first | rfl | (simp; done) | (simp [*]; done)), H', ⟨by first | omega | exact Nat.le_refl _⟩, ⟨by (with_reducible repeat (first | refine blk_drewN ?_ _ | refine blk_drew ?_ | refine blk_alloc ?_ _)); exact BK101.out⟩, ⟨by repeat (first | (with_reducible first | exact HB.out | apply below_alloc | apply pw_below_drewN | apply below_drew1 | refine below_set ?_ GE101.out) | exact HB.out)⟩⟩
        · rw [if_neg c8] at H
          have c8b0 : decide (a0_1 < 0) = false := decide_eq_false c8
          clear c8
          have H' := Aside0.mk H
          clear H
          have hcz10_0 : w3.cell? ⟨gb101, 0, none⟩ = some (.int .i64 a0_0) := (blk_cell BK101.out 0).trans rfl
          have hcz10_1 : w3.cell? ⟨gb101, 1, none⟩ = some (.int .i64 a0_1) := (blk_cell BK101.out 1).trans rfl
          have hfz10_0 := blk_frozen BK101.out 0
          have hfz10_1 := blk_frozen BK101.out 1
          go_wp2
          go_meet
          case rel => exact ⟨_, (decide (a0_1 > 999999999)), (by first | rfl | (simp; done) | (simp [*]; done)), H', ⟨by first | omega | exact Nat.le_refl _⟩, ⟨by (with_reducible repeat (first | refine blk_drewN ?_ _ | refine blk_drew ?_ | refine blk_alloc ?_ _)); exact BK101.out⟩, ⟨by repeat (first | (with_reducible first | exact HB.out | apply below_alloc | apply pw_below_drewN | apply below_drew1 | refine below_set ?_ GE101.out) | exact HB.out)⟩⟩
  case rest =>
    clear HC2
    try clear c1
    try clear p2
    try clear c4
    try clear c4b0
    try clear c6
    try clear c6b0
    try clear c8
    try clear c8b0
    try clear hcz10_0
    try clear hcz10_1
    try clear hcz5_0
    try clear hcz5_1
    try clear hcz7_0
    try clear hcz7_1
    try clear hcz9_0
    try clear hcz9_1
    try clear hfz10_0
    try clear hfz10_1
    try clear hfz5_0
    try clear hfz5_1
    try clear hfz7_0
    try clear hfz7_1
    try clear hfz9_0
    try clear hfz9_1
    obtain ⟨kq, x26_1, rfl, HA, HJ1, BK101, HB⟩ := hcut
    cases kq with
    | zero => exact absurd HA.out (by simp [date_Print.j0])
    | succ kj1 =>
      have H := HA.out
      clear HA
      simp only [date_Print.j0] at H
      by_cases c11 : x26_1 = true
      · subst c11
        have H1 : (some ((⟨#[]⟩ : ByteArray), 110)) = some (r1, r2) := by rw [if_pos rfl] at H; exact H
        clear H
        have H := H1
        clear H1
        simp only [Option.some.injEq, Prod.mk.injEq] at H
        obtain ⟨rfl, rfl⟩ := H
        go_wp2
        go_ret2
        exact ⟨by first | rfl | (simp [errW_none, errW_some] <;> rfl) | (simp [*, errW_none, errW_some] <;> rfl), by repeat (first | (with_reducible first | exact HB.out | apply below_alloc | apply pw_below_drewN | apply below_drew1 | refine below_set ?_ GE101.out) | exact HB.out)⟩
      · replace c11 := Bool.eq_false_iff.mpr c11
        subst c11
        have H1 : ((date_civil.f (wrap64 ((wrap64 ((wrap64 (Int.tdiv (wrap64 (a0_0 - (Int.tmod (wrap64 (a0_0 + 62167219200)) 86400))) 86400)) + 719468)) + 146097))).bind fun bt102 => ((Go.Proofs.YtfcmdameiabjmaaDoor.Txt.date_pad.f bt102.1 4).bind fun t105 => (if t105.size + 1 ≤ 9223372036854775807 then ((Go.Proofs.YtfcmdameiabjmaaDoor.Txt.date_pad.f bt102.2.1 2).bind fun t106 => (if (t105 ++ (⟨#[45]⟩ : ByteArray)).size + t106.size ≤ 9223372036854775807 then (if ((t105 ++ (⟨#[45]⟩ : ByteArray)) ++ t106).size + 1 ≤ 9223372036854775807 then ((Go.Proofs.YtfcmdameiabjmaaDoor.Txt.date_pad.f bt102.2.2 2).bind fun t107 => (if (((t105 ++ (⟨#[45]⟩ : ByteArray)) ++ t106) ++ (⟨#[45]⟩ : ByteArray)).size + t107.size ≤ 9223372036854775807 then (if ((((t105 ++ (⟨#[45]⟩ : ByteArray)) ++ t106) ++ (⟨#[45]⟩ : ByteArray)) ++ t107).size + 1 ≤ 9223372036854775807 then ((Go.Proofs.YtfcmdameiabjmaaDoor.Txt.date_pad.f (wrap64 (Int.tdiv (Int.tmod (wrap64 (a0_0 + 62167219200)) 86400) 3600)) 2).bind fun t108 => (if (((((t105 ++ (⟨#[45]⟩ : ByteArray)) ++ t106) ++ (⟨#[45]⟩ : ByteArray)) ++ t107) ++ (⟨#[84]⟩ : ByteArray)).size + t108.size ≤ 9223372036854775807 then (if ((((((t105 ++ (⟨#[45]⟩ : ByteArray)) ++ t106) ++ (⟨#[45]⟩ : ByteArray)) ++ t107) ++ (⟨#[84]⟩ : ByteArray)) ++ t108).size + 1 ≤ 9223372036854775807 then ((Go.Proofs.YtfcmdameiabjmaaDoor.Txt.date_pad.f (Int.tmod (wrap64 (Int.tdiv (Int.tmod (wrap64 (a0_0 + 62167219200)) 86400) 60)) 60) 2).bind fun t109 => (if (((((((t105 ++ (⟨#[45]⟩ : ByteArray)) ++ t106) ++ (⟨#[45]⟩ : ByteArray)) ++ t107) ++ (⟨#[84]⟩ : ByteArray)) ++ t108) ++ (⟨#[58]⟩ : ByteArray)).size + t109.size ≤ 9223372036854775807 then (if ((((((((t105 ++ (⟨#[45]⟩ : ByteArray)) ++ t106) ++ (⟨#[45]⟩ : ByteArray)) ++ t107) ++ (⟨#[84]⟩ : ByteArray)) ++ t108) ++ (⟨#[58]⟩ : ByteArray)) ++ t109).size + 1 ≤ 9223372036854775807 then ((Go.Proofs.YtfcmdameiabjmaaDoor.Txt.date_pad.f (Int.tmod (Int.tmod (wrap64 (a0_0 + 62167219200)) 86400) 60) 2).bind fun t110 => (if (((((((((t105 ++ (⟨#[45]⟩ : ByteArray)) ++ t106) ++ (⟨#[45]⟩ : ByteArray)) ++ t107) ++ (⟨#[84]⟩ : ByteArray)) ++ t108) ++ (⟨#[58]⟩ : ByteArray)) ++ t109) ++ (⟨#[58]⟩ : ByteArray)).size + t110.size ≤ 9223372036854775807 then (if a0_1 > 0 then ((Go.Proofs.YtfcmdameiabjmaaDoor.Txt.date_pad.f a0_1 9).bind fun t111 => ((Go.Proofs.YtfcmdameiabjmaaDoor.Txt.strings_TrimRight.f t111 (⟨#[48]⟩ : ByteArray)).bind fun t112 => (if 1 + t112.size ≤ 9223372036854775807 then (if ((((((((((t105 ++ (⟨#[45]⟩ : ByteArray)) ++ t106) ++ (⟨#[45]⟩ : ByteArray)) ++ t107) ++ (⟨#[84]⟩ : ByteArray)) ++ t108) ++ (⟨#[58]⟩ : ByteArray)) ++ t109) ++ (⟨#[58]⟩ : ByteArray)) ++ t110).size + ((⟨#[46]⟩ : ByteArray) ++ t112).size ≤ 9223372036854775807 then (if (((((((((((t105 ++ (⟨#[45]⟩ : ByteArray)) ++ t106) ++ (⟨#[45]⟩ : ByteArray)) ++ t107) ++ (⟨#[84]⟩ : ByteArray)) ++ t108) ++ (⟨#[58]⟩ : ByteArray)) ++ t109) ++ (⟨#[58]⟩ : ByteArray)) ++ t110) ++ ((⟨#[46]⟩ : ByteArray) ++ t112)).size + 1 ≤ 9223372036854775807 then (some ((((((((((((t105 ++ (⟨#[45]⟩ : ByteArray)) ++ t106) ++ (⟨#[45]⟩ : ByteArray)) ++ t107) ++ (⟨#[84]⟩ : ByteArray)) ++ t108) ++ (⟨#[58]⟩ : ByteArray)) ++ t109) ++ (⟨#[58]⟩ : ByteArray)) ++ t110) ++ ((⟨#[46]⟩ : ByteArray) ++ t112)) ++ (⟨#[90]⟩ : ByteArray), 0)) else (none)) else (none)) else (none)))) else (if ((((((((((t105 ++ (⟨#[45]⟩ : ByteArray)) ++ t106) ++ (⟨#[45]⟩ : ByteArray)) ++ t107) ++ (⟨#[84]⟩ : ByteArray)) ++ t108) ++ (⟨#[58]⟩ : ByteArray)) ++ t109) ++ (⟨#[58]⟩ : ByteArray)) ++ t110).size + 1 ≤ 9223372036854775807 then (some (((((((((((t105 ++ (⟨#[45]⟩ : ByteArray)) ++ t106) ++ (⟨#[45]⟩ : ByteArray)) ++ t107) ++ (⟨#[84]⟩ : ByteArray)) ++ t108) ++ (⟨#[58]⟩ : ByteArray)) ++ t109) ++ (⟨#[58]⟩ : ByteArray)) ++ t110) ++ (⟨#[90]⟩ : ByteArray), 0)) else (none))) else (none))) else (none)) else (none))) else (none)) else (none))) else (none)) else (none))) else (none)) else (none))) else (none)))) = some (r1, r2) := by rw [if_neg (show ¬ (false = true) by decide)] at H; exact H
        clear H
        have H := H1
        clear H1
        replace H := Option.bind_eq_some_iff.mp H
        obtain ⟨⟨t102, t103, t104⟩, A120, H⟩ := H
        replace H : ((Go.Proofs.YtfcmdameiabjmaaDoor.Txt.date_pad.f t102 4).bind fun t105 => (if t105.size + 1 ≤ 9223372036854775807 then ((Go.Proofs.YtfcmdameiabjmaaDoor.Txt.date_pad.f t103 2).bind fun t106 => (if (t105 ++ (⟨#[45]⟩ : ByteArray)).size + t106.size ≤ 9223372036854775807 then (if ((t105 ++ (⟨#[45]⟩ : ByteArray)) ++ t106).size + 1 ≤ 9223372036854775807 then ((Go.Proofs.YtfcmdameiabjmaaDoor.Txt.date_pad.f t104 2).bind fun t107 => (if (((t105 ++ (⟨#[45]⟩ : ByteArray)) ++ t106) ++ (⟨#[45]⟩ : ByteArray)).size + t107.size ≤ 9223372036854775807 then (if ((((t105 ++ (⟨#[45]⟩ : ByteArray)) ++ t106) ++ (⟨#[45]⟩ : ByteArray)) ++ t107).size + 1 ≤ 9223372036854775807 then ((Go.Proofs.YtfcmdameiabjmaaDoor.Txt.date_pad.f (wrap64 (Int.tdiv (Int.tmod (wrap64 (a0_0 + 62167219200)) 86400) 3600)) 2).bind fun t108 => (if (((((t105 ++ (⟨#[45]⟩ : ByteArray)) ++ t106) ++ (⟨#[45]⟩ : ByteArray)) ++ t107) ++ (⟨#[84]⟩ : ByteArray)).size + t108.size ≤ 9223372036854775807 then (if ((((((t105 ++ (⟨#[45]⟩ : ByteArray)) ++ t106) ++ (⟨#[45]⟩ : ByteArray)) ++ t107) ++ (⟨#[84]⟩ : ByteArray)) ++ t108).size + 1 ≤ 9223372036854775807 then ((Go.Proofs.YtfcmdameiabjmaaDoor.Txt.date_pad.f (Int.tmod (wrap64 (Int.tdiv (Int.tmod (wrap64 (a0_0 + 62167219200)) 86400) 60)) 60) 2).bind fun t109 => (if (((((((t105 ++ (⟨#[45]⟩ : ByteArray)) ++ t106) ++ (⟨#[45]⟩ : ByteArray)) ++ t107) ++ (⟨#[84]⟩ : ByteArray)) ++ t108) ++ (⟨#[58]⟩ : ByteArray)).size + t109.size ≤ 9223372036854775807 then (if ((((((((t105 ++ (⟨#[45]⟩ : ByteArray)) ++ t106) ++ (⟨#[45]⟩ : ByteArray)) ++ t107) ++ (⟨#[84]⟩ : ByteArray)) ++ t108) ++ (⟨#[58]⟩ : ByteArray)) ++ t109).size + 1 ≤ 9223372036854775807 then ((Go.Proofs.YtfcmdameiabjmaaDoor.Txt.date_pad.f (Int.tmod (Int.tmod (wrap64 (a0_0 + 62167219200)) 86400) 60) 2).bind fun t110 => (if (((((((((t105 ++ (⟨#[45]⟩ : ByteArray)) ++ t106) ++ (⟨#[45]⟩ : ByteArray)) ++ t107) ++ (⟨#[84]⟩ : ByteArray)) ++ t108) ++ (⟨#[58]⟩ : ByteArray)) ++ t109) ++ (⟨#[58]⟩ : ByteArray)).size + t110.size ≤ 9223372036854775807 then (if a0_1 > 0 then ((Go.Proofs.YtfcmdameiabjmaaDoor.Txt.date_pad.f a0_1 9).bind fun t111 => ((Go.Proofs.YtfcmdameiabjmaaDoor.Txt.strings_TrimRight.f t111 (⟨#[48]⟩ : ByteArray)).bind fun t112 => (if 1 + t112.size ≤ 9223372036854775807 then (if ((((((((((t105 ++ (⟨#[45]⟩ : ByteArray)) ++ t106) ++ (⟨#[45]⟩ : ByteArray)) ++ t107) ++ (⟨#[84]⟩ : ByteArray)) ++ t108) ++ (⟨#[58]⟩ : ByteArray)) ++ t109) ++ (⟨#[58]⟩ : ByteArray)) ++ t110).size + ((⟨#[46]⟩ : ByteArray) ++ t112).size ≤ 9223372036854775807 then (if (((((((((((t105 ++ (⟨#[45]⟩ : ByteArray)) ++ t106) ++ (⟨#[45]⟩ : ByteArray)) ++ t107) ++ (⟨#[84]⟩ : ByteArray)) ++ t108) ++ (⟨#[58]⟩ : ByteArray)) ++ t109) ++ (⟨#[58]⟩ : ByteArray)) ++ t110) ++ ((⟨#[46]⟩ : ByteArray) ++ t112)).size + 1 ≤ 9223372036854775807 then (some ((((((((((((t105 ++ (⟨#[45]⟩ : ByteArray)) ++ t106) ++ (⟨#[45]⟩ : ByteArray)) ++ t107) ++ (⟨#[84]⟩ : ByteArray)) ++ t108) ++ (⟨#[58]⟩ : ByteArray)) ++ t109) ++ (⟨#[58]⟩ : ByteArray)) ++ t110) ++ ((⟨#[46]⟩ : ByteArray) ++ t112)) ++ (⟨#[90]⟩ : ByteArray), 0)) else (none)) else (none)) else (none)))) else (if ((((((((((t105 ++ (⟨#[45]⟩ : ByteArray)) ++ t106) ++ (⟨#[45]⟩ : ByteArray)) ++ t107) ++ (⟨#[84]⟩ : ByteArray)) ++ t108) ++ (⟨#[58]⟩ : ByteArray)) ++ t109) ++ (⟨#[58]⟩ : ByteArray)) ++ t110).size + 1 ≤ 9223372036854775807 then (some (((((((((((t105 ++ (⟨#[45]⟩ : ByteArray)) ++ t106) ++ (⟨#[45]⟩ : ByteArray)) ++ t107) ++ (⟨#[84]⟩ : ByteArray)) ++ t108) ++ (⟨#[58]⟩ : ByteArray)) ++ t109) ++ (⟨#[58]⟩ : ByteArray)) ++ t110) ++ (⟨#[90]⟩ : ByteArray), 0)) else (none))) else (none))) else (none)) else (none))) else (none)) else (none))) else (none)) else (none))) else (none)) else (none))) else (none))) = some (r1, r2) := H
        have A12 := Aside0.mk A120
        clear A120
        replace H := Option.bind_eq_some_iff.mp H
        obtain ⟨t105, A130, H⟩ := H
        replace H : (if t105.size + 1 ≤ 9223372036854775807 then ((Go.Proofs.YtfcmdameiabjmaaDoor.Txt.date_pad.f t103 2).bind fun t106 => (if (t105 ++ (⟨#[45]⟩ : ByteArray)).size + t106.size ≤ 9223372036854775807 then (if ((t105 ++ (⟨#[45]⟩ : ByteArray)) ++ t106).size + 1 ≤ 9223372036854775807 then ((Go.Proofs.YtfcmdameiabjmaaDoor.Txt.date_pad.f t104 2).bind fun t107 => (if (((t105 ++ (⟨#[45]⟩ : ByteArray)) ++ t106) ++ (⟨#[45]⟩ : ByteArray)).size + t107.size ≤ 9223372036854775807 then (if ((((t105 ++ (⟨#[45]⟩ : ByteArray)) ++ t106) ++ (⟨#[45]⟩ : ByteArray)) ++ t107).size + 1 ≤ 9223372036854775807 then ((Go.Proofs.YtfcmdameiabjmaaDoor.Txt.date_pad.f (wrap64 (Int.tdiv (Int.tmod (wrap64 (a0_0 + 62167219200)) 86400) 3600)) 2).bind fun t108 => (if (((((t105 ++ (⟨#[45]⟩ : ByteArray)) ++ t106) ++ (⟨#[45]⟩ : ByteArray)) ++ t107) ++ (⟨#[84]⟩ : ByteArray)).size + t108.size ≤ 9223372036854775807 then (if ((((((t105 ++ (⟨#[45]⟩ : ByteArray)) ++ t106) ++ (⟨#[45]⟩ : ByteArray)) ++ t107) ++ (⟨#[84]⟩ : ByteArray)) ++ t108).size + 1 ≤ 9223372036854775807 then ((Go.Proofs.YtfcmdameiabjmaaDoor.Txt.date_pad.f (Int.tmod (wrap64 (Int.tdiv (Int.tmod (wrap64 (a0_0 + 62167219200)) 86400) 60)) 60) 2).bind fun t109 => (if (((((((t105 ++ (⟨#[45]⟩ : ByteArray)) ++ t106) ++ (⟨#[45]⟩ : ByteArray)) ++ t107) ++ (⟨#[84]⟩ : ByteArray)) ++ t108) ++ (⟨#[58]⟩ : ByteArray)).size + t109.size ≤ 9223372036854775807 then (if ((((((((t105 ++ (⟨#[45]⟩ : ByteArray)) ++ t106) ++ (⟨#[45]⟩ : ByteArray)) ++ t107) ++ (⟨#[84]⟩ : ByteArray)) ++ t108) ++ (⟨#[58]⟩ : ByteArray)) ++ t109).size + 1 ≤ 9223372036854775807 then ((Go.Proofs.YtfcmdameiabjmaaDoor.Txt.date_pad.f (Int.tmod (Int.tmod (wrap64 (a0_0 + 62167219200)) 86400) 60) 2).bind fun t110 => (if (((((((((t105 ++ (⟨#[45]⟩ : ByteArray)) ++ t106) ++ (⟨#[45]⟩ : ByteArray)) ++ t107) ++ (⟨#[84]⟩ : ByteArray)) ++ t108) ++ (⟨#[58]⟩ : ByteArray)) ++ t109) ++ (⟨#[58]⟩ : ByteArray)).size + t110.size ≤ 9223372036854775807 then (if a0_1 > 0 then ((Go.Proofs.YtfcmdameiabjmaaDoor.Txt.date_pad.f a0_1 9).bind fun t111 => ((Go.Proofs.YtfcmdameiabjmaaDoor.Txt.strings_TrimRight.f t111 (⟨#[48]⟩ : ByteArray)).bind fun t112 => (if 1 + t112.size ≤ 9223372036854775807 then (if ((((((((((t105 ++ (⟨#[45]⟩ : ByteArray)) ++ t106) ++ (⟨#[45]⟩ : ByteArray)) ++ t107) ++ (⟨#[84]⟩ : ByteArray)) ++ t108) ++ (⟨#[58]⟩ : ByteArray)) ++ t109) ++ (⟨#[58]⟩ : ByteArray)) ++ t110).size + ((⟨#[46]⟩ : ByteArray) ++ t112).size ≤ 9223372036854775807 then (if (((((((((((t105 ++ (⟨#[45]⟩ : ByteArray)) ++ t106) ++ (⟨#[45]⟩ : ByteArray)) ++ t107) ++ (⟨#[84]⟩ : ByteArray)) ++ t108) ++ (⟨#[58]⟩ : ByteArray)) ++ t109) ++ (⟨#[58]⟩ : ByteArray)) ++ t110) ++ ((⟨#[46]⟩ : ByteArray) ++ t112)).size + 1 ≤ 9223372036854775807 then (some ((((((((((((t105 ++ (⟨#[45]⟩ : ByteArray)) ++ t106) ++ (⟨#[45]⟩ : ByteArray)) ++ t107) ++ (⟨#[84]⟩ : ByteArray)) ++ t108) ++ (⟨#[58]⟩ : ByteArray)) ++ t109) ++ (⟨#[58]⟩ : ByteArray)) ++ t110) ++ ((⟨#[46]⟩ : ByteArray) ++ t112)) ++ (⟨#[90]⟩ : ByteArray), 0)) else (none)) else (none)) else (none)))) else (if ((((((((((t105 ++ (⟨#[45]⟩ : ByteArray)) ++ t106) ++ (⟨#[45]⟩ : ByteArray)) ++ t107) ++ (⟨#[84]⟩ : ByteArray)) ++ t108) ++ (⟨#[58]⟩ : ByteArray)) ++ t109) ++ (⟨#[58]⟩ : ByteArray)) ++ t110).size + 1 ≤ 9223372036854775807 then (some (((((((((((t105 ++ (⟨#[45]⟩ : ByteArray)) ++ t106) ++ (⟨#[45]⟩ : ByteArray)) ++ t107) ++ (⟨#[84]⟩ : ByteArray)) ++ t108) ++ (⟨#[58]⟩ : ByteArray)) ++ t109) ++ (⟨#[58]⟩ : ByteArray)) ++ t110) ++ (⟨#[90]⟩ : ByteArray), 0)) else (none))) else (none))) else (none)) else (none))) else (none)) else (none))) else (none)) else (none))) else (none)) else (none))) else (none)) = some (r1, r2) := H
        have A13 := Aside0.mk A130
        clear A130
        by_cases c14 : t105.size + 1 ≤ 9223372036854775807
        · rw [if_pos c14] at H
          have c14b0 := eq_true c14
          have c14b1 : decide (t105.size + 1 ≤ 9223372036854775807) = true := decide_eq_true c14
          try have c14b2 : (9223372036854775807 < t105.size + 1) = False := eq_false (Nat.not_lt.2 c14)
          replace H := Option.bind_eq_some_iff.mp H
          obtain ⟨t106, A150, H⟩ := H
          replace H : (if (t105 ++ (⟨#[45]⟩ : ByteArray)).size + t106.size ≤ 9223372036854775807 then (if ((t105 ++ (⟨#[45]⟩ : ByteArray)) ++ t106).size + 1 ≤ 9223372036854775807 then ((Go.Proofs.YtfcmdameiabjmaaDoor.Txt.date_pad.f t104 2).bind fun t107 => (if (((t105 ++ (⟨#[45]⟩ : ByteArray)) ++ t106) ++ (⟨#[45]⟩ : ByteArray)).size + t107.size ≤ 9223372036854775807 then (if ((((t105 ++ (⟨#[45]⟩ : ByteArray)) ++ t106) ++ (⟨#[45]⟩ : ByteArray)) ++ t107).size + 1 ≤ 9223372036854775807 then ((Go.Proofs.YtfcmdameiabjmaaDoor.Txt.date_pad.f (wrap64 (Int.tdiv (Int.tmod (wrap64 (a0_0 + 62167219200)) 86400) 3600)) 2).bind fun t108 => (if (((((t105 ++ (⟨#[45]⟩ : ByteArray)) ++ t106) ++ (⟨#[45]⟩ : ByteArray)) ++ t107) ++ (⟨#[84]⟩ : ByteArray)).size + t108.size ≤ 9223372036854775807 then (if ((((((t105 ++ (⟨#[45]⟩ : ByteArray)) ++ t106) ++ (⟨#[45]⟩ : ByteArray)) ++ t107) ++ (⟨#[84]⟩ : ByteArray)) ++ t108).size + 1 ≤ 9223372036854775807 then ((Go.Proofs.YtfcmdameiabjmaaDoor.Txt.date_pad.f (Int.tmod (wrap64 (Int.tdiv (Int.tmod (wrap64 (a0_0 + 62167219200)) 86400) 60)) 60) 2).bind fun t109 => (if (((((((t105 ++ (⟨#[45]⟩ : ByteArray)) ++ t106) ++ (⟨#[45]⟩ : ByteArray)) ++ t107) ++ (⟨#[84]⟩ : ByteArray)) ++ t108) ++ (⟨#[58]⟩ : ByteArray)).size + t109.size ≤ 9223372036854775807 then (if ((((((((t105 ++ (⟨#[45]⟩ : ByteArray)) ++ t106) ++ (⟨#[45]⟩ : ByteArray)) ++ t107) ++ (⟨#[84]⟩ : ByteArray)) ++ t108) ++ (⟨#[58]⟩ : ByteArray)) ++ t109).size + 1 ≤ 9223372036854775807 then ((Go.Proofs.YtfcmdameiabjmaaDoor.Txt.date_pad.f (Int.tmod (Int.tmod (wrap64 (a0_0 + 62167219200)) 86400) 60) 2).bind fun t110 => (if (((((((((t105 ++ (⟨#[45]⟩ : ByteArray)) ++ t106) ++ (⟨#[45]⟩ : ByteArray)) ++ t107) ++ (⟨#[84]⟩ : ByteArray)) ++ t108) ++ (⟨#[58]⟩ : ByteArray)) ++ t109) ++ (⟨#[58]⟩ : ByteArray)).size + t110.size ≤ 9223372036854775807 then (if a0_1 > 0 then ((Go.Proofs.YtfcmdameiabjmaaDoor.Txt.date_pad.f a0_1 9).bind fun t111 => ((Go.Proofs.YtfcmdameiabjmaaDoor.Txt.strings_TrimRight.f t111 (⟨#[48]⟩ : ByteArray)).bind fun t112 => (if 1 + t112.size ≤ 9223372036854775807 then (if ((((((((((t105 ++ (⟨#[45]⟩ : ByteArray)) ++ t106) ++ (⟨#[45]⟩ : ByteArray)) ++ t107) ++ (⟨#[84]⟩ : ByteArray)) ++ t108) ++ (⟨#[58]⟩ : ByteArray)) ++ t109) ++ (⟨#[58]⟩ : ByteArray)) ++ t110).size + ((⟨#[46]⟩ : ByteArray) ++ t112).size ≤ 9223372036854775807 then (if (((((((((((t105 ++ (⟨#[45]⟩ : ByteArray)) ++ t106) ++ (⟨#[45]⟩ : ByteArray)) ++ t107) ++ (⟨#[84]⟩ : ByteArray)) ++ t108) ++ (⟨#[58]⟩ : ByteArray)) ++ t109) ++ (⟨#[58]⟩ : ByteArray)) ++ t110) ++ ((⟨#[46]⟩ : ByteArray) ++ t112)).size + 1 ≤ 9223372036854775807 then (some ((((((((((((t105 ++ (⟨#[45]⟩ : ByteArray)) ++ t106) ++ (⟨#[45]⟩ : ByteArray)) ++ t107) ++ (⟨#[84]⟩ : ByteArray)) ++ t108) ++ (⟨#[58]⟩ : ByteArray)) ++ t109) ++ (⟨#[58]⟩ : ByteArray)) ++ t110) ++ ((⟨#[46]⟩ : ByteArray) ++ t112)) ++ (⟨#[90]⟩ : ByteArray), 0)) else (none)) else (none)) else (none)))) else (if ((((((((((t105 ++ (⟨#[45]⟩ : ByteArray)) ++ t106) ++ (⟨#[45]⟩ : ByteArray)) ++ t107) ++ (⟨#[84]⟩ : ByteArray)) ++ t108) ++ (⟨#[58]⟩ : ByteArray)) ++ t109) ++ (⟨#[58]⟩ : ByteArray)) ++ t110).size + 1 ≤ 9223372036854775807 then (some (((((((((((t105 ++ (⟨#[45]⟩ : ByteArray)) ++ t106) ++ (⟨#[45]⟩ : ByteArray)) ++ t107) ++ (⟨#[84]⟩ : ByteArray)) ++ t108) ++ (⟨#[58]⟩ : ByteArray)) ++ t109) ++ (⟨#[58]⟩ : ByteArray)) ++ t110) ++ (⟨#[90]⟩ : ByteArray), 0)) else (none))) else (none))) else (none)) else (none))) else (none)) else (none))) else (none)) else (none))) else (none)) else (none)) = some (r1, r2) := H
          have A15 := Aside0.mk A150
          clear A150
          by_cases c16 : (t105 ++ (⟨#[45]⟩ : ByteArray)).size + t106.size ≤ 9223372036854775807
          · rw [if_pos c16] at H
            have c16b0 := eq_true c16
            have c16b1 : decide ((t105 ++ (⟨#[45]⟩ : ByteArray)).size + t106.size ≤ 9223372036854775807) = true := decide_eq_true c16
            try have c16b2 : (9223372036854775807 < (t105 ++ (⟨#[45]⟩ : ByteArray)).size + t106.size) = False := eq_false (Nat.not_lt.2 c16)
            try have c16b3 : (9223372036854775807 < t105.size + 1 + t106.size) = False := eq_false (by have h_ := c16; simp only [ByteArray.size_append] at h_; exact Nat.not_lt.2 h_)
            by_cases c17 : ((t105 ++ (⟨#[45]⟩ : ByteArray)) ++ t106).size + 1 ≤ 9223372036854775807
            · rw [if_pos c17] at H
              have c17b0 := eq_true c17
              have c17b1 : decide (((t105 ++ (⟨#[45]⟩ : ByteArray)) ++ t106).size + 1 ≤ 9223372036854775807) = true := decide_eq_true c17
              try have c17b2 : (9223372036854775807 < ((t105 ++ (⟨#[45]⟩ : ByteArray)) ++ t106).size + 1) = False := eq_false (Nat.not_lt.2 c17)
              try have c17b3 : (9223372036854775807 < t105.size + 1 + t106.size + 1) = False := eq_false (by have h_ := c17; simp only [ByteArray.size_append] at h_; exact Nat.not_lt.2 h_)
              replace H := Option.bind_eq_some_iff.mp H
              obtain ⟨t107, A180, H⟩ := H
              replace H : (if (((t105 ++ (⟨#[45]⟩ : ByteArray)) ++ t106) ++ (⟨#[45]⟩ : ByteArray)).size + t107.size ≤ 9223372036854775807 then (if ((((t105 ++ (⟨#[45]⟩ : ByteArray)) ++ t106) ++ (⟨#[45]⟩ : ByteArray)) ++ t107).size + 1 ≤ 9223372036854775807 then ((Go.Proofs.YtfcmdameiabjmaaDoor.Txt.date_pad.f (wrap64 (Int.tdiv (Int.tmod (wrap64 (a0_0 + 62167219200)) 86400) 3600)) 2).bind fun t108 => (if (((((t105 ++ (⟨#[45]⟩ : ByteArray)) ++ t106) ++ (⟨#[45]⟩ : ByteArray)) ++ t107) ++ (⟨#[84]⟩ : ByteArray)).size + t108.size ≤ 9223372036854775807 then (if ((((((t105 ++ (⟨#[45]⟩ : ByteArray)) ++ t106) ++ (⟨#[45]⟩ : ByteArray)) ++ t107) ++ (⟨#[84]⟩ : ByteArray)) ++ t108).size + 1 ≤ 9223372036854775807 then ((Go.Proofs.YtfcmdameiabjmaaDoor.Txt.date_pad.f (Int.tmod (wrap64 (Int.tdiv (Int.tmod (wrap64 (a0_0 + 62167219200)) 86400) 60)) 60) 2).bind fun t109 => (if (((((((t105 ++ (⟨#[45]⟩ : ByteArray)) ++ t106) ++ (⟨#[45]⟩ : ByteArray)) ++ t107) ++ (⟨#[84]⟩ : ByteArray)) ++ t108) ++ (⟨#[58]⟩ : ByteArray)).size + t109.size ≤ 9223372036854775807 then (if ((((((((t105 ++ (⟨#[45]⟩ : ByteArray)) ++ t106) ++ (⟨#[45]⟩ : ByteArray)) ++ t107) ++ (⟨#[84]⟩ : ByteArray)) ++ t108) ++ (⟨#[58]⟩ : ByteArray)) ++ t109).size + 1 ≤ 9223372036854775807 then ((Go.Proofs.YtfcmdameiabjmaaDoor.Txt.date_pad.f (Int.tmod (Int.tmod (wrap64 (a0_0 + 62167219200)) 86400) 60) 2).bind fun t110 => (if (((((((((t105 ++ (⟨#[45]⟩ : ByteArray)) ++ t106) ++ (⟨#[45]⟩ : ByteArray)) ++ t107) ++ (⟨#[84]⟩ : ByteArray)) ++ t108) ++ (⟨#[58]⟩ : ByteArray)) ++ t109) ++ (⟨#[58]⟩ : ByteArray)).size + t110.size ≤ 9223372036854775807 then (if a0_1 > 0 then ((Go.Proofs.YtfcmdameiabjmaaDoor.Txt.date_pad.f a0_1 9).bind fun t111 => ((Go.Proofs.YtfcmdameiabjmaaDoor.Txt.strings_TrimRight.f t111 (⟨#[48]⟩ : ByteArray)).bind fun t112 => (if 1 + t112.size ≤ 9223372036854775807 then (if ((((((((((t105 ++ (⟨#[45]⟩ : ByteArray)) ++ t106) ++ (⟨#[45]⟩ : ByteArray)) ++ t107) ++ (⟨#[84]⟩ : ByteArray)) ++ t108) ++ (⟨#[58]⟩ : ByteArray)) ++ t109) ++ (⟨#[58]⟩ : ByteArray)) ++ t110).size + ((⟨#[46]⟩ : ByteArray) ++ t112).size ≤ 9223372036854775807 then (if (((((((((((t105 ++ (⟨#[45]⟩ : ByteArray)) ++ t106) ++ (⟨#[45]⟩ : ByteArray)) ++ t107) ++ (⟨#[84]⟩ : ByteArray)) ++ t108) ++ (⟨#[58]⟩ : ByteArray)) ++ t109) ++ (⟨#[58]⟩ : ByteArray)) ++ t110) ++ ((⟨#[46]⟩ : ByteArray) ++ t112)).size + 1 ≤ 9223372036854775807 then (some ((((((((((((t105 ++ (⟨#[45]⟩ : ByteArray)) ++ t106) ++ (⟨#[45]⟩ : ByteArray)) ++ t107) ++ (⟨#[84]⟩ : ByteArray)) ++ t108) ++ (⟨#[58]⟩ : ByteArray)) ++ t109) ++ (⟨#[58]⟩ : ByteArray)) ++ t110) ++ ((⟨#[46]⟩ : ByteArray) ++ t112)) ++ (⟨#[90]⟩ : ByteArray), 0)) else (none)) else (none)) else (none)))) else (if ((((((((((t105 ++ (⟨#[45]⟩ : ByteArray)) ++ t106) ++ (⟨#[45]⟩ : ByteArray)) ++ t107) ++ (⟨#[84]⟩ : ByteArray)) ++ t108) ++ (⟨#[58]⟩ : ByteArray)) ++ t109) ++ (⟨#[58]⟩ : ByteArray)) ++ t110).size + 1 ≤ 9223372036854775807 then (some (((((((((((t105 ++ (⟨#[45]⟩ : ByteArray)) ++ t106) ++ (⟨#[45]⟩ : ByteArray)) ++ t107) ++ (⟨#[84]⟩ : ByteArray)) ++ t108) ++ (⟨#[58]⟩ : ByteArray)) ++ t109) ++ (⟨#[58]⟩ : ByteArray)) ++ t110) ++ (⟨#[90]⟩ : ByteArray), 0)) else (none))) else (none))) else (none)) else (none))) else (none)) else (none))) else (none)) else (none)) = some (r1, r2) := H
              have A18 := Aside0.mk A180
              clear A180
              by_cases c19 : (((t105 ++ (⟨#[45]⟩ : ByteArray)) ++ t106) ++ (⟨#[45]⟩ : ByteArray)).size + t107.size ≤ 9223372036854775807
              · rw [if_pos c19] at H
                have c19b0 := eq_true c19
                have c19b1 : decide ((((t105 ++ (⟨#[45]⟩ : ByteArray)) ++ t106) ++ (⟨#[45]⟩ : ByteArray)).size + t107.size ≤ 9223372036854775807) = true := decide_eq_true c19
                try have c19b2 : (9223372036854775807 < (((t105 ++ (⟨#[45]⟩ : ByteArray)) ++ t106) ++ (⟨#[45]⟩ : ByteArray)).size + t107.size) = False := eq_false (Nat.not_lt.2 c19)
                try have c19b3 : (9223372036854775807 < t105.size + 1 + t106.size + 1 + t107.size) = False := eq_false (by have h_ := c19; simp only [ByteArray.size_append] at h_; exact Nat.not_lt.2 h_)
                by_cases c20 : ((((t105 ++ (⟨#[45]⟩ : ByteArray)) ++ t106) ++ (⟨#[45]⟩ : ByteArray)) ++ t107).size + 1 ≤ 9223372036854775807
                · rw [if_pos c20] at H
                  have c20b0 := eq_true c20
                  have c20b1 : decide (((((t105 ++ (⟨#[45]⟩ : ByteArray)) ++ t106) ++ (⟨#[45]⟩ : ByteArray)) ++ t107).size + 1 ≤ 9223372036854775807) = true := decide_eq_true c20
                  try have c20b2 : (9223372036854775807 < ((((t105 ++ (⟨#[45]⟩ : ByteArray)) ++ t106) ++ (⟨#[45]⟩ : ByteArray)) ++ t107).size + 1) = False := eq_false (Nat.not_lt.2 c20)
                  try have c20b3 : (9223372036854775807 < t105.size + 1 + t106.size + 1 + t107.size + 1) = False := eq_false (by have h_ := c20; simp only [ByteArray.size_append] at h_; exact Nat.not_lt.2 h_)
                  replace H := Option.bind_eq_some_iff.mp H
                  obtain ⟨t108, A210, H⟩ := H
                  replace H : (if (((((t105 ++ (⟨#[45]⟩ : ByteArray)) ++ t106) ++ (⟨#[45]⟩ : ByteArray)) ++ t107) ++ (⟨#[84]⟩ : ByteArray)).size + t108.size ≤ 9223372036854775807 then (if ((((((t105 ++ (⟨#[45]⟩ : ByteArray)) ++ t106) ++ (⟨#[45]⟩ : ByteArray)) ++ t107) ++ (⟨#[84]⟩ : ByteArray)) ++ t108).size + 1 ≤ 9223372036854775807 then ((Go.Proofs.YtfcmdameiabjmaaDoor.Txt.date_pad.f (Int.tmod (wrap64 (Int.tdiv (Int.tmod (wrap64 (a0_0 + 62167219200)) 86400) 60)) 60) 2).bind fun t109 => (if (((((((t105 ++ (⟨#[45]⟩ : ByteArray)) ++ t106) ++ (⟨#[45]⟩ : ByteArray)) ++ t107) ++ (⟨#[84]⟩ : ByteArray)) ++ t108) ++ (⟨#[58]⟩ : ByteArray)).size + t109.size ≤ 9223372036854775807 then (if ((((((((t105 ++ (⟨#[45]⟩ : ByteArray)) ++ t106) ++ (⟨#[45]⟩ : ByteArray)) ++ t107) ++ (⟨#[84]⟩ : ByteArray)) ++ t108) ++ (⟨#[58]⟩ : ByteArray)) ++ t109).size + 1 ≤ 9223372036854775807 then ((Go.Proofs.YtfcmdameiabjmaaDoor.Txt.date_pad.f (Int.tmod (Int.tmod (wrap64 (a0_0 + 62167219200)) 86400) 60) 2).bind fun t110 => (if (((((((((t105 ++ (⟨#[45]⟩ : ByteArray)) ++ t106) ++ (⟨#[45]⟩ : ByteArray)) ++ t107) ++ (⟨#[84]⟩ : ByteArray)) ++ t108) ++ (⟨#[58]⟩ : ByteArray)) ++ t109) ++ (⟨#[58]⟩ : ByteArray)).size + t110.size ≤ 9223372036854775807 then (if a0_1 > 0 then ((Go.Proofs.YtfcmdameiabjmaaDoor.Txt.date_pad.f a0_1 9).bind fun t111 => ((Go.Proofs.YtfcmdameiabjmaaDoor.Txt.strings_TrimRight.f t111 (⟨#[48]⟩ : ByteArray)).bind fun t112 => (if 1 + t112.size ≤ 9223372036854775807 then (if ((((((((((t105 ++ (⟨#[45]⟩ : ByteArray)) ++ t106) ++ (⟨#[45]⟩ : ByteArray)) ++ t107) ++ (⟨#[84]⟩ : ByteArray)) ++ t108) ++ (⟨#[58]⟩ : ByteArray)) ++ t109) ++ (⟨#[58]⟩ : ByteArray)) ++ t110).size + ((⟨#[46]⟩ : ByteArray) ++ t112).size ≤ 9223372036854775807 then (if (((((((((((t105 ++ (⟨#[45]⟩ : ByteArray)) ++ t106) ++ (⟨#[45]⟩ : ByteArray)) ++ t107) ++ (⟨#[84]⟩ : ByteArray)) ++ t108) ++ (⟨#[58]⟩ : ByteArray)) ++ t109) ++ (⟨#[58]⟩ : ByteArray)) ++ t110) ++ ((⟨#[46]⟩ : ByteArray) ++ t112)).size + 1 ≤ 9223372036854775807 then (some ((((((((((((t105 ++ (⟨#[45]⟩ : ByteArray)) ++ t106) ++ (⟨#[45]⟩ : ByteArray)) ++ t107) ++ (⟨#[84]⟩ : ByteArray)) ++ t108) ++ (⟨#[58]⟩ : ByteArray)) ++ t109) ++ (⟨#[58]⟩ : ByteArray)) ++ t110) ++ ((⟨#[46]⟩ : ByteArray) ++ t112)) ++ (⟨#[90]⟩ : ByteArray), 0)) else (none)) else (none)) else (none)))) else (if ((((((((((t105 ++ (⟨#[45]⟩ : ByteArray)) ++ t106) ++ (⟨#[45]⟩ : ByteArray)) ++ t107) ++ (⟨#[84]⟩ : ByteArray)) ++ t108) ++ (⟨#[58]⟩ : ByteArray)) ++ t109) ++ (⟨#[58]⟩ : ByteArray)) ++ t110).size + 1 ≤ 9223372036854775807 then (some (((((((((((t105 ++ (⟨#[45]⟩ : ByteArray)) ++ t106) ++ (⟨#[45]⟩ : ByteArray)) ++ t107) ++ (⟨#[84]⟩ : ByteArray)) ++ t108) ++ (⟨#[58]⟩ : ByteArray)) ++ t109) ++ (⟨#[58]⟩ : ByteArray)) ++ t110) ++ (⟨#[90]⟩ : ByteArray), 0)) else (none))) else (none))) else (none)) else (none))) else (none)) else (none)) = some (r1, r2) := H
                  have A21 := Aside0.mk A210
                  clear A210
                  by_cases c22 : (((((t105 ++ (⟨#[45]⟩ : ByteArray)) ++ t106) ++ (⟨#[45]⟩ : ByteArray)) ++ t107) ++ (⟨#[84]⟩ : ByteArray)).size + t108.size ≤ 9223372036854775807
                  · rw [if_pos c22] at H
                    have c22b0 := eq_true c22
                    have c22b1 : decide ((((((t105 ++ (⟨#[45]⟩ : ByteArray)) ++ t106) ++ (⟨#[45]⟩ : ByteArray)) ++ t107) ++ (⟨#[84]⟩ : ByteArray)).size + t108.size ≤ 9223372036854775807) = true := decide_eq_true c22
                    try have c22b2 : (9223372036854775807 < (((((t105 ++ (⟨#[45]⟩ : ByteArray)) ++ t106) ++ (⟨#[45]⟩ : ByteArray)) ++ t107) ++ (⟨#[84]⟩ : ByteArray)).size + t108.size) = False := eq_false (Nat.not_lt.2 c22)
                    try have c22b3 : (9223372036854775807 < t105.size + 1 + t106.size + 1 + t107.size + 1 + t108.size) = False := eq_false (by have h_ := c22; simp only [ByteArray.size_append] at h_; exact Nat.not_lt.2 h_)
                    by_cases c23 : ((((((t105 ++ (⟨#[45]⟩ : ByteArray)) ++ t106) ++ (⟨#[45]⟩ : ByteArray)) ++ t107) ++ (⟨#[84]⟩ : ByteArray)) ++ t108).size + 1 ≤ 9223372036854775807
                    · rw [if_pos c23] at H
                      have c23b0 := eq_true c23
                      have c23b1 : decide (((((((t105 ++ (⟨#[45]⟩ : ByteArray)) ++ t106) ++ (⟨#[45]⟩ : ByteArray)) ++ t107) ++ (⟨#[84]⟩ : ByteArray)) ++ t108).size + 1 ≤ 9223372036854775807) = true := decide_eq_true c23
                      try have c23b2 : (9223372036854775807 < ((((((t105 ++ (⟨#[45]⟩ : ByteArray)) ++ t106) ++ (⟨#[45]⟩ : ByteArray)) ++ t107) ++ (⟨#[84]⟩ : ByteArray)) ++ t108).size + 1) = False := eq_false (Nat.not_lt.2 c23)
                      try have c23b3 : (9223372036854775807 < t105.size + 1 + t106.size + 1 + t107.size + 1 + t108.size + 1) = False := eq_false (by have h_ := c23; simp only [ByteArray.size_append] at h_; exact Nat.not_lt.2 h_)
                      replace H := Option.bind_eq_some_iff.mp H
                      obtain ⟨t109, A240, H⟩ := H
                      replace H : (if (((((((t105 ++ (⟨#[45]⟩ : ByteArray)) ++ t106) ++ (⟨#[45]⟩ : ByteArray)) ++ t107) ++ (⟨#[84]⟩ : ByteArray)) ++ t108) ++ (⟨#[58]⟩ : ByteArray)).size + t109.size ≤ 9223372036854775807 then (if ((((((((t105 ++ (⟨#[45]⟩ : ByteArray)) ++ t106) ++ (⟨#[45]⟩ : ByteArray)) ++ t107) ++ (⟨#[84]⟩ : ByteArray)) ++ t108) ++ (⟨#[58]⟩ : ByteArray)) ++ t109).size + 1 ≤ 9223372036854775807 then ((Go.Proofs.YtfcmdameiabjmaaDoor.Txt.date_pad.f (Int.tmod (Int.tmod (wrap64 (a0_0 + 62167219200)) 86400) 60) 2).bind fun t110 => (if (((((((((t105 ++ (⟨#[45]⟩ : ByteArray)) ++ t106) ++ (⟨#[45]⟩ : ByteArray)) ++ t107) ++ (⟨#[84]⟩ : ByteArray)) ++ t108) ++ (⟨#[58]⟩ : ByteArray)) ++ t109) ++ (⟨#[58]⟩ : ByteArray)).size + t110.size ≤ 9223372036854775807 then (if a0_1 > 0 then ((Go.Proofs.YtfcmdameiabjmaaDoor.Txt.date_pad.f a0_1 9).bind fun t111 => ((Go.Proofs.YtfcmdameiabjmaaDoor.Txt.strings_TrimRight.f t111 (⟨#[48]⟩ : ByteArray)).bind fun t112 => (if 1 + t112.size ≤ 9223372036854775807 then (if ((((((((((t105 ++ (⟨#[45]⟩ : ByteArray)) ++ t106) ++ (⟨#[45]⟩ : ByteArray)) ++ t107) ++ (⟨#[84]⟩ : ByteArray)) ++ t108) ++ (⟨#[58]⟩ : ByteArray)) ++ t109) ++ (⟨#[58]⟩ : ByteArray)) ++ t110).size + ((⟨#[46]⟩ : ByteArray) ++ t112).size ≤ 9223372036854775807 then (if (((((((((((t105 ++ (⟨#[45]⟩ : ByteArray)) ++ t106) ++ (⟨#[45]⟩ : ByteArray)) ++ t107) ++ (⟨#[84]⟩ : ByteArray)) ++ t108) ++ (⟨#[58]⟩ : ByteArray)) ++ t109) ++ (⟨#[58]⟩ : ByteArray)) ++ t110) ++ ((⟨#[46]⟩ : ByteArray) ++ t112)).size + 1 ≤ 9223372036854775807 then (some ((((((((((((t105 ++ (⟨#[45]⟩ : ByteArray)) ++ t106) ++ (⟨#[45]⟩ : ByteArray)) ++ t107) ++ (⟨#[84]⟩ : ByteArray)) ++ t108) ++ (⟨#[58]⟩ : ByteArray)) ++ t109) ++ (⟨#[58]⟩ : ByteArray)) ++ t110) ++ ((⟨#[46]⟩ : ByteArray) ++ t112)) ++ (⟨#[90]⟩ : ByteArray), 0)) else (none)) else (none)) else (none)))) else (if ((((((((((t105 ++ (⟨#[45]⟩ : ByteArray)) ++ t106) ++ (⟨#[45]⟩ : ByteArray)) ++ t107) ++ (⟨#[84]⟩ : ByteArray)) ++ t108) ++ (⟨#[58]⟩ : ByteArray)) ++ t109) ++ (⟨#[58]⟩ : ByteArray)) ++ t110).size + 1 ≤ 9223372036854775807 then (some (((((((((((t105 ++ (⟨#[45]⟩ : ByteArray)) ++ t106) ++ (⟨#[45]⟩ : ByteArray)) ++ t107) ++ (⟨#[84]⟩ : ByteArray)) ++ t108) ++ (⟨#[58]⟩ : ByteArray)) ++ t109) ++ (⟨#[58]⟩ : ByteArray)) ++ t110) ++ (⟨#[90]⟩ : ByteArray), 0)) else (none))) else (none))) else (none)) else (none)) = some (r1, r2) := H
                      have A24 := Aside0.mk A240
                      clear A240
                      by_cases c25 : (((((((t105 ++ (⟨#[45]⟩ : ByteArray)) ++ t106) ++ (⟨#[45]⟩ : ByteArray)) ++ t107) ++ (⟨#[84]⟩ : ByteArray)) ++ t108) ++ (⟨#[58]⟩ : ByteArray)).size + t109.size ≤ 9223372036854775807
                      · rw [if_pos c25] at H
                        have c25b0 := eq_true c25
                        have c25b1 : decide ((((((((t105 ++ (⟨#[45]⟩ : ByteArray)) ++ t106) ++ (⟨#[45]⟩ : ByteArray)) ++ t107) ++ (⟨#[84]⟩ : ByteArray)) ++ t108) ++ (⟨#[58]⟩ : ByteArray)).size + t109.size ≤ 9223372036854775807) = true := decide_eq_true c25
                        try have c25b2 : (9223372036854775807 < (((((((t105 ++ (⟨#[45]⟩ : ByteArray)) ++ t106) ++ (⟨#[45]⟩ : ByteArray)) ++ t107) ++ (⟨#[84]⟩ : ByteArray)) ++ t108) ++ (⟨#[58]⟩ : ByteArray)).size + t109.size) = False := eq_false (Nat.not_lt.2 c25)
                        try have c25b3 : (9223372036854775807 < t105.size + 1 + t106.size + 1 + t107.size + 1 + t108.size + 1 + t109.size) = False := eq_false (by have h_ := c25; simp only [ByteArray.size_append] at h_; exact Nat.not_lt.2 h_)
                        by_cases c26 : ((((((((t105 ++ (⟨#[45]⟩ : ByteArray)) ++ t106) ++ (⟨#[45]⟩ : ByteArray)) ++ t107) ++ (⟨#[84]⟩ : ByteArray)) ++ t108) ++ (⟨#[58]⟩ : ByteArray)) ++ t109).size + 1 ≤ 9223372036854775807
                        · rw [if_pos c26] at H
                          have c26b0 := eq_true c26
                          have c26b1 : decide (((((((((t105 ++ (⟨#[45]⟩ : ByteArray)) ++ t106) ++ (⟨#[45]⟩ : ByteArray)) ++ t107) ++ (⟨#[84]⟩ : ByteArray)) ++ t108) ++ (⟨#[58]⟩ : ByteArray)) ++ t109).size + 1 ≤ 9223372036854775807) = true := decide_eq_true c26
                          try have c26b2 : (9223372036854775807 < ((((((((t105 ++ (⟨#[45]⟩ : ByteArray)) ++ t106) ++ (⟨#[45]⟩ : ByteArray)) ++ t107) ++ (⟨#[84]⟩ : ByteArray)) ++ t108) ++ (⟨#[58]⟩ : ByteArray)) ++ t109).size + 1) = False := eq_false (Nat.not_lt.2 c26)
                          try have c26b3 : (9223372036854775807 < t105.size + 1 + t106.size + 1 + t107.size + 1 + t108.size + 1 + t109.size + 1) = False := eq_false (by have h_ := c26; simp only [ByteArray.size_append] at h_; exact Nat.not_lt.2 h_)
                          replace H := Option.bind_eq_some_iff.mp H
                          obtain ⟨t110, A270, H⟩ := H
                          replace H : (if (((((((((t105 ++ (⟨#[45]⟩ : ByteArray)) ++ t106) ++ (⟨#[45]⟩ : ByteArray)) ++ t107) ++ (⟨#[84]⟩ : ByteArray)) ++ t108) ++ (⟨#[58]⟩ : ByteArray)) ++ t109) ++ (⟨#[58]⟩ : ByteArray)).size + t110.size ≤ 9223372036854775807 then (if a0_1 > 0 then ((Go.Proofs.YtfcmdameiabjmaaDoor.Txt.date_pad.f a0_1 9).bind fun t111 => ((Go.Proofs.YtfcmdameiabjmaaDoor.Txt.strings_TrimRight.f t111 (⟨#[48]⟩ : ByteArray)).bind fun t112 => (if 1 + t112.size ≤ 9223372036854775807 then (if ((((((((((t105 ++ (⟨#[45]⟩ : ByteArray)) ++ t106) ++ (⟨#[45]⟩ : ByteArray)) ++ t107) ++ (⟨#[84]⟩ : ByteArray)) ++ t108) ++ (⟨#[58]⟩ : ByteArray)) ++ t109) ++ (⟨#[58]⟩ : ByteArray)) ++ t110).size + ((⟨#[46]⟩ : ByteArray) ++ t112).size ≤ 9223372036854775807 then (if (((((((((((t105 ++ (⟨#[45]⟩ : ByteArray)) ++ t106) ++ (⟨#[45]⟩ : ByteArray)) ++ t107) ++ (⟨#[84]⟩ : ByteArray)) ++ t108) ++ (⟨#[58]⟩ : ByteArray)) ++ t109) ++ (⟨#[58]⟩ : ByteArray)) ++ t110) ++ ((⟨#[46]⟩ : ByteArray) ++ t112)).size + 1 ≤ 9223372036854775807 then (some ((((((((((((t105 ++ (⟨#[45]⟩ : ByteArray)) ++ t106) ++ (⟨#[45]⟩ : ByteArray)) ++ t107) ++ (⟨#[84]⟩ : ByteArray)) ++ t108) ++ (⟨#[58]⟩ : ByteArray)) ++ t109) ++ (⟨#[58]⟩ : ByteArray)) ++ t110) ++ ((⟨#[46]⟩ : ByteArray) ++ t112)) ++ (⟨#[90]⟩ : ByteArray), 0)) else (none)) else (none)) else (none)))) else (if ((((((((((t105 ++ (⟨#[45]⟩ : ByteArray)) ++ t106) ++ (⟨#[45]⟩ : ByteArray)) ++ t107) ++ (⟨#[84]⟩ : ByteArray)) ++ t108) ++ (⟨#[58]⟩ : ByteArray)) ++ t109) ++ (⟨#[58]⟩ : ByteArray)) ++ t110).size + 1 ≤ 9223372036854775807 then (some (((((((((((t105 ++ (⟨#[45]⟩ : ByteArray)) ++ t106) ++ (⟨#[45]⟩ : ByteArray)) ++ t107) ++ (⟨#[84]⟩ : ByteArray)) ++ t108) ++ (⟨#[58]⟩ : ByteArray)) ++ t109) ++ (⟨#[58]⟩ : ByteArray)) ++ t110) ++ (⟨#[90]⟩ : ByteArray), 0)) else (none))) else (none)) = some (r1, r2) := H
                          have A27 := Aside0.mk A270
                          clear A270
                          by_cases c28 : (((((((((t105 ++ (⟨#[45]⟩ : ByteArray)) ++ t106) ++ (⟨#[45]⟩ : ByteArray)) ++ t107) ++ (⟨#[84]⟩ : ByteArray)) ++ t108) ++ (⟨#[58]⟩ : ByteArray)) ++ t109) ++ (⟨#[58]⟩ : ByteArray)).size + t110.size ≤ 9223372036854775807
                          · rw [if_pos c28] at H
                            have c28b0 := eq_true c28
                            have c28b1 : decide ((((((((((t105 ++ (⟨#[45]⟩ : ByteArray)) ++ t106) ++ (⟨#[45]⟩ : ByteArray)) ++ t107) ++ (⟨#[84]⟩ : ByteArray)) ++ t108) ++ (⟨#[58]⟩ : ByteArray)) ++ t109) ++ (⟨#[58]⟩ : ByteArray)).size + t110.size ≤ 9223372036854775807) = true := decide_eq_true c28
                            try have c28b2 : (9223372036854775807 < (((((((((t105 ++ (⟨#[45]⟩ : ByteArray)) ++ t106) ++ (⟨#[45]⟩ : ByteArray)) ++ t107) ++ (⟨#[84]⟩ : ByteArray)) ++ t108) ++ (⟨#[58]⟩ : ByteArray)) ++ t109) ++ (⟨#[58]⟩ : ByteArray)).size + t110.size) = False := eq_false (Nat.not_lt.2 c28)
                            try have c28b3 : (9223372036854775807 < t105.size + 1 + t106.size + 1 + t107.size + 1 + t108.size + 1 + t109.size + 1 + t110.size) = False := eq_false (by have h_ := c28; simp only [ByteArray.size_append] at h_; exact Nat.not_lt.2 h_)
                            by_cases c29 : a0_1 > 0
                            · rw [if_pos c29] at H
                              have c29b0 : decide (0 < a0_1) = true := decide_eq_true c29
                              clear c29
                              replace H := Option.bind_eq_some_iff.mp H
                              obtain ⟨t111, A300, H⟩ := H
                              replace H : ((Go.Proofs.YtfcmdameiabjmaaDoor.Txt.strings_TrimRight.f t111 (⟨#[48]⟩ : ByteArray)).bind fun t112 => (if 1 + t112.size ≤ 9223372036854775807 then (if ((((((((((t105 ++ (⟨#[45]⟩ : ByteArray)) ++ t106) ++ (⟨#[45]⟩ : ByteArray)) ++ t107) ++ (⟨#[84]⟩ : ByteArray)) ++ t108) ++ (⟨#[58]⟩ : ByteArray)) ++ t109) ++ (⟨#[58]⟩ : ByteArray)) ++ t110).size + ((⟨#[46]⟩ : ByteArray) ++ t112).size ≤ 9223372036854775807 then (if (((((((((((t105 ++ (⟨#[45]⟩ : ByteArray)) ++ t106) ++ (⟨#[45]⟩ : ByteArray)) ++ t107) ++ (⟨#[84]⟩ : ByteArray)) ++ t108) ++ (⟨#[58]⟩ : ByteArray)) ++ t109) ++ (⟨#[58]⟩ : ByteArray)) ++ t110) ++ ((⟨#[46]⟩ : ByteArray) ++ t112)).size + 1 ≤ 9223372036854775807 then (some ((((((((((((t105 ++ (⟨#[45]⟩ : ByteArray)) ++ t106) ++ (⟨#[45]⟩ : ByteArray)) ++ t107) ++ (⟨#[84]⟩ : ByteArray)) ++ t108) ++ (⟨#[58]⟩ : ByteArray)) ++ t109) ++ (⟨#[58]⟩ : ByteArray)) ++ t110) ++ ((⟨#[46]⟩ : ByteArray) ++ t112)) ++ (⟨#[90]⟩ : ByteArray), 0)) else (none)) else (none)) else (none))) = some (r1, r2) := H
                              have A30 := Aside0.mk A300
                              clear A300
                              replace H := Option.bind_eq_some_iff.mp H
                              obtain ⟨t112, A310, H⟩ := H
                              replace H : (if 1 + t112.size ≤ 9223372036854775807 then (if ((((((((((t105 ++ (⟨#[45]⟩ : ByteArray)) ++ t106) ++ (⟨#[45]⟩ : ByteArray)) ++ t107) ++ (⟨#[84]⟩ : ByteArray)) ++ t108) ++ (⟨#[58]⟩ : ByteArray)) ++ t109) ++ (⟨#[58]⟩ : ByteArray)) ++ t110).size + ((⟨#[46]⟩ : ByteArray) ++ t112).size ≤ 9223372036854775807 then (if (((((((((((t105 ++ (⟨#[45]⟩ : ByteArray)) ++ t106) ++ (⟨#[45]⟩ : ByteArray)) ++ t107) ++ (⟨#[84]⟩ : ByteArray)) ++ t108) ++ (⟨#[58]⟩ : ByteArray)) ++ t109) ++ (⟨#[58]⟩ : ByteArray)) ++ t110) ++ ((⟨#[46]⟩ : ByteArray) ++ t112)).size + 1 ≤ 9223372036854775807 then (some ((((((((((((t105 ++ (⟨#[45]⟩ : ByteArray)) ++ t106) ++ (⟨#[45]⟩ : ByteArray)) ++ t107) ++ (⟨#[84]⟩ : ByteArray)) ++ t108) ++ (⟨#[58]⟩ : ByteArray)) ++ t109) ++ (⟨#[58]⟩ : ByteArray)) ++ t110) ++ ((⟨#[46]⟩ : ByteArray) ++ t112)) ++ (⟨#[90]⟩ : ByteArray), 0)) else (none)) else (none)) else (none)) = some (r1, r2) := H
                              have A31 := Aside0.mk A310
                              clear A310
                              by_cases c32 : 1 + t112.size ≤ 9223372036854775807
                              · rw [if_pos c32] at H
                                have c32b0 := eq_true c32
                                have c32b1 : decide (1 + t112.size ≤ 9223372036854775807) = true := decide_eq_true c32
                                try have c32b2 : (9223372036854775807 < 1 + t112.size) = False := eq_false (Nat.not_lt.2 c32)
                                by_cases c33 : ((((((((((t105 ++ (⟨#[45]⟩ : ByteArray)) ++ t106) ++ (⟨#[45]⟩ : ByteArray)) ++ t107) ++ (⟨#[84]⟩ : ByteArray)) ++ t108) ++ (⟨#[58]⟩ : ByteArray)) ++ t109) ++ (⟨#[58]⟩ : ByteArray)) ++ t110).size + ((⟨#[46]⟩ : ByteArray) ++ t112).size ≤ 9223372036854775807
                                · rw [if_pos c33] at H
                                  have c33b0 := eq_true c33
                                  have c33b1 : decide (((((((((((t105 ++ (⟨#[45]⟩ : ByteArray)) ++ t106) ++ (⟨#[45]⟩ : ByteArray)) ++ t107) ++ (⟨#[84]⟩ : ByteArray)) ++ t108) ++ (⟨#[58]⟩ : ByteArray)) ++ t109) ++ (⟨#[58]⟩ : ByteArray)) ++ t110).size + ((⟨#[46]⟩ : ByteArray) ++ t112).size ≤ 9223372036854775807) = true := decide_eq_true c33
                                  try have c33b2 : (9223372036854775807 < ((((((((((t105 ++ (⟨#[45]⟩ : ByteArray)) ++ t106) ++ (⟨#[45]⟩ : ByteArray)) ++ t107) ++ (⟨#[84]⟩ : ByteArray)) ++ t108) ++ (⟨#[58]⟩ : ByteArray)) ++ t109) ++ (⟨#[58]⟩ : ByteArray)) ++ t110).size + ((⟨#[46]⟩ : ByteArray) ++ t112).size) = False := eq_false (Nat.not_lt.2 c33)
                                  try have c33b3 : (9223372036854775807 < t105.size + 1 + t106.size + 1 + t107.size + 1 + t108.size + 1 + t109.size + 1 + t110.size + (1 + t112.size)) = False := eq_false (by have h_ := c33; simp only [ByteArray.size_append] at h_; exact Nat.not_lt.2 h_)
                                  by_cases c34 : (((((((((((t105 ++ (⟨#[45]⟩ : ByteArray)) ++ t106) ++ (⟨#[45]⟩ : ByteArray)) ++ t107) ++ (⟨#[84]⟩ : ByteArray)) ++ t108) ++ (⟨#[58]⟩ : ByteArray)) ++ t109) ++ (⟨#[58]⟩ : ByteArray)) ++ t110) ++ ((⟨#[46]⟩ : ByteArray) ++ t112)).size + 1 ≤ 9223372036854775807
                                  · rw [if_pos c34] at H
                                    have c34b0 := eq_true c34
                                    have c34b1 : decide ((((((((((((t105 ++ (⟨#[45]⟩ : ByteArray)) ++ t106) ++ (⟨#[45]⟩ : ByteArray)) ++ t107) ++ (⟨#[84]⟩ : ByteArray)) ++ t108) ++ (⟨#[58]⟩ : ByteArray)) ++ t109) ++ (⟨#[58]⟩ : ByteArray)) ++ t110) ++ ((⟨#[46]⟩ : ByteArray) ++ t112)).size + 1 ≤ 9223372036854775807) = true := decide_eq_true c34
                                    try have c34b2 : (9223372036854775807 < (((((((((((t105 ++ (⟨#[45]⟩ : ByteArray)) ++ t106) ++ (⟨#[45]⟩ : ByteArray)) ++ t107) ++ (⟨#[84]⟩ : ByteArray)) ++ t108) ++ (⟨#[58]⟩ : ByteArray)) ++ t109) ++ (⟨#[58]⟩ : ByteArray)) ++ t110) ++ ((⟨#[46]⟩ : ByteArray) ++ t112)).size + 1) = False := eq_false (Nat.not_lt.2 c34)
                                    try have c34b3 : (9223372036854775807 < t105.size + 1 + t106.size + 1 + t107.size + 1 + t108.size + 1 + t109.size + 1 + t110.size + (1 + t112.size) + 1) = False := eq_false (by have h_ := c34; simp only [ByteArray.size_append] at h_; exact Nat.not_lt.2 h_)
                                    simp only [Option.some.injEq, Prod.mk.injEq] at H
                                    obtain ⟨rfl, rfl⟩ := H
                                    have hcz35_0 : wc.cell? ⟨gb101, 0, none⟩ = some (.int .i64 a0_0) := (blk_cell BK101.out 0).trans rfl
                                    have hcz35_1 : wc.cell? ⟨gb101, 1, none⟩ = some (.int .i64 a0_1) := (blk_cell BK101.out 1).trans rfl
                                    have hfz35_0 := blk_frozen BK101.out 0
                                    have hfz35_1 := blk_frozen BK101.out 1
                                    go_wp2_with (first | ((with_reducible refine gate_callee (f := 29) rfl ?_); refine goesL_ (some 39) rfl rfl Tryd.func29 (by kernel_rfl) rfl #[.int .i64 (wrap64 ((wrap64 ((wrap64 (Int.tdiv (wrap64 (a0_0 - (Int.tmod (wrap64 (a0_0 + 62167219200)) 86400))) 86400)) + 719468)) + 146097))] rfl (by (try simp only [List.map_toArray, List.map_cons, List.map_nil]); first | done | rfl | (simp only [List.length_drop, List.length_take]; rfl) | (simp only [Int.tmod_tmod_of_dvd _ (show (60 : Int) ∣ 86400 by decide)]; rfl)) ?_; (with_reducible refine (date_civil.calls (wrap64 ((wrap64 ((wrap64 (Int.tdiv (wrap64 (a0_0 - (Int.tmod (wrap64 (a0_0 + 62167219200)) 86400))) 86400)) + 719468)) + 146097)) t102 t103 t104 _ A12.out).mono ?_); rintro e w' ⟨rfl, ⟨nd, rfl⟩⟩; refine ⟨_, rfl, ?_⟩) | ((with_reducible refine gate_callee (f := 30) rfl ?_); refine goesL_ (some 44) rfl rfl Tryd.func30 (by kernel_rfl) rfl #[.int .i64 t102, .int .i64 4] rfl (by (try simp only [List.map_toArray, List.map_cons, List.map_nil]); first | done | rfl | (simp only [List.length_drop, List.length_take]; rfl) | (simp only [Int.tmod_tmod_of_dvd _ (show (60 : Int) ∣ 86400 by decide)]; rfl)) ?_; (with_reducible refine (Go.Proofs.YtfcmdameiabjmaaDoor.Txt.date_pad.calls t102 4 t105 _ ?side1 A13.out).mono ?_); (case side1 => exact Go.Proofs.YtfcmdameiabjmaaDoor.Txt.LaidW.step HG.out (by repeat (first | (with_reducible first | exact HB.out | apply below_alloc | apply pw_below_drewN | apply below_drew1 | refine below_set ?_ GE101.out) | exact HB.out))); rintro e w36 ⟨rfl, hb⟩; refine ⟨_, rfl, ?_⟩; have n0_ := Aside0.mk (blk_below (g := gb101) (o := .cells #[.int .i64 a0_0, .int .i64 a0_1] 24 (0, 0)) (by (with_reducible repeat (first | refine blk_drewN ?_ _ | refine blk_drew ?_ | refine blk_alloc ?_ _)); exact BK101.out) hb); have n1_ := Aside0.mk (below_step (by repeat (first | (with_reducible first | exact HB.out | apply below_alloc | apply pw_below_drewN | apply below_drew1 | refine below_set ?_ GE101.out) | exact HB.out)) hb); clear BK101; clear HB; have BK101 := n0_; have HB := n1_; clear n0_ n1_; (try clear hb); (try clear hb2); (try clear hk); (try clear hi)) | ((with_reducible refine gate_callee (f := 30) rfl ?_); refine goesL_ (some 47) rfl rfl Tryd.func30 (by kernel_rfl) rfl #[.int .i64 t103, .int .i64 2] rfl (by (try simp only [List.map_toArray, List.map_cons, List.map_nil]); first | done | rfl | (simp only [List.length_drop, List.length_take]; rfl) | (simp only [Int.tmod_tmod_of_dvd _ (show (60 : Int) ∣ 86400 by decide)]; rfl)) ?_; (with_reducible refine (Go.Proofs.YtfcmdameiabjmaaDoor.Txt.date_pad.calls t103 2 t106 _ ?side1 A15.out).mono ?_); (case side1 => exact Go.Proofs.YtfcmdameiabjmaaDoor.Txt.LaidW.step HG.out (by repeat (first | (with_reducible first | exact HB.out | apply below_alloc | apply pw_below_drewN | apply below_drew1 | refine below_set ?_ GE101.out) | exact HB.out))); rintro e w37 ⟨rfl, hb⟩; refine ⟨_, rfl, ?_⟩; have n0_ := Aside0.mk (blk_below (g := gb101) (o := .cells #[.int .i64 a0_0, .int .i64 a0_1] 24 (0, 0)) (by (with_reducible repeat (first | refine blk_drewN ?_ _ | refine blk_drew ?_ | refine blk_alloc ?_ _)); exact BK101.out) hb); have n1_ := Aside0.mk (below_step (by repeat (first | (with_reducible first | exact HB.out | apply below_alloc | apply pw_below_drewN | apply below_drew1 | refine below_set ?_ GE101.out) | exact HB.out)) hb); clear BK101; clear HB; have BK101 := n0_; have HB := n1_; clear n0_ n1_; (try clear hb); (try clear hb2); (try clear hk); (try clear hi)) | ((with_reducible refine gate_callee (f := 30) rfl ?_); refine goesL_ (some 51) rfl rfl Tryd.func30 (by kernel_rfl) rfl #[.int .i64 t104, .int .i64 2] rfl (by (try simp only [List.map_toArray, List.map_cons, List.map_nil]); first | done | rfl | (simp only [List.length_drop, List.length_take]; rfl) | (simp only [Int.tmod_tmod_of_dvd _ (show (60 : Int) ∣ 86400 by decide)]; rfl)) ?_; (with_reducible refine (Go.Proofs.YtfcmdameiabjmaaDoor.Txt.date_pad.calls t104 2 t107 _ ?side1 A18.out).mono ?_); (case side1 => exact Go.Proofs.YtfcmdameiabjmaaDoor.Txt.LaidW.step HG.out (by repeat (first | (with_reducible first | exact HB.out | apply below_alloc | apply pw_below_drewN | apply below_drew1 | refine below_set ?_ GE101.out) | exact HB.out))); rintro e w38 ⟨rfl, hb⟩; refine ⟨_, rfl, ?_⟩; have n0_ := Aside0.mk (blk_below (g := gb101) (o := .cells #[.int .i64 a0_0, .int .i64 a0_1] 24 (0, 0)) (by (with_reducible repeat (first | refine blk_drewN ?_ _ | refine blk_drew ?_ | refine blk_alloc ?_ _)); exact BK101.out) hb); have n1_ := Aside0.mk (below_step (by repeat (first | (with_reducible first | exact HB.out | apply below_alloc | apply pw_below_drewN | apply below_drew1 | refine below_set ?_ GE101.out) | exact HB.out)) hb); clear BK101; clear HB; have BK101 := n0_; have HB := n1_; clear n0_ n1_; (try clear hb); (try clear hb2); (try clear hk); (try clear hi)) | ((with_reducible refine gate_callee (f := 30) rfl ?_); refine goesL_ (some 56) rfl rfl Tryd.func30 (by kernel_rfl) rfl #[.int .i64 (wrap64 (Int.tdiv (Int.tmod (wrap64 (a0_0 + 62167219200)) 86400) 3600)), .int .i64 2] rfl (by (try simp only [List.map_toArray, List.map_cons, List.map_nil]); first | done | rfl | (simp only [List.length_drop, List.length_take]; rfl) | (simp only [Int.tmod_tmod_of_dvd _ (show (60 : Int) ∣ 86400 by decide)]; rfl)) ?_; (with_reducible refine (Go.Proofs.YtfcmdameiabjmaaDoor.Txt.date_pad.calls (wrap64 (Int.tdiv (Int.tmod (wrap64 (a0_0 + 62167219200)) 86400) 3600)) 2 t108 _ ?side1 A21.out).mono ?_); (case side1 => exact Go.Proofs.YtfcmdameiabjmaaDoor.Txt.LaidW.step HG.out (by repeat (first | (with_reducible first | exact HB.out | apply below_alloc | apply pw_below_drewN | apply below_drew1 | refine below_set ?_ GE101.out) | exact HB.out))); rintro e w39 ⟨rfl, hb⟩; refine ⟨_, rfl, ?_⟩; have n0_ := Aside0.mk (blk_below (g := gb101) (o := .cells #[.int .i64 a0_0, .int .i64 a0_1] 24 (0, 0)) (by (with_reducible repeat (first | refine blk_drewN ?_ _ | refine blk_drew ?_ | refine blk_alloc ?_ _)); exact BK101.out) hb); have n1_ := Aside0.mk (below_step (by repeat (first | (with_reducible first | exact HB.out | apply below_alloc | apply pw_below_drewN | apply below_drew1 | refine below_set ?_ GE101.out) | exact HB.out)) hb); clear BK101; clear HB; have BK101 := n0_; have HB := n1_; clear n0_ n1_; (try clear hb); (try clear hb2); (try clear hk); (try clear hi)) | ((with_reducible refine gate_callee (f := 30) rfl ?_); refine goesL_ (some 62) rfl rfl Tryd.func30 (by kernel_rfl) rfl #[.int .i64 (Int.tmod (wrap64 (Int.tdiv (Int.tmod (wrap64 (a0_0 + 62167219200)) 86400) 60)) 60), .int .i64 2] rfl (by (try simp only [List.map_toArray, List.map_cons, List.map_nil]); first | done | rfl | (simp only [List.length_drop, List.length_take]; rfl) | (simp only [Int.tmod_tmod_of_dvd _ (show (60 : Int) ∣ 86400 by decide)]; rfl)) ?_; (with_reducible refine (Go.Proofs.YtfcmdameiabjmaaDoor.Txt.date_pad.calls (Int.tmod (wrap64 (Int.tdiv (Int.tmod (wrap64 (a0_0 + 62167219200)) 86400) 60)) 60) 2 t109 _ ?side1 A24.out).mono ?_); (case side1 => exact Go.Proofs.YtfcmdameiabjmaaDoor.Txt.LaidW.step HG.out (by repeat (first | (with_reducible first | exact HB.out | apply below_alloc | apply pw_below_drewN | apply below_drew1 | refine below_set ?_ GE101.out) | exact HB.out))); rintro e w40 ⟨rfl, hb⟩; refine ⟨_, rfl, ?_⟩; have n0_ := Aside0.mk (blk_below (g := gb101) (o := .cells #[.int .i64 a0_0, .int .i64 a0_1] 24 (0, 0)) (by (with_reducible repeat (first | refine blk_drewN ?_ _ | refine blk_drew ?_ | refine blk_alloc ?_ _)); exact BK101.out) hb); have n1_ := Aside0.mk (below_step (by repeat (first | (with_reducible first | exact HB.out | apply below_alloc | apply pw_below_drewN | apply below_drew1 | refine below_set ?_ GE101.out) | exact HB.out)) hb); clear BK101; clear HB; have BK101 := n0_; have HB := n1_; clear n0_ n1_; (try clear hb); (try clear hb2); (try clear hk); (try clear hi)) | ((with_reducible refine gate_callee (f := 30) rfl ?_); refine goesL_ (some 67) rfl rfl Tryd.func30 (by kernel_rfl) rfl #[.int .i64 (Int.tmod (Int.tmod (wrap64 (a0_0 + 62167219200)) 86400) 60), .int .i64 2] rfl (by (try simp only [List.map_toArray, List.map_cons, List.map_nil]); first | done | rfl | (simp only [List.length_drop, List.length_take]; rfl) | (simp only [Int.tmod_tmod_of_dvd _ (show (60 : Int) ∣ 86400 by decide)]; rfl)) ?_; (with_reducible refine (Go.Proofs.YtfcmdameiabjmaaDoor.Txt.date_pad.calls (Int.tmod (Int.tmod (wrap64 (a0_0 + 62167219200)) 86400) 60) 2 t110 _ ?side1 A27.out).mono ?_); (case side1 => exact Go.Proofs.YtfcmdameiabjmaaDoor.Txt.LaidW.step HG.out (by repeat (first | (with_reducible first | exact HB.out | apply below_alloc | apply pw_below_drewN | apply below_drew1 | refine below_set ?_ GE101.out) | exact HB.out))); rintro e w41 ⟨rfl, hb⟩; refine ⟨_, rfl, ?_⟩; have n0_ := Aside0.mk (blk_below (g := gb101) (o := .cells #[.int .i64 a0_0, .int .i64 a0_1] 24 (0, 0)) (by (with_reducible repeat (first | refine blk_drewN ?_ _ | refine blk_drew ?_ | refine blk_alloc ?_ _)); exact BK101.out) hb); have n1_ := Aside0.mk (below_step (by repeat (first | (with_reducible first | exact HB.out | apply below_alloc | apply pw_below_drewN | apply below_drew1 | refine below_set ?_ GE101.out) | exact HB.out)) hb); clear BK101; clear HB; have BK101 := n0_; have HB := n1_; clear n0_ n1_; (try clear hb); (try clear hb2); (try clear hk); (try clear hi); have hcz42_0 : w41.cell? ⟨gb101, 0, none⟩ = some (.int .i64 a0_0) := (blk_cell BK101.out 0).trans rfl; have hcz42_1 : w41.cell? ⟨gb101, 1, none⟩ = some (.int .i64 a0_1) := (blk_cell BK101.out 1).trans rfl; have hfz42_0 := blk_frozen BK101.out 0; have hfz42_1 := blk_frozen BK101.out 1) | ((with_reducible refine gate_callee (f := 30) rfl ?_); refine goesL_ (some 75) rfl rfl Tryd.func30 (by kernel_rfl) rfl #[.int .i64 a0_1, .int .i64 9] rfl (by (try simp only [List.map_toArray, List.map_cons, List.map_nil]); first | done | rfl | (simp only [List.length_drop, List.length_take]; rfl) | (simp only [Int.tmod_tmod_of_dvd _ (show (60 : Int) ∣ 86400 by decide)]; rfl)) ?_; (with_reducible refine (Go.Proofs.YtfcmdameiabjmaaDoor.Txt.date_pad.calls a0_1 9 t111 _ ?side1 A30.out).mono ?_); (case side1 => exact Go.Proofs.YtfcmdameiabjmaaDoor.Txt.LaidW.step HG.out (by repeat (first | (with_reducible first | exact HB.out | apply below_alloc | apply pw_below_drewN | apply below_drew1 | refine below_set ?_ GE101.out) | exact HB.out))); rintro e w43 ⟨rfl, hb⟩; refine ⟨_, rfl, ?_⟩; have n0_ := Aside0.mk (blk_below (g := gb101) (o := .cells #[.int .i64 a0_0, .int .i64 a0_1] 24 (0, 0)) (by (with_reducible repeat (first | refine blk_drewN ?_ _ | refine blk_drew ?_ | refine blk_alloc ?_ _)); exact BK101.out) hb); have n1_ := Aside0.mk (below_step (by repeat (first | (with_reducible first | exact HB.out | apply below_alloc | apply pw_below_drewN | apply below_drew1 | refine below_set ?_ GE101.out) | exact HB.out)) hb); clear BK101; clear HB; have BK101 := n0_; have HB := n1_; clear n0_ n1_; (try clear hb); (try clear hb2); (try clear hk); (try clear hi)) | ((with_reducible refine gate_callee (f := 31) rfl ?_); refine goesL_ (some 76) rfl rfl Tryd.func31 (by kernel_rfl) rfl #[.string t111, .string (⟨#[48]⟩ : ByteArray)] rfl (by (try simp only [List.map_toArray, List.map_cons, List.map_nil]); first | done | rfl | (simp only [List.length_drop, List.length_take]; rfl) | (simp only [Int.tmod_tmod_of_dvd _ (show (60 : Int) ∣ 86400 by decide)]; rfl)) ?_; (with_reducible refine (Go.Proofs.YtfcmdameiabjmaaDoor.Txt.strings_TrimRight.calls t111 (⟨#[48]⟩ : ByteArray) t112 _ A31.out).mono ?_); rintro e w44 ⟨rfl, hb⟩; refine ⟨_, rfl, ?_⟩; have n0_ := Aside0.mk (blk_below (g := gb101) (o := .cells #[.int .i64 a0_0, .int .i64 a0_1] 24 (0, 0)) (by (with_reducible repeat (first | refine blk_drewN ?_ _ | refine blk_drew ?_ | refine blk_alloc ?_ _)); exact BK101.out) hb); have n1_ := Aside0.mk (below_step (by repeat (first | (with_reducible first | exact HB.out | apply below_alloc | apply pw_below_drewN | apply below_drew1 | refine below_set ?_ GE101.out) | exact HB.out)) hb); clear BK101; clear HB; have BK101 := n0_; have HB := n1_; clear n0_ n1_; (try clear hb); (try clear hb2); (try clear hk); (try clear hi)))
                                    go_ret2
                                    exact ⟨by first | rfl | (simp [errW_none, errW_some] <;> rfl) | (simp [*, errW_none, errW_some] <;> rfl), by repeat (first | (with_reducible first | exact HB.out | apply below_alloc | apply pw_below_drewN | apply below_drew1 | refine below_set ?_ GE101.out) | exact HB.out)⟩
                                  · rw [if_neg c34] at H
                                    exact absurd H (by simp)
                                · rw [if_neg c33] at H
                                  exact absurd H (by simp)
                              · rw [if_neg c32] at H
                                exact absurd H (by simp)
                            · rw [if_neg c29] at H
                              have c29b0 : decide (0 < a0_1) = false := decide_eq_false c29
                              clear c29
                              by_cases c45 : ((((((((((t105 ++ (⟨#[45]⟩ : ByteArray)) ++ t106) ++ (⟨#[45]⟩ : ByteArray)) ++ t107) ++ (⟨#[84]⟩ : ByteArray)) ++ t108) ++ (⟨#[58]⟩ : ByteArray)) ++ t109) ++ (⟨#[58]⟩ : ByteArray)) ++ t110).size + 1 ≤ 9223372036854775807
                              · rw [if_pos c45] at H
                                have c45b0 := eq_true c45
                                have c45b1 : decide (((((((((((t105 ++ (⟨#[45]⟩ : ByteArray)) ++ t106) ++ (⟨#[45]⟩ : ByteArray)) ++ t107) ++ (⟨#[84]⟩ : ByteArray)) ++ t108) ++ (⟨#[58]⟩ : ByteArray)) ++ t109) ++ (⟨#[58]⟩ : ByteArray)) ++ t110).size + 1 ≤ 9223372036854775807) = true := decide_eq_true c45
                                try have c45b2 : (9223372036854775807 < ((((((((((t105 ++ (⟨#[45]⟩ : ByteArray)) ++ t106) ++ (⟨#[45]⟩ : ByteArray)) ++ t107) ++ (⟨#[84]⟩ : ByteArray)) ++ t108) ++ (⟨#[58]⟩ : ByteArray)) ++ t109) ++ (⟨#[58]⟩ : ByteArray)) ++ t110).size + 1) = False := eq_false (Nat.not_lt.2 c45)
                                try have c45b3 : (9223372036854775807 < t105.size + 1 + t106.size + 1 + t107.size + 1 + t108.size + 1 + t109.size + 1 + t110.size + 1) = False := eq_false (by have h_ := c45; simp only [ByteArray.size_append] at h_; exact Nat.not_lt.2 h_)
                                simp only [Option.some.injEq, Prod.mk.injEq] at H
                                obtain ⟨rfl, rfl⟩ := H
                                have hcz46_0 : wc.cell? ⟨gb101, 0, none⟩ = some (.int .i64 a0_0) := (blk_cell BK101.out 0).trans rfl
                                have hcz46_1 : wc.cell? ⟨gb101, 1, none⟩ = some (.int .i64 a0_1) := (blk_cell BK101.out 1).trans rfl
                                have hfz46_0 := blk_frozen BK101.out 0
                                have hfz46_1 := blk_frozen BK101.out 1
                                go_wp2_with (first | ((with_reducible refine gate_callee (f := 29) rfl ?_); refine goesL_ (some 39) rfl rfl Tryd.func29 (by kernel_rfl) rfl #[.int .i64 (wrap64 ((wrap64 ((wrap64 (Int.tdiv (wrap64 (a0_0 - (Int.tmod (wrap64 (a0_0 + 62167219200)) 86400))) 86400)) + 719468)) + 146097))] rfl (by (try simp only [List.map_toArray, List.map_cons, List.map_nil]); first | done | rfl | (simp only [List.length_drop, List.length_take]; rfl) | (simp only [Int.tmod_tmod_of_dvd _ (show (60 : Int) ∣ 86400 by decide)]; rfl)) ?_; (with_reducible refine (date_civil.calls (wrap64 ((wrap64 ((wrap64 (Int.tdiv (wrap64 (a0_0 - (Int.tmod (wrap64 (a0_0 + 62167219200)) 86400))) 86400)) + 719468)) + 146097)) t102 t103 t104 _ A12.out).mono ?_); rintro e w' ⟨rfl, ⟨nd, rfl⟩⟩; refine ⟨_, rfl, ?_⟩) | ((with_reducible refine gate_callee (f := 30) rfl ?_); refine goesL_ (some 44) rfl rfl Tryd.func30 (by kernel_rfl) rfl #[.int .i64 t102, .int .i64 4] rfl (by (try simp only [List.map_toArray, List.map_cons, List.map_nil]); first | done | rfl | (simp only [List.length_drop, List.length_take]; rfl) | (simp only [Int.tmod_tmod_of_dvd _ (show (60 : Int) ∣ 86400 by decide)]; rfl)) ?_; (with_reducible refine (Go.Proofs.YtfcmdameiabjmaaDoor.Txt.date_pad.calls t102 4 t105 _ ?side1 A13.out).mono ?_); (case side1 => exact Go.Proofs.YtfcmdameiabjmaaDoor.Txt.LaidW.step HG.out (by repeat (first | (with_reducible first | exact HB.out | apply below_alloc | apply pw_below_drewN | apply below_drew1 | refine below_set ?_ GE101.out) | exact HB.out))); rintro e w47 ⟨rfl, hb⟩; refine ⟨_, rfl, ?_⟩; have n0_ := Aside0.mk (blk_below (g := gb101) (o := .cells #[.int .i64 a0_0, .int .i64 a0_1] 24 (0, 0)) (by (with_reducible repeat (first | refine blk_drewN ?_ _ | refine blk_drew ?_ | refine blk_alloc ?_ _)); exact BK101.out) hb); have n1_ := Aside0.mk (below_step (by repeat (first | (with_reducible first | exact HB.out | apply below_alloc | apply pw_below_drewN | apply below_drew1 | refine below_set ?_ GE101.out) | exact HB.out)) hb); clear BK101; clear HB; have BK101 := n0_; have HB := n1_; clear n0_ n1_; (try clear hb); (try clear hb2); (try clear hk); (try clear hi)) | ((with_reducible refine gate_callee (f := 30) rfl ?_); refine goesL_ (some 47) rfl rfl Tryd.func30 (by kernel_rfl) rfl #[.int .i64 t103, .int .i64 2] rfl (by (try simp only [List.map_toArray, List.map_cons, List.map_nil]); first | done | rfl | (simp only [List.length_drop, List.length_take]; rfl) | (simp only [Int.tmod_tmod_of_dvd _ (show (60 : Int) ∣ 86400 by decide)]; rfl)) ?_; (with_reducible refine (Go.Proofs.YtfcmdameiabjmaaDoor.Txt.date_pad.calls t103 2 t106 _ ?side1 A15.out).mono ?_); (case side1 => exact Go.Proofs.YtfcmdameiabjmaaDoor.Txt.LaidW.step HG.out (by repeat (first | (with_reducible first | exact HB.out | apply below_alloc | apply pw_below_drewN | apply below_drew1 | refine below_set ?_ GE101.out) | exact HB.out))); rintro e w48 ⟨rfl, hb⟩; refine ⟨_, rfl, ?_⟩; have n0_ := Aside0.mk (blk_below (g := gb101) (o := .cells #[.int .i64 a0_0, .int .i64 a0_1] 24 (0, 0)) (by (with_reducible repeat (first | refine blk_drewN ?_ _ | refine blk_drew ?_ | refine blk_alloc ?_ _)); exact BK101.out) hb); have n1_ := Aside0.mk (below_step (by repeat (first | (with_reducible first | exact HB.out | apply below_alloc | apply pw_below_drewN | apply below_drew1 | refine below_set ?_ GE101.out) | exact HB.out)) hb); clear BK101; clear HB; have BK101 := n0_; have HB := n1_; clear n0_ n1_; (try clear hb); (try clear hb2); (try clear hk); (try clear hi)) | ((with_reducible refine gate_callee (f := 30) rfl ?_); refine goesL_ (some 51) rfl rfl Tryd.func30 (by kernel_rfl) rfl #[.int .i64 t104, .int .i64 2] rfl (by (try simp only [List.map_toArray, List.map_cons, List.map_nil]); first | done | rfl | (simp only [List.length_drop, List.length_take]; rfl) | (simp only [Int.tmod_tmod_of_dvd _ (show (60 : Int) ∣ 86400 by decide)]; rfl)) ?_; (with_reducible refine (Go.Proofs.YtfcmdameiabjmaaDoor.Txt.date_pad.calls t104 2 t107 _ ?side1 A18.out).mono ?_); (case side1 => exact Go.Proofs.YtfcmdameiabjmaaDoor.Txt.LaidW.step HG.out (by repeat (first | (with_reducible first | exact HB.out | apply below_alloc | apply pw_below_drewN | apply below_drew1 | refine below_set ?_ GE101.out) | exact HB.out))); rintro e w49 ⟨rfl, hb⟩; refine ⟨_, rfl, ?_⟩; have n0_ := Aside0.mk (blk_below (g := gb101) (o := .cells #[.int .i64 a0_0, .int .i64 a0_1] 24 (0, 0)) (by (with_reducible repeat (first | refine blk_drewN ?_ _ | refine blk_drew ?_ | refine blk_alloc ?_ _)); exact BK101.out) hb); have n1_ := Aside0.mk (below_step (by repeat (first | (with_reducible first | exact HB.out | apply below_alloc | apply pw_below_drewN | apply below_drew1 | refine below_set ?_ GE101.out) | exact HB.out)) hb); clear BK101; clear HB; have BK101 := n0_; have HB := n1_; clear n0_ n1_; (try clear hb); (try clear hb2); (try clear hk); (try clear hi)) | ((with_reducible refine gate_callee (f := 30) rfl ?_); refine goesL_ (some 56) rfl rfl Tryd.func30 (by kernel_rfl) rfl #[.int .i64 (wrap64 (Int.tdiv (Int.tmod (wrap64 (a0_0 + 62167219200)) 86400) 3600)), .int .i64 2] rfl (by (try simp only [List.map_toArray, List.map_cons, List.map_nil]); first | done | rfl | (simp only [List.length_drop, List.length_take]; rfl) | (simp only [Int.tmod_tmod_of_dvd _ (show (60 : Int) ∣ 86400 by decide)]; rfl)) ?_; (with_reducible refine (Go.Proofs.YtfcmdameiabjmaaDoor.Txt.date_pad.calls (wrap64 (Int.tdiv (Int.tmod (wrap64 (a0_0 + 62167219200)) 86400) 3600)) 2 t108 _ ?side1 A21.out).mono ?_); (case side1 => exact Go.Proofs.YtfcmdameiabjmaaDoor.Txt.LaidW.step HG.out (by repeat (first | (with_reducible first | exact HB.out | apply below_alloc | apply pw_below_drewN | apply below_drew1 | refine below_set ?_ GE101.out) | exact HB.out))); rintro e w50 ⟨rfl, hb⟩; refine ⟨_, rfl, ?_⟩; have n0_ := Aside0.mk (blk_below (g := gb101) (o := .cells #[.int .i64 a0_0, .int .i64 a0_1] 24 (0, 0)) (by (with_reducible repeat (first | refine blk_drewN ?_ _ | refine blk_drew ?_ | refine blk_alloc ?_ _)); exact BK101.out) hb); have n1_ := Aside0.mk (below_step (by repeat (first | (with_reducible first | exact HB.out | apply below_alloc | apply pw_below_drewN | apply below_drew1 | refine below_set ?_ GE101.out) | exact HB.out)) hb); clear BK101; clear HB; have BK101 := n0_; have HB := n1_; clear n0_ n1_; (try clear hb); (try clear hb2); (try clear hk); (try clear hi)) | ((with_reducible refine gate_callee (f := 30) rfl ?_); refine goesL_ (some 62) rfl rfl Tryd.func30 (by kernel_rfl) rfl #[.int .i64 (Int.tmod (wrap64 (Int.tdiv (Int.tmod (wrap64 (a0_0 + 62167219200)) 86400) 60)) 60), .int .i64 2] rfl (by (try simp only [List.map_toArray, List.map_cons, List.map_nil]); first | done | rfl | (simp only [List.length_drop, List.length_take]; rfl) | (simp only [Int.tmod_tmod_of_dvd _ (show (60 : Int) ∣ 86400 by decide)]; rfl)) ?_; (with_reducible refine (Go.Proofs.YtfcmdameiabjmaaDoor.Txt.date_pad.calls (Int.tmod (wrap64 (Int.tdiv (Int.tmod (wrap64 (a0_0 + 62167219200)) 86400) 60)) 60) 2 t109 _ ?side1 A24.out).mono ?_); (case side1 => exact Go.Proofs.YtfcmdameiabjmaaDoor.Txt.LaidW.step HG.out (by repeat (first | (with_reducible first | exact HB.out | apply below_alloc | apply pw_below_drewN | apply below_drew1 | refine below_set ?_ GE101.out) | exact HB.out))); rintro e w51 ⟨rfl, hb⟩; refine ⟨_, rfl, ?_⟩; have n0_ := Aside0.mk (blk_below (g := gb101) (o := .cells #[.int .i64 a0_0, .int .i64 a0_1] 24 (0, 0)) (by (with_reducible repeat (first | refine blk_drewN ?_ _ | refine blk_drew ?_ | refine blk_alloc ?_ _)); exact BK101.out) hb); have n1_ := Aside0.mk (below_step (by repeat (first | (with_reducible first | exact HB.out | apply below_alloc | apply pw_below_drewN | apply below_drew1 | refine below_set ?_ GE101.out) | exact HB.out)) hb); clear BK101; clear HB; have BK101 := n0_; have HB := n1_; clear n0_ n1_; (try clear hb); (try clear hb2); (try clear hk); (try clear hi)) | ((with_reducible refine gate_callee (f := 30) rfl ?_); refine goesL_ (some 67) rfl rfl Tryd.func30 (by kernel_rfl) rfl #[.int .i64 (Int.tmod (Int.tmod (wrap64 (a0_0 + 62167219200)) 86400) 60), .int .i64 2] rfl (by (try simp only [List.map_toArray, List.map_cons, List.map_nil]); first | done | rfl | (simp only [List.length_drop, List.length_take]; rfl) | (simp only [Int.tmod_tmod_of_dvd _ (show (60 : Int) ∣ 86400 by decide)]; rfl)) ?_; (with_reducible refine (Go.Proofs.YtfcmdameiabjmaaDoor.Txt.date_pad.calls (Int.tmod (Int.tmod (wrap64 (a0_0 + 62167219200)) 86400) 60) 2 t110 _ ?side1 A27.out).mono ?_); (case side1 => exact Go.Proofs.YtfcmdameiabjmaaDoor.Txt.LaidW.step HG.out (by repeat (first | (with_reducible first | exact HB.out | apply below_alloc | apply pw_below_drewN | apply below_drew1 | refine below_set ?_ GE101.out) | exact HB.out))); rintro e w52 ⟨rfl, hb⟩; refine ⟨_, rfl, ?_⟩; have n0_ := Aside0.mk (blk_below (g := gb101) (o := .cells #[.int .i64 a0_0, .int .i64 a0_1] 24 (0, 0)) (by (with_reducible repeat (first | refine blk_drewN ?_ _ | refine blk_drew ?_ | refine blk_alloc ?_ _)); exact BK101.out) hb); have n1_ := Aside0.mk (below_step (by repeat (first | (with_reducible first | exact HB.out | apply below_alloc | apply pw_below_drewN | apply below_drew1 | refine below_set ?_ GE101.out) | exact HB.out)) hb); clear BK101; clear HB; have BK101 := n0_; have HB := n1_; clear n0_ n1_; (try clear hb); (try clear hb2); (try clear hk); (try clear hi); have hcz53_0 : w52.cell? ⟨gb101, 0, none⟩ = some (.int .i64 a0_0) := (blk_cell BK101.out 0).trans rfl; have hcz53_1 : w52.cell? ⟨gb101, 1, none⟩ = some (.int .i64 a0_1) := (blk_cell BK101.out 1).trans rfl; have hfz53_0 := blk_frozen BK101.out 0; have hfz53_1 := blk_frozen BK101.out 1))
                                go_ret2
                                exact ⟨by first | rfl | (simp [errW_none, errW_some] <;> rfl) | (simp [*, errW_none, errW_some] <;> rfl), by repeat (first | (with_reducible first | exact HB.out | apply below_alloc | apply pw_below_drewN | apply below_drew1 | refine below_set ?_ GE101.out) | exact HB.out)⟩
                              · rw [if_neg c45] at H
                                exact absurd H (by simp)
                          · rw [if_neg c28] at H
                            exact absurd H (by simp)
                        · rw [if_neg c26] at H
                          exact absurd H (by simp)
                      · rw [if_neg c25] at H
                        exact absurd H (by simp)
                    · rw [if_neg c23] at H
                      exact absurd H (by simp)
                  · rw [if_neg c22] at H
                    exact absurd H (by simp)
                · rw [if_neg c20] at H
                  exact absurd H (by simp)
              · rw [if_neg c19] at H
                exact absurd H (by simp)
            · rw [if_neg c17] at H
              exact absurd H (by simp)
          · rw [if_neg c16] at H
            exact absurd H (by simp)
        · rw [if_neg c14] at H
          exact absurd H (by simp)

/-! ### cmp_Or_int: function 33 -/
def cmp_Or_int.l0 : Nat → Int → List Int → Int → Int → Option (Int)
  | 0, _, _, _, _ => none
  | k + 1, x3, x6, x7, x8 => if x8 < x7 then (if 0 ≤ x8 then (if x8 < (x6.length : Int) then (if (rd x6 x8) = x3 then (cmp_Or_int.l0 k x3 x6 x7 (wrap64 (x8 + 1))) else (some (rd x6 x8))) else (none)) else (none)) else (some x3)
def cmp_Or_int.f (k : Nat) (l0 : List Int) : Option (Int) := cmp_Or_int.l0 k 0 l0 (l0.length : Int) 0
theorem cmp_Or_int.mono_l : ∀ k, (∀ y0 y1 y2 y3, LeO (cmp_Or_int.l0 k y0 y1 y2 y3) (cmp_Or_int.l0 (k + 1) y0 y1 y2 y3))
  | 0 => fun _ _ _ _ r h => by simp [cmp_Or_int.l0] at h
  | k + 1 => by
    have ih0 := cmp_Or_int.mono_l k
    · intro y0 y1 y2 y3
      unfold cmp_Or_int.l0
      repeat' first
      | (with_reducible exact ih0 _ _ _ _)
      | (with_reducible exact LeO.refl _)
      | (with_reducible exact LeO.none _)
      | (with_reducible refine LeO.ite ?_ ?_)
      | (with_reducible refine LeO.bind ?_ (fun _ => ?_))
      | exact ih0 _ _ _ _
      | exact LeO.none _
      | refine LeO.ite ?_ ?_
      | refine LeO.bind ?_ (fun _ => ?_)
theorem cmp_Or_int.mono : ∀ a0 k, LeO (cmp_Or_int.f k a0) (cmp_Or_int.f (k + 1) a0) := by
  intro a0 k
  have ih0 := cmp_Or_int.mono_l k
  unfold cmp_Or_int.f
  repeat' first
      | (with_reducible exact ih0 _ _ _ _)
      | (with_reducible exact LeO.refl _)
      | (with_reducible exact LeO.none _)
      | (with_reducible refine LeO.ite ?_ ?_)
      | (with_reducible refine LeO.bind ?_ (fun _ => ?_))
      | exact ih0 _ _ _ _
      | exact LeO.none _
      | refine LeO.ite ?_ ?_
      | refine LeO.bind ?_ (fun _ => ?_)
set_option maxHeartbeats 8000000 in
set_option maxRecDepth 100000 in
theorem cmp_Or_int.calls (k : Nat) (A0 : Option Addr) (c0 : Nat) (l0 : List Int) (r : Int) (w : World) (hr0 : Kd.C (Kd.int .i64) w A0 l0.length l0) (hc0 : l0.length ≤ c0) (h : cmp_Or_int.f k l0 = some r) :
    Calls Tryd.prog 33 #[.slice A0 l0.length c0] w fun e w' => e = .returned (.int .i64 r) ∧ Drawn0 w w' := by
  have HR0 := Aside0.mk hr0
  have HC0 := Aside0.mk hc0
  clear hr0 hc0
  have H : (cmp_Or_int.l0 k 0 l0 (l0.length : Int) 0) = some r := h
  clear h
  have H' := Aside0.mk H
  clear H
  go_enter Tryd.func33, Tryd.ntmps33
  go_wp2
  go_loopg [8] k (fun kq v8 w' => ∃ (x8_1 : Int), v8 = .int .i64 x8_1 ∧ Aside0 (cmp_Or_int.l0 kq 0 l0 (l0.length : Int) x8_1 = some r) ∧ Aside0 (kq ≤ k) ∧ Drawn0 w w')
  case atStart => exact ⟨(0), (by first | rfl | (simp; done) | (simp [*]; done)), H', ⟨Nat.le_refl _⟩, by repeat (first | exact Drawn0.refl _ | apply Drawn0.step)⟩
  case round =>
    clear H'
    obtain ⟨x8_1, rfl, HA, HK1, ⟨m1, rfl⟩⟩ := hrel
    cases gk with
    | zero => exact absurd HA.out (by simp [cmp_Or_int.l0])
    | succ k1 =>
      have H := HA.out
      clear HA
      simp only [cmp_Or_int.l0] at H
      by_cases c2 : x8_1 < (l0.length : Int)
      · rw [if_pos c2] at H
        have c2b0 : decide (x8_1 < (l0.length : Int)) = true := decide_eq_true c2
        clear c2
        by_cases c3 : 0 ≤ x8_1
        · rw [if_pos c3] at H
          have c3b0 : decide (0 ≤ x8_1) = true := decide_eq_true c3
          clear c3
          by_cases c4 : x8_1 < (l0.length : Int)
          · rw [if_pos c4] at H
            have c4b0 : decide (x8_1 < (l0.length : Int)) = true := decide_eq_true c4
            clear c4
            by_cases c5 : (rd l0 x8_1) = 0
            · rw [if_pos c5] at H
              have c5b0 : ((rd l0 x8_1) == 0) = true := beq_iff_eq.mpr c5
              have c5b1 : ((rd l0 x8_1) != 0) = false := bne_eq_false_iff_eq.mpr c5
              clear c5
              have H' := Aside0.mk H
              clear H
              have p113 : 0 ≤ (x8_1 : Int) := of_decide_eq_true (by first | (with_reducible assumption) | assumption)
              have q113 : x8_1 < (l0.length : Int) := of_decide_eq_true (by first | (with_reducible assumption) | assumption)
              obtain ⟨ad113, e113, hx113_0⟩ := Kd.at_int HR0.out x8_1 p113 q113
              cases e113
              replace p113 := eq_true p113
              replace q113 := eq_true q113
              go_wp2
              go_roundg k1
              case measure => have := HK1.out; omega
              case rel => exact ⟨(wrap64 (x8_1 + 1)), (by first | rfl | (simp; done) | (simp [*]; done)), H', ⟨by have := HK1.out; omega⟩, by repeat (first | exact Drawn0.refl _ | apply Drawn0.step)⟩
            · rw [if_neg c5] at H
              have c5b0 : ((rd l0 x8_1) == 0) = false := beq_eq_false_iff_ne.mpr c5
              have c5b1 : ((rd l0 x8_1) != 0) = true := bne_iff_ne.mpr c5
              obtain rfl := Option.some.inj H
              have p113 : 0 ≤ (x8_1 : Int) := of_decide_eq_true (by first | (with_reducible assumption) | assumption)
              have q113 : x8_1 < (l0.length : Int) := of_decide_eq_true (by first | (with_reducible assumption) | assumption)
              obtain ⟨ad113, e113, hx113_0⟩ := Kd.at_int HR0.out x8_1 p113 q113
              cases e113
              replace p113 := eq_true p113
              replace q113 := eq_true q113
              go_wp2
              go_ret
              exact ⟨by first | rfl | (simp; done) | (simp [*]; done), by repeat (first | exact Drawn0.refl _ | apply Drawn0.step)⟩
          · rw [if_neg c4] at H
            exact absurd H (by simp)
        · rw [if_neg c3] at H
          exact absurd H (by simp)
      · rw [if_neg c2] at H
        have c2b0 : decide (x8_1 < (l0.length : Int)) = false := decide_eq_false c2
        clear c2
        obtain rfl := Option.some.inj H
        go_wp2
        go_ret
        exact ⟨by first | rfl | (simp; done) | (simp [*]; done), by repeat (first | exact Drawn0.refl _ | apply Drawn0.step)⟩

/-! ### cmp_isNaN_int: function 47 -/
def cmp_isNaN_int.f (a0 : Int) : Option (Bool) := some (a0 != a0)
set_option maxHeartbeats 8000000 in
set_option maxRecDepth 100000 in
theorem cmp_isNaN_int.calls (a0 : Int) (r : Bool) (w : World) (h : cmp_isNaN_int.f a0 = some r) :
    Calls Tryd.prog 47 #[.int .i64 a0] w fun e w' => e = .returned (.bool r) ∧ Drawn0 w w' := by
  have H : (some (a0 != a0)) = some r := h
  clear h
  obtain rfl := Option.some.inj H
  go_enter Tryd.func47, Tryd.ntmps47
  go_wp2
  go_ret
  exact ⟨by first | rfl | (simp; done) | (simp [*]; done), by repeat (first | exact Drawn0.refl _ | apply Drawn0.step)⟩

/-! ### cmp_Compare_int: function 34 -/
def cmp_Compare_int.f (a0 : Int) (a1 : Int) : Option (Int) := (cmp_isNaN_int.f a0).bind fun t114 => ((cmp_isNaN_int.f a1).bind fun t115 => (if t114 = true then (if t115 = true then (some 0) else (some (-1))) else (if t115 = true then (some 1) else (if a0 < a1 then (some (-1)) else (if a0 > a1 then (some 1) else (some 0))))))
set_option maxHeartbeats 8000000 in
set_option maxRecDepth 100000 in
theorem cmp_Compare_int.calls (a0 : Int) (a1 : Int) (r : Int) (w : World) (h : cmp_Compare_int.f a0 a1 = some r) :
    Calls Tryd.prog 34 #[.int .i64 a0, .int .i64 a1] w fun e w' => e = .returned (.int .i64 r) ∧ Drawn0 w w' := by
  have H : ((cmp_isNaN_int.f a0).bind fun t114 => ((cmp_isNaN_int.f a1).bind fun t115 => (if t114 = true then (if t115 = true then (some 0) else (some (-1))) else (if t115 = true then (some 1) else (if a0 < a1 then (some (-1)) else (if a0 > a1 then (some 1) else (some 0))))))) = some r := h
  clear h
  replace H := Option.bind_eq_some_iff.mp H
  obtain ⟨t114, A30, H⟩ := H
  replace H : ((cmp_isNaN_int.f a1).bind fun t115 => (if t114 = true then (if t115 = true then (some 0) else (some (-1))) else (if t115 = true then (some 1) else (if a0 < a1 then (some (-1)) else (if a0 > a1 then (some 1) else (some 0)))))) = some r := H
  have A3 := Aside0.mk A30
  clear A30
  replace H := Option.bind_eq_some_iff.mp H
  obtain ⟨t115, A40, H⟩ := H
  replace H : (if t114 = true then (if t115 = true then (some 0) else (some (-1))) else (if t115 = true then (some 1) else (if a0 < a1 then (some (-1)) else (if a0 > a1 then (some 1) else (some 0))))) = some r := H
  have A4 := Aside0.mk A40
  clear A40
  by_cases c5 : t114 = true
  · subst c5
    have H1 : (if t115 = true then (some 0) else (some (-1))) = some r := by rw [if_pos rfl] at H; exact H
    clear H
    have H := H1
    clear H1
    by_cases c6 : t115 = true
    · subst c6
      have H1 : (some 0) = some r := by rw [if_pos rfl] at H; exact H
      clear H
      have H := H1
      clear H1
      obtain rfl := Option.some.inj H
      go_enter Tryd.func34, Tryd.ntmps34
      go_wp2_with (first | ((with_reducible refine gate_callee (f := 47) rfl ?_); refine goesL_ (some 8) rfl rfl Tryd.func47 (by kernel_rfl) rfl #[.int .i64 a0] rfl (by (try simp only [List.map_toArray, List.map_cons, List.map_nil]); first | done | rfl | (simp only [List.length_drop, List.length_take]; rfl) | (simp only [Int.tmod_tmod_of_dvd _ (show (60 : Int) ∣ 86400 by decide)]; rfl)) ?_; (with_reducible refine (cmp_isNaN_int.calls a0 true _ A3.out).mono ?_); rintro e w' ⟨rfl, ⟨nd, rfl⟩⟩; refine ⟨_, rfl, ?_⟩) | ((with_reducible refine gate_callee (f := 47) rfl ?_); refine goesL_ (some 10) rfl rfl Tryd.func47 (by kernel_rfl) rfl #[.int .i64 a1] rfl (by (try simp only [List.map_toArray, List.map_cons, List.map_nil]); first | done | rfl | (simp only [List.length_drop, List.length_take]; rfl) | (simp only [Int.tmod_tmod_of_dvd _ (show (60 : Int) ∣ 86400 by decide)]; rfl)) ?_; (with_reducible refine (cmp_isNaN_int.calls a1 true _ A4.out).mono ?_); rintro e w' ⟨rfl, ⟨nd, rfl⟩⟩; refine ⟨_, rfl, ?_⟩))
      go_ret
      exact ⟨by first | rfl | (simp; done) | (simp [*]; done), by repeat (first | exact Drawn0.refl _ | apply Drawn0.step)⟩
    · replace c6 := Bool.eq_false_iff.mpr c6
      subst c6
      have H1 : (some (-1)) = some r := by rw [if_neg (show ¬ (false = true) by decide)] at H; exact H
      clear H
      have H := H1
      clear H1
      obtain rfl := Option.some.inj H
      go_enter Tryd.func34, Tryd.ntmps34
      go_wp2_with (first | ((with_reducible refine gate_callee (f := 47) rfl ?_); refine goesL_ (some 8) rfl rfl Tryd.func47 (by kernel_rfl) rfl #[.int .i64 a0] rfl (by (try simp only [List.map_toArray, List.map_cons, List.map_nil]); first | done | rfl | (simp only [List.length_drop, List.length_take]; rfl) | (simp only [Int.tmod_tmod_of_dvd _ (show (60 : Int) ∣ 86400 by decide)]; rfl)) ?_; (with_reducible refine (cmp_isNaN_int.calls a0 true _ A3.out).mono ?_); rintro e w' ⟨rfl, ⟨nd, rfl⟩⟩; refine ⟨_, rfl, ?_⟩) | ((with_reducible refine gate_callee (f := 47) rfl ?_); refine goesL_ (some 10) rfl rfl Tryd.func47 (by kernel_rfl) rfl #[.int .i64 a1] rfl (by (try simp only [List.map_toArray, List.map_cons, List.map_nil]); first | done | rfl | (simp only [List.length_drop, List.length_take]; rfl) | (simp only [Int.tmod_tmod_of_dvd _ (show (60 : Int) ∣ 86400 by decide)]; rfl)) ?_; (with_reducible refine (cmp_isNaN_int.calls a1 false _ A4.out).mono ?_); rintro e w' ⟨rfl, ⟨nd, rfl⟩⟩; refine ⟨_, rfl, ?_⟩))
      go_ret
      exact ⟨by first | rfl | (simp; done) | (simp [*]; done), by repeat (first | exact Drawn0.refl _ | apply Drawn0.step)⟩
  · replace c5 := Bool.eq_false_iff.mpr c5
    subst c5
    have H1 : (if t115 = true then (some 1) else (if a0 < a1 then (some (-1)) else (if a0 > a1 then (some 1) else (some 0)))) = some r := by rw [if_neg (show ¬ (false = true) by decide)] at H; exact H
    clear H
    have H := H1
    clear H1
    by_cases c7 : t115 = true
    · subst c7
      have H1 : (some 1) = some r := by rw [if_pos rfl] at H; exact H
      clear H
      have H := H1
      clear H1
      obtain rfl := Option.some.inj H
      go_enter Tryd.func34, Tryd.ntmps34
      go_wp2_with (first | ((with_reducible refine gate_callee (f := 47) rfl ?_); refine goesL_ (some 8) rfl rfl Tryd.func47 (by kernel_rfl) rfl #[.int .i64 a0] rfl (by (try simp only [List.map_toArray, List.map_cons, List.map_nil]); first | done | rfl | (simp only [List.length_drop, List.length_take]; rfl) | (simp only [Int.tmod_tmod_of_dvd _ (show (60 : Int) ∣ 86400 by decide)]; rfl)) ?_; (with_reducible refine (cmp_isNaN_int.calls a0 false _ A3.out).mono ?_); rintro e w' ⟨rfl, ⟨nd, rfl⟩⟩; refine ⟨_, rfl, ?_⟩) | ((with_reducible refine gate_callee (f := 47) rfl ?_); refine goesL_ (some 10) rfl rfl Tryd.func47 (by kernel_rfl) rfl #[.int .i64 a1] rfl (by (try simp only [List.map_toArray, List.map_cons, List.map_nil]); first | done | rfl | (simp only [List.length_drop, List.length_take]; rfl) | (simp only [Int.tmod_tmod_of_dvd _ (show (60 : Int) ∣ 86400 by decide)]; rfl)) ?_; (with_reducible refine (cmp_isNaN_int.calls a1 true _ A4.out).mono ?_); rintro e w' ⟨rfl, ⟨nd, rfl⟩⟩; refine ⟨_, rfl, ?_⟩))
      go_ret
      exact ⟨by first | rfl | (simp; done) | (simp [*]; done), by repeat (first | exact Drawn0.refl _ | apply Drawn0.step)⟩
    · replace c7 := Bool.eq_false_iff.mpr c7
      subst c7
      have H1 : (if a0 < a1 then (some (-1)) else (if a0 > a1 then (some 1) else (some 0))) = some r := by rw [if_neg (show ¬ (false = true) by decide)] at H; exact H
      clear H
      have H := H1
      clear H1
      by_cases c8 : a0 < a1
      · rw [if_pos c8] at H
        have c8b0 : decide (a0 < a1) = true := decide_eq_true c8
        clear c8
        obtain rfl := Option.some.inj H
        go_enter Tryd.func34, Tryd.ntmps34
        go_wp2_with (first | ((with_reducible refine gate_callee (f := 47) rfl ?_); refine goesL_ (some 8) rfl rfl Tryd.func47 (by kernel_rfl) rfl #[.int .i64 a0] rfl (by (try simp only [List.map_toArray, List.map_cons, List.map_nil]); first | done | rfl | (simp only [List.length_drop, List.length_take]; rfl) | (simp only [Int.tmod_tmod_of_dvd _ (show (60 : Int) ∣ 86400 by decide)]; rfl)) ?_; (with_reducible refine (cmp_isNaN_int.calls a0 false _ A3.out).mono ?_); rintro e w' ⟨rfl, ⟨nd, rfl⟩⟩; refine ⟨_, rfl, ?_⟩) | ((with_reducible refine gate_callee (f := 47) rfl ?_); refine goesL_ (some 10) rfl rfl Tryd.func47 (by kernel_rfl) rfl #[.int .i64 a1] rfl (by (try simp only [List.map_toArray, List.map_cons, List.map_nil]); first | done | rfl | (simp only [List.length_drop, List.length_take]; rfl) | (simp only [Int.tmod_tmod_of_dvd _ (show (60 : Int) ∣ 86400 by decide)]; rfl)) ?_; (with_reducible refine (cmp_isNaN_int.calls a1 false _ A4.out).mono ?_); rintro e w' ⟨rfl, ⟨nd, rfl⟩⟩; refine ⟨_, rfl, ?_⟩))
        go_ret
        exact ⟨by first | rfl | (simp; done) | (simp [*]; done), by repeat (first | exact Drawn0.refl _ | apply Drawn0.step)⟩
      · rw [if_neg c8] at H
        have c8b0 : decide (a0 < a1) = false := decide_eq_false c8
        clear c8
        by_cases c9 : a0 > a1
        · rw [if_pos c9] at H
          have c9b0 : decide (a1 < a0) = true := decide_eq_true c9
          clear c9
          obtain rfl := Option.some.inj H
          go_enter Tryd.func34, Tryd.ntmps34
          go_wp2_with (first | ((with_reducible refine gate_callee (f := 47) rfl ?_); refine goesL_ (some 8) rfl rfl Tryd.func47 (by kernel_rfl) rfl #[.int .i64 a0] rfl (by (try simp only [List.map_toArray, List.map_cons, List.map_nil]); first | done | rfl | (simp only [List.length_drop, List.length_take]; rfl) | (simp only [Int.tmod_tmod_of_dvd _ (show (60 : Int) ∣ 86400 by decide)]; rfl)) ?_; (with_reducible refine (cmp_isNaN_int.calls a0 false _ A3.out).mono ?_); rintro e w' ⟨rfl, ⟨nd, rfl⟩⟩; refine ⟨_, rfl, ?_⟩) | ((with_reducible refine gate_callee (f := 47) rfl ?_); refine goesL_ (some 10) rfl rfl Tryd.func47 (by kernel_rfl) rfl #[.int .i64 a1] rfl (by (try simp only [List.map_toArray, List.map_cons, List.map_nil]); first | done | rfl | (simp only [List.length_drop, List.length_take]; rfl) | (simp only [Int.tmod_tmod_of_dvd _ (show (60 : Int) ∣ 86400 by decide)]; rfl)) ?_; (with_reducible refine (cmp_isNaN_int.calls a1 false _ A4.out).mono ?_); rintro e w' ⟨rfl, ⟨nd, rfl⟩⟩; refine ⟨_, rfl, ?_⟩))
          go_ret
          exact ⟨by first | rfl | (simp; done) | (simp [*]; done), by repeat (first | exact Drawn0.refl _ | apply Drawn0.step)⟩
        · rw [if_neg c9] at H
          have c9b0 : decide (a1 < a0) = false := decide_eq_false c9
          clear c9
          obtain rfl := Option.some.inj H
          go_enter Tryd.func34, Tryd.ntmps34
          go_wp2_with (first | ((with_reducible refine gate_callee (f := 47) rfl ?_); refine goesL_ (some 8) rfl rfl Tryd.func47 (by kernel_rfl) rfl #[.int .i64 a0] rfl (by (try simp only [List.map_toArray, List.map_cons, List.map_nil]); first | done | rfl | (simp only [List.length_drop, List.length_take]; rfl) | (simp only [Int.tmod_tmod_of_dvd _ (show (60 : Int) ∣ 86400 by decide)]; rfl)) ?_; (with_reducible refine (cmp_isNaN_int.calls a0 false _ A3.out).mono ?_); rintro e w' ⟨rfl, ⟨nd, rfl⟩⟩; refine ⟨_, rfl, ?_⟩) | ((with_reducible refine gate_callee (f := 47) rfl ?_); refine goesL_ (some 10) rfl rfl Tryd.func47 (by kernel_rfl) rfl #[.int .i64 a1] rfl (by (try simp only [List.map_toArray, List.map_cons, List.map_nil]); first | done | rfl | (simp only [List.length_drop, List.length_take]; rfl) | (simp only [Int.tmod_tmod_of_dvd _ (show (60 : Int) ∣ 86400 by decide)]; rfl)) ?_; (with_reducible refine (cmp_isNaN_int.calls a1 false _ A4.out).mono ?_); rintro e w' ⟨rfl, ⟨nd, rfl⟩⟩; refine ⟨_, rfl, ?_⟩))
          go_ret
          exact ⟨by first | rfl | (simp; done) | (simp [*]; done), by repeat (first | exact Drawn0.refl _ | apply Drawn0.step)⟩

/-! ### date_Cmp: function 15 -/
def date_Cmp.f (k : Nat) (a0_0 : Int) (a0_1 : Int) (a1_0 : Int) (a1_1 : Int) : Option (Int) := (cmp_Compare_int.f a0_0 a1_0).bind fun t118 => ((cmp_Compare_int.f a0_1 a1_1).bind fun t119 => ((cmp_Or_int.f k (([t118, t119] : List Int))).bind fun t123 => (some t123)))
theorem date_Cmp.mono : ∀ a0 a1 a2 a3 k, LeO (date_Cmp.f k a0 a1 a2 a3) (date_Cmp.f (k + 1) a0 a1 a2 a3) := by
  intro a0 a1 a2 a3 k
  unfold date_Cmp.f
  repeat' first
      | (with_reducible exact cmp_Or_int.mono _ _)
      | (with_reducible exact LeO.refl _)
      | (with_reducible exact LeO.none _)
      | (with_reducible refine LeO.ite ?_ ?_)
      | (with_reducible refine LeO.bind ?_ (fun _ => ?_))
      | exact cmp_Or_int.mono _ _
      | exact LeO.none _
      | refine LeO.ite ?_ ?_
      | refine LeO.bind ?_ (fun _ => ?_)
def date_Cmp.T1 : Bool × List (List Nat × List Nat) := (true, [([], []), ([0], [0]), ([], []), ([2], [2]), ([1, 3], [1, 3]), ([], []), ([5], [5]), ([], []), ([7], [7]), ([6, 8, 4], [6, 8]), ([4, 9], [4, 9]), ([10, 9], [10]), ([11, 11, 0, 1, 2, 3, 4, 5, 6, 7, 8, 9, 10, 11], [11])])
def date_Cmp.B1 : List Nat := [0, 1, 0, 4, 15, 0, 32, 0, 128, 511, 1023, 2047, 4095]
theorem date_Cmp.tab1 : rtab .any (opsOf Tryd.f15 1) = date_Cmp.T1 := by kernel_rfl
theorem date_Cmp.bits1 : waitsOk date_Cmp.T1.2 date_Cmp.B1 = true := by kernel_rfl
set_option maxHeartbeats 8000000 in
set_option maxRecDepth 100000 in
theorem date_Cmp.calls (k : Nat) (a0_0 : Int) (a0_1 : Int) (a1_0 : Int) (a1_1 : Int) (r : Int) (w : World) (h : date_Cmp.f k a0_0 a0_1 a1_0 a1_1 = some r) :
    Calls Tryd.prog 15 #[.agg #[.int .i64 a0_0, .int .i64 a0_1], .agg #[.int .i64 a1_0, .int .i64 a1_1]] w fun e w' => e = .returned (.int .i64 r) ∧ Below w.heap.size w w' := by
  have hu24 := Tryd.underlying24
  have HB := Aside0.mk (Below.refl w.heap.size w)
  have H : ((cmp_Compare_int.f a0_0 a1_0).bind fun t118 => ((cmp_Compare_int.f a0_1 a1_1).bind fun t119 => ((cmp_Or_int.f k (([t118, t119] : List Int))).bind fun t123 => (some t123)))) = some r := h
  clear h
  replace H := Option.bind_eq_some_iff.mp H
  obtain ⟨t118, A30, H⟩ := H
  replace H : ((cmp_Compare_int.f a0_1 a1_1).bind fun t119 => ((cmp_Or_int.f k (([t118, t119] : List Int))).bind fun t123 => (some t123))) = some r := H
  have A3 := Aside0.mk A30
  clear A30
  replace H := Option.bind_eq_some_iff.mp H
  obtain ⟨t119, A40, H⟩ := H
  replace H : ((cmp_Or_int.f k (([t118, t119] : List Int))).bind fun t123 => (some t123)) = some r := H
  have A4 := Aside0.mk A40
  clear A40
  obtain ⟨y120, hy120⟩ : ∃ y_ : List Int, y_ = (([t118, t119] : List Int)) := ⟨_, rfl⟩
  replace H : ((cmp_Or_int.f k y120).bind fun t123 => (some t123)) = some r := by first | (rw [hy120]; with_reducible exact H) | (have H2_ := (Option.bind_some _ _).symm.trans H; rw [hy120]; with_reducible exact H2_) | (have H2_ := (Option.bind_some _ _).symm.trans H; with_reducible exact H2_) | with_reducible exact H | (rw [hy120]; exact H) | exact H
  have Ny120 := Aside0.mk hy120
  clear hy120
  replace H := Option.bind_eq_some_iff.mp H
  obtain ⟨t123, A50, H⟩ := H
  replace H : (some t123) = some r := H
  have A5 := Aside0.mk A50
  clear A50
  obtain rfl := Option.some.inj H
  go_enter Tryd.func15, Tryd.ntmps15
  try go_wp2_with (first | ((with_reducible refine gate_dst (N := 2) rfl ?_); refine box_event ?hg (N := 2) ?hd (cs := #[.int .i64 a0_0, .int .i64 a0_1]) (t := 24) ?hr ?_; (case hd => rfl); (case hg => rfl); (case hr => first | (go_simp; done) | (go_simp; rfl)); intro gb116 hg w6 hbox hb; have n0_ := Aside0.mk (below_step (by repeat (first | (with_reducible first | exact HB.out | apply below_alloc | apply pw_below_drewN | apply below_drew1) | exact HB.out)) hb); have n1_ := Aside0.mk (hbox); have n2_ := Aside0.mk ((by rw [hg]; exact (below_size (by repeat (first | (with_reducible first | exact HB.out | apply below_alloc | apply pw_below_drewN | apply below_drew1) | exact HB.out))) : w.heap.size ≤ gb116)); have n3_ := Aside0.mk ((by rw [hg]; exact (below_size (by repeat (first | (with_reducible first | exact HB.out | apply below_alloc | apply pw_below_drewN | apply below_drew1) | exact HB.out))) : w.heap.size ≤ gb116)); clear HB; have HB := n0_; have BK116 := n1_; have GW116 := n2_; have GE116 := n3_; clear n0_ n1_ n2_ n3_; clear hb hbox hg) | ((with_reducible refine gate_dst (N := 3) rfl ?_); refine box_event ?hg (N := 3) ?hd (cs := #[.int .i64 a1_0, .int .i64 a1_1]) (t := 24) ?hr ?_; (case hd => rfl); (case hg => rfl); (case hr => first | (go_simp; done) | (go_simp; rfl)); intro gb117 hg w7 hbox hb; have n0_ := Aside0.mk (blk_below (g := gb116) (o := .cells #[.int .i64 a0_0, .int .i64 a0_1] 24 (0, 0)) (by (with_reducible repeat (first | refine blk_drewN ?_ _ | refine blk_drew ?_ | refine blk_alloc ?_ _)); exact BK116.out) hb); have n1_ := Aside0.mk (below_step (by repeat (first | (with_reducible first | exact HB.out | apply below_alloc | apply pw_below_drewN | apply below_drew1 | refine below_set ?_ GE116.out) | exact HB.out)) hb); have n2_ := Aside0.mk (hbox); have n3_ := Aside0.mk ((by rw [hg]; exact (below_size (by repeat (first | (with_reducible first | exact HB.out | apply below_alloc | apply pw_below_drewN | apply below_drew1 | refine below_set ?_ GE116.out) | exact HB.out))) : w.heap.size ≤ gb117)); have n4_ := Aside0.mk ((by rw [hg]; exact (below_size (by repeat (first | (with_reducible first | exact HB.out | apply below_alloc | apply pw_below_drewN | apply below_drew1 | refine below_set ?_ GE116.out) | exact HB.out))) : w.heap.size ≤ gb117)); have n5_ := Aside0.mk ((by rw [hg]; exact Nat.ne_of_lt (blk_lt (g := gb116) (o := .cells #[.int .i64 a0_0, .int .i64 a0_1] 24 (0, 0)) (by (with_reducible repeat (first | refine blk_drewN ?_ _ | refine blk_drew ?_ | refine blk_alloc ?_ _)); exact BK116.out)) : gb116 ≠ gb117)); have n6_ := Aside0.mk ((by rw [hg]; exact Nat.ne_of_gt (blk_lt (g := gb116) (o := .cells #[.int .i64 a0_0, .int .i64 a0_1] 24 (0, 0)) (by (with_reducible repeat (first | refine blk_drewN ?_ _ | refine blk_drew ?_ | refine blk_alloc ?_ _)); exact BK116.out)) : gb117 ≠ gb116)); clear BK116; clear HB; have BK116 := n0_; have HB := n1_; have BK117 := n2_; have GW117 := n3_; have GE117 := n4_; have NB116_117 := n5_; have NB117_116 := n6_; clear n0_ n1_ n2_ n3_ n4_ n5_ n6_; clear hb hbox hg))
  have n0_ := Aside0.mk (blk_drew BK116.out)
  have n1_ := Aside0.mk (blk_drew BK117.out)
  have n2_ := Aside0.mk (below_drew1 HB.out)
  clear BK116
  clear BK117
  clear HB
  have BK116 := n0_
  have BK117 := n1_
  have HB := n2_
  clear n0_ n1_ n2_
  refine start_ (n := 13) (S := fun w' => w'.cell? ⟨gb116, 0, none⟩ = some (.int .i64 a0_0) ∧ w'.cell? ⟨gb116, 1, none⟩ = some (.int .i64 a0_1) ∧ w'.cell? ⟨gb117, 0, none⟩ = some (.int .i64 a1_0) ∧ w'.cell? ⟨gb117, 1, none⟩ = some (.int .i64 a1_1)) (ds := []) #[false, false, false, false, false, false, false, false, false, false, false, false, false] (by kernel_rfl) rfl rfl ⟨(blk_cell BK116.out 0).trans rfl, (blk_cell BK116.out 1).trans rfl, (blk_cell BK117.out 0).trans rfl, (blk_cell BK117.out 1).trans rfl⟩ (fun hHeld => ?_); refine with_tabW date_Cmp.tab1 date_Cmp.bits1 (fun HT_ HW_ => ?_)
  generalize w7.drew = w8 at BK116 BK117 HB hHeld ⊢
  refine pure_ (i := 0) (N := some 5) (v := ?_) (a' := ?_) #[true, false, false, false, false, false, false, false, false, false, false, false, false] rfl rfl (any_of HT_.out (by kernel_rfl)) (fun _ _ _ h => h) (Or.inl ⟨by rfl, ?_⟩) ?_ ?_
  rotate_left
  · intro w'
    go_simp
    with_reducible rfl
  rotate_left
  · simp only [Act.put, List.setIfInBounds_toArray, List.set_cons_zero, List.set_cons_succ, i64_w, i32_w]
    rfl
  refine pure_ (i := 2) (N := some 7) (v := ?_) (a' := ?_) #[true, false, true, false, false, false, false, false, false, false, false, false, false] rfl rfl (any_of HT_.out (by kernel_rfl)) (fun _ _ _ h => h) (Or.inl ⟨by rfl, ?_⟩) ?_ ?_
  rotate_left
  · intro w'
    go_simp
    with_reducible rfl
  rotate_left
  · simp only [Act.put, List.setIfInBounds_toArray, List.set_cons_zero, List.set_cons_succ, i64_w, i32_w]
    rfl
  refine pure_ (i := 5) (N := some 10) (v := ?_) (a' := ?_) #[true, false, true, false, false, true, false, false, false, false, false, false, false] rfl rfl (any_of HT_.out (by kernel_rfl)) (fun _ _ _ h => h) (Or.inl ⟨by rfl, ?_⟩) ?_ ?_
  rotate_left
  · intro w'
    go_simp
    with_reducible rfl
  rotate_left
  · simp only [Act.put, List.setIfInBounds_toArray, List.set_cons_zero, List.set_cons_succ, i64_w, i32_w]
    rfl
  refine pure_ (i := 7) (N := some 12) (v := ?_) (a' := ?_) #[true, false, true, false, false, true, false, true, false, false, false, false, false] rfl rfl (any_of HT_.out (by kernel_rfl)) (fun _ _ _ h => h) (Or.inl ⟨by rfl, ?_⟩) ?_ ?_
  rotate_left
  · intro w'
    go_simp
    with_reducible rfl
  rotate_left
  · simp only [Act.put, List.setIfInBounds_toArray, List.set_cons_zero, List.set_cons_succ, i64_w, i32_w]
    rfl
  refine take_ (i := 1) (N := some 6) (v := ?_) (a' := ?_) #[true, true, true, false, false, true, false, true, false, false, false, false, false] rfl rfl (take_ofW HT_.out HW_.out (by kernel_rfl)) (fun _ _ _ h => h) (Or.inl ⟨by rfl, ?_⟩) hHeld ?_ ?_
  rotate_left
  · rintro w' ⟨s0, s1, s2, s3⟩
    go_simp
    with_reducible rfl
  rotate_left
  · simp only [Act.put, List.setIfInBounds_toArray, List.set_cons_zero, List.set_cons_succ, i64_w, i32_w]
    rfl
  refine take_ (i := 3) (N := some 8) (v := ?_) (a' := ?_) #[true, true, true, true, false, true, false, true, false, false, false, false, false] rfl rfl (take_ofW HT_.out HW_.out (by kernel_rfl)) (fun _ _ _ h => h) (Or.inl ⟨by rfl, ?_⟩) hHeld ?_ ?_
  rotate_left
  · rintro w' ⟨s0, s1, s2, s3⟩
    go_simp
    with_reducible rfl
  rotate_left
  · simp only [Act.put, List.setIfInBounds_toArray, List.set_cons_zero, List.set_cons_succ, i64_w, i32_w]
    rfl
  refine take_ (i := 6) (N := some 11) (v := ?_) (a' := ?_) #[true, true, true, true, false, true, true, true, false, false, false, false, false] rfl rfl (take_ofW HT_.out HW_.out (by kernel_rfl)) (fun _ _ _ h => h) (Or.inl ⟨by rfl, ?_⟩) hHeld ?_ ?_
  rotate_left
  · rintro w' ⟨s0, s1, s2, s3⟩
    go_simp
    with_reducible rfl
  rotate_left
  · simp only [Act.put, List.setIfInBounds_toArray, List.set_cons_zero, List.set_cons_succ, i64_w, i32_w]
    rfl
  refine take_ (i := 8) (N := some 13) (v := ?_) (a' := ?_) #[true, true, true, true, false, true, true, true, true, false, false, false, false] rfl rfl (take_ofW HT_.out HW_.out (by kernel_rfl)) (fun _ _ _ h => h) (Or.inl ⟨by rfl, ?_⟩) hHeld ?_ ?_
  rotate_left
  · rintro w' ⟨s0, s1, s2, s3⟩
    go_simp
    with_reducible rfl
  rotate_left
  · simp only [Act.put, List.setIfInBounds_toArray, List.set_cons_zero, List.set_cons_succ, i64_w, i32_w]
    rfl
  refine one_ (i := 4) (N := some 9) #[true, true, true, true, true, true, true, true, true, false, false, false, false] rfl rfl (one_of HT_.out (by kernel_rfl)) (by decide) (fun K hK => ?_)
  refine goes_ Tryd.func34 (by kernel_rfl) rfl #[.int .i64 a0_0, .int .i64 a1_0] (by rfl) rfl rfl (by (try simp only [List.map_toArray, List.map_cons, List.map_nil]); first | done | rfl | (simp only [List.length_drop, List.length_take]; rfl) | (simp only [Int.tmod_tmod_of_dvd _ (show (60 : Int) ∣ 86400 by decide)]; rfl)) ?_
  with_reducible refine (cmp_Compare_int.calls a0_0 a1_0 t118 _ A3.out).mono ?_
  rintro e w' ⟨rfl, ⟨nd, rfl⟩⟩
  refine ⟨_, rfl, ?_⟩
  refine hK.out _ _ ⟨(blk_cell BK116.out 0).trans rfl, (blk_cell BK116.out 1).trans rfl, (blk_cell BK117.out 0).trans rfl, (blk_cell BK117.out 1).trans rfl⟩ (fun hHeld => ?_)
  clear hK K
  refine norm_ (a' := ?_) ?_ ?_
  rotate_left
  · show Act.put _ (some 9) _ = _
    simp only [Act.put, List.setIfInBounds_toArray, List.set_cons_zero, List.set_cons_succ, i64_w, i32_w]
    rfl
  refine one_ (i := 9) (N := some 14) #[true, true, true, true, true, true, true, true, true, true, false, false, false] rfl rfl (one_of HT_.out (by kernel_rfl)) (by decide) (fun K hK => ?_)
  refine goes_ Tryd.func34 (by kernel_rfl) rfl #[.int .i64 a0_1, .int .i64 a1_1] (by rfl) rfl rfl (by (try simp only [List.map_toArray, List.map_cons, List.map_nil]); first | done | rfl | (simp only [List.length_drop, List.length_take]; rfl) | (simp only [Int.tmod_tmod_of_dvd _ (show (60 : Int) ∣ 86400 by decide)]; rfl)) ?_
  with_reducible refine (cmp_Compare_int.calls a0_1 a1_1 t119 _ A4.out).mono ?_
  rintro e w' ⟨rfl, ⟨nd, rfl⟩⟩
  refine ⟨_, rfl, ?_⟩
  refine hK.out _ _ ⟨(blk_cell BK116.out 0).trans rfl, (blk_cell BK116.out 1).trans rfl, (blk_cell BK117.out 0).trans rfl, (blk_cell BK117.out 1).trans rfl⟩ (fun hHeld => ?_)
  clear hK K
  refine norm_ (a' := ?_) ?_ ?_
  rotate_left
  · show Act.put _ (some 14) _ = _
    simp only [Act.put, List.setIfInBounds_toArray, List.set_cons_zero, List.set_cons_succ, i64_w, i32_w]
    rfl
  refine one_ (i := 10) (N := some 15) #[true, true, true, true, true, true, true, true, true, true, true, false, false] rfl rfl (one_of HT_.out (by kernel_rfl)) (by decide) (fun K hK => ?_)
  refine Kd.R_lit_step (Kd.int .i64) _ 3 ?hg (N := 15) ?hd (xs := ([t118, t119] : List Int)) (inner := [.int .i64 t118, .int .i64 t119]) (ok := fun _ => True) (okp := fun _ => True) ?hr ?hp (fun _ hk => hk) trivial (Below.refl _ _) (Nat.le_refl _) (by simp) ?_; (case hd => rfl); (case hg => rfl); (case hr => first | (go_simp; done) | (go_simp; rfl)); (case hp => exact (Reps.one (show Kd.M (Kd.int .i64) _ _ _ t118 [.int .i64 t118] from rfl) (Reps.one (show Kd.M (Kd.int .i64) _ _ _ t119 [.int .i64 t119] from rfl) (Reps.none _ _))))
  intro v121 w9 ho10 hb hg_ hnew_
  clear hg_ hnew_
  (first | rw [← Ny120.out] at ho10 | (simp only [Int.reduceToNat] at ho10; rw [← Ny120.out] at ho10))
  have n0_ := Aside0.mk (Kd.R_lower ho10 (below_size (by repeat (first | (with_reducible first | exact HB.out | apply below_alloc | apply pw_below_drewN | apply below_drew1 | refine below_set ?_ GE116.out | refine below_set ?_ GE117.out) | exact HB.out))))
  have n1_ := Aside0.mk (blk_below (g := gb116) (o := .cells #[.int .i64 a0_0, .int .i64 a0_1] 24 (0, 0)) (by (with_reducible repeat (first | refine blk_drewN ?_ _ | refine blk_drew ?_ | refine blk_alloc ?_ _)); exact BK116.out) hb)
  have n2_ := Aside0.mk (blk_below (g := gb117) (o := .cells #[.int .i64 a1_0, .int .i64 a1_1] 24 (0, 0)) (by (with_reducible repeat (first | refine blk_drewN ?_ _ | refine blk_drew ?_ | refine blk_alloc ?_ _)); exact BK117.out) hb)
  have n3_ := Aside0.mk (below_step (by repeat (first | (with_reducible first | exact HB.out | apply below_alloc | apply pw_below_drewN | apply below_drew1 | refine below_set ?_ GE116.out | refine below_set ?_ GE117.out) | exact HB.out)) hb)
  clear BK116
  clear BK117
  clear HB
  have HO122 := n0_
  have BK116 := n1_
  have BK117 := n2_
  have HB := n3_
  clear n0_ n1_ n2_ n3_
  clear hb ho10
  obtain ⟨Ao11, co11, eo11⟩ := Kd.R_slice HO122.out
  (first | subst eo11 | (injection eo11 with f1_ f2_ f3_; have f4_ := f1_.symm; have f5_ := f3_.symm; clear f1_ f2_ f3_; subst f4_; subst f5_))
  refine hK.out _ _ ⟨(blk_cell BK116.out 0).trans rfl, (blk_cell BK116.out 1).trans rfl, (blk_cell BK117.out 0).trans rfl, (blk_cell BK117.out 1).trans rfl⟩ (fun hHeld => ?_)
  clear hK K
  refine norm_ (a' := ?_) ?_ ?_
  rotate_left
  · show Act.put _ (some 15) _ = _
    simp only [Act.put, List.setIfInBounds_toArray, List.set_cons_zero, List.set_cons_succ, i64_w, i32_w]
    rfl
  refine one_ (i := 11) (N := some 16) #[true, true, true, true, true, true, true, true, true, true, true, true, false] rfl rfl (one_of HT_.out (by kernel_rfl)) (by decide) (fun K hK => ?_)
  refine goes_ Tryd.func33 (by kernel_rfl) rfl #[.slice Ao11 y120.length co11] (by rfl) rfl rfl (by (try simp only [List.map_toArray, List.map_cons, List.map_nil]); first | done | rfl | (simp only [List.length_drop, List.length_take]; rfl) | (simp only [Int.tmod_tmod_of_dvd _ (show (60 : Int) ∣ 86400 by decide)]; rfl)) ?_
  with_reducible refine (cmp_Or_int.calls k _ _ y120 t123 _ ?side1 ?side2 A5.out).mono ?_
  (case side1 => repeat (first | exact (Kd.R_reads' HO122.out).2.2 | (with_reducible refine Kd.C_alloc ?_ _) | (with_reducible refine Kd.C_drewN ?_ _) | (with_reducible refine Kd.C_drew ?_)))
  (case side2 => exact (Kd.R_reads' HO122.out).2.1)
  rintro e w' ⟨rfl, ⟨nd, rfl⟩⟩
  refine ⟨_, rfl, ?_⟩
  refine hK.out _ _ ⟨(blk_cell BK116.out 0).trans rfl, (blk_cell BK116.out 1).trans rfl, (blk_cell BK117.out 0).trans rfl, (blk_cell BK117.out 1).trans rfl⟩ (fun hHeld => ?_)
  clear hK K
  refine norm_ (a' := ?_) ?_ ?_
  rotate_left
  · show Act.put _ (some 16) _ = _
    simp only [Act.put, List.setIfInBounds_toArray, List.set_cons_zero, List.set_cons_succ, i64_w, i32_w]
    rfl
  refine pure_ (i := 12) (N := some 4) (v := ?_) (a' := ?_) #[true, true, true, true, true, true, true, true, true, true, true, true, true] rfl rfl (any_of HT_.out (by kernel_rfl)) (fun _ _ _ h => h) (Or.inl ⟨by rfl, ?_⟩) ?_ ?_
  rotate_left
  · intro w'
    go_simp
    with_reducible rfl
  rotate_left
  · simp only [Act.put, List.setIfInBounds_toArray, List.set_cons_zero, List.set_cons_succ, i64_w, i32_w]
    rfl
  refine done_ (done_of HT_.out (by kernel_rfl)) ?_
  try go_wp2
  go_ret
  exact ⟨by first | rfl | (simp [errW_none, errW_some] <;> rfl) | (simp [*, errW_none, errW_some] <;> rfl), by repeat (first | (with_reducible first | exact HB.out | apply below_alloc | apply pw_below_drewN | apply below_drew1 | refine below_set ?_ GE116.out | refine below_set ?_ GE117.out) | exact HB.out)⟩

end Go.Proofs.YtfcmdameiabjmaaDoor.Pr
