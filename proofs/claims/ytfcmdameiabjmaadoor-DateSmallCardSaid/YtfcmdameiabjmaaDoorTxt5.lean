/- The contracts of date.leap, date.lastDay and date.day, within the bounds in which date.Parse calls them. -/
import Derived.Test.YtfcmdameiabjmaaDoorTxt4
namespace Go.Proofs.YtfcmdameiabjmaaDoor.Txt
open Go.RowKit

def leapB (y : Int) : Bool := decide (y % 4 = 0) && (!decide (y % 100 = 0) || decide (y % 400 = 0))
def lastD (y m : Int) : Int := if m = 2 then (if leapB y then 29 else 28) else 30 + (m + m / 8) % 2
def dayF (y m d : Int) : Int := if m < 3 then 365 * (y - 1 + 400) + (y - 1 + 400) / 4 - (y - 1 + 400) / 100 + (y - 1 + 400) / 400 + (153 * (m + 12 - 3) + 2) / 5 + d - 1 - 719468 - 146097 else 365 * (y + 400) + (y + 400) / 4 - (y + 400) / 100 + (y + 400) / 400 + (153 * (m - 3) + 2) / 5 + d - 1 - 719468 - 146097

theorem ret_int {k : IntKind} {a b : Int} (h : a = b) : Ending.returned (.int k a) = Ending.returned (.int k b) := by rw [h]

theorem day_any (y m d : Int) (w : World) (hy : 0 ≤ y) (hy' : y ≤ 9999) (hm : 1 ≤ m) (hm' : m ≤ 12) (hd : 0 ≤ d) (hd' : d ≤ 99) :
    Calls Tryd.prog 22 #[.int .i64 y, .int .i64 m, .int .i64 d] w fun e w' => e = .returned (.int .i64 (dayF y m d)) ∧ w = w' := by
  unfold dayF
  by_cases h3 : m < 3
  · rw [if_pos h3]
    go_enter Tryd.func22, Tryd.ntmps22
    go_wp2
    go_ret
    exact ⟨rfl, rfl⟩
  · rw [if_neg h3]
    go_enter Tryd.func22, Tryd.ntmps22
    go_wp2
    go_ret
    exact ⟨rfl, rfl⟩

theorem leap_any (y : Int) (w : World) (hy : 0 ≤ y) (hy' : y ≤ 9999) :
    Calls Tryd.prog 37 #[.int .i64 y] w fun e w' => e = .returned (.bool (leapB y)) ∧ w = w' := by
  unfold leapB
  by_cases h4 : y % 4 = 0
  · by_cases h100 : y % 100 = 0
    · have e1 : (y % 4 == 0) = true := by simpa using h4
      have e2 : (y % 100 != 0) = false := by simpa using h100
      go_enter Tryd.func37, Tryd.ntmps37
      go_wp2
      go_ret
      exact ⟨by simp [h4, h100]; rw [Bool.eq_iff_iff]; simp, rfl⟩
    · have e1 : (y % 4 == 0) = true := by simpa using h4
      have e2 : (y % 100 != 0) = true := by simpa using h100
      go_enter Tryd.func37, Tryd.ntmps37
      go_wp2
      go_ret
      exact ⟨by simp [h4, h100], rfl⟩
  · have e1 : (y % 4 == 0) = false := by simpa using h4
    go_enter Tryd.func37, Tryd.ntmps37
    go_wp2
    go_ret
    exact ⟨by simp [h4], rfl⟩

theorem lastDay_any (y m : Int) (w : World) (hy : 0 ≤ y) (hy' : y ≤ 9999) (hm : 1 ≤ m) (hm' : m ≤ 12) :
    Calls Tryd.prog 19 #[.int .i64 y, .int .i64 m] w fun e w' => e = .returned (.int .i64 (lastD y m)) ∧ w = w' := by
  unfold lastD
  by_cases h2 : m = 2
  · subst h2
    have C := leap_any y w hy hy'
    rw [if_pos rfl]
    generalize leapB y = p at C ⊢
    cases p with
    | false =>
      go_enter Tryd.func19, Tryd.ntmps19
      go_wp2_with (go_at_call 37; refine C.mono ?_; rintro e w' ⟨rfl, rfl⟩)
      go_ret
      exact ⟨rfl, rfl⟩
    | true =>
      go_enter Tryd.func19, Tryd.ntmps19
      go_wp2_with (go_at_call 37; refine C.mono ?_; rintro e w' ⟨rfl, rfl⟩)
      go_ret
      exact ⟨rfl, rfl⟩
  · rw [if_neg h2]
    have hc : m = 1 ∨ m = 3 ∨ m = 4 ∨ m = 5 ∨ m = 6 ∨ m = 7 ∨ m = 8 ∨ m = 9 ∨ m = 10 ∨ m = 11 ∨ m = 12 := by omega
    clear h2 hm hm'
    rcases hc with rfl | rfl | rfl | rfl | rfl | rfl | rfl | rfl | rfl | rfl | rfl
    all_goals
      go_enter Tryd.func19, Tryd.ntmps19
      go_wp2
      go_ret
      exact ⟨ret_int (by decide +kernel), rfl⟩
end Go.Proofs.YtfcmdameiabjmaaDoor.Txt
