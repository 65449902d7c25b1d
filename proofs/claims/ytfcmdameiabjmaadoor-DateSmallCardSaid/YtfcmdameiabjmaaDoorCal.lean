/- The calendar: a day's number in closed form, a number's day, months' lengths; each is the other's inverse; days stand as their years, months and days do. -/
import Derived.RowKit
namespace Go.Proofs.YtfcmdameiabjmaaDoor.Cal

theorem doe_dec (doe : Int) (h0 : 0 ≤ doe) (h1 : doe ≤ 146096) : ∃ c q a t : Int, doe = 36524 * c + 1461 * q + 365 * a + t ∧ 0 ≤ c ∧ c ≤ 3 ∧ 0 ≤ q ∧ q ≤ 24 ∧ 0 ≤ a ∧ a ≤ 3 ∧ 0 ≤ t ∧ t ≤ 365 ∧ (t = 365 → a = 3 ∧ (q ≠ 24 ∨ c = 3)) := by
  by_cases hc : doe = 146096
  · exact ⟨3, 24, 3, 365, by omega, by omega, by omega, by omega, by omega, by omega, by omega, by omega, by omega, by omega⟩
  · by_cases ha : (doe % 36524) % 1461 = 1460
    · exact ⟨doe / 36524, (doe % 36524) / 1461, 3, 365, by omega, by omega, by omega, by omega, by omega, by omega, by omega, by omega, by omega, by omega⟩
    · exact ⟨doe / 36524, (doe % 36524) / 1461, ((doe % 36524) % 1461) / 365, ((doe % 36524) % 1461) % 365, by omega, by omega, by omega, by omega, by omega, by omega, by omega, by omega, by omega, by omega⟩

theorem yoe_at (c q a t : Int) (h1 : 0 ≤ c) (h2 : c ≤ 3) (h3 : 0 ≤ q) (h4 : q ≤ 24) (h5 : 0 ≤ a) (h6 : a ≤ 3) (h7 : 0 ≤ t) (h8 : t ≤ 365) (h9 : t = 365 → a = 3 ∧ (q ≠ 24 ∨ c = 3)) (doe : Int) (hd : doe = 36524 * c + 1461 * q + 365 * a + t) :
    (doe - doe / 1460 + doe / 36524 - doe / 146096) / 365 = 100 * c + 4 * q + a := by
  by_cases hz : doe = 146096
  · have : c = 3 ∧ q = 24 ∧ a = 3 := by omega
    obtain ⟨rfl, rfl, rfl⟩ := this
    rw [hz]; decide
  · have e2 : doe / 36524 = c := by omega
    have e3 : doe / 146096 = 0 := by omega
    have e1 : doe / 1460 = 25 * c + q ∨ (doe / 1460 = 25 * c + q + 1 ∧ 1460 ≤ 24 * c + q + 365 * a + t) := by omega
    rw [e2, e3]
    rcases e1 with e1 | ⟨e1, hx⟩
    · have ht : t ≤ 364 := by omega
      rw [e1]; omega
    · have ha : 1 ≤ t := by omega
      rw [e1]; omega

def leapB (y : Int) : Bool := decide (y % 4 = 0) && (!decide (y % 100 = 0) || decide (y % 400 = 0))
def lastD (y m : Int) : Int := if m = 2 then (if leapB y then 29 else 28) else 30 + (m + m / 8) % 2
def dayF (y m d : Int) : Int := if m < 3 then 365 * (y - 1 + 400) + (y - 1 + 400) / 4 - (y - 1 + 400) / 100 + (y - 1 + 400) / 400 + (153 * (m + 12 - 3) + 2) / 5 + d - 1 - 719468 - 146097 else 365 * (y + 400) + (y + 400) / 4 - (y + 400) / 100 + (y + 400) / 400 + (153 * (m - 3) + 2) / 5 + d - 1 - 719468 - 146097

/-- A year of four hundred, and the day in it, of a day in four hundred years. -/
def yoe (doe : Int) : Int := (doe - doe / 1460 + doe / 36524 - doe / 146096) / 365
def doy (doe : Int) : Int := doe - (365 * yoe doe + yoe doe / 4 - yoe doe / 100)
def civ (n : Int) : Int × Int × Int :=
  if (5 * doy (n % 146097) + 2) / 153 < 10 then (yoe (n % 146097) + (n / 146097 * 400 - 400), (5 * doy (n % 146097) + 2) / 153 + 3, doy (n % 146097) - (153 * ((5 * doy (n % 146097) + 2) / 153) + 2) / 5 + 1)
  else (yoe (n % 146097) + (n / 146097 * 400 - 400) + 1, (5 * doy (n % 146097) + 2) / 153 - 9, doy (n % 146097) - (153 * ((5 * doy (n % 146097) + 2) / 153) + 2) / 5 + 1)

/-- May it be a day? -/
def vld (y m d : Int) : Prop := 1 ≤ m ∧ m ≤ 12 ∧ 1 ≤ d ∧ d ≤ lastD y m

theorem leap_iff (y : Int) : leapB y = true ↔ (y % 4 = 0 ∧ (y % 100 ≠ 0 ∨ y % 400 = 0)) := by
  unfold leapB
  simp [Bool.and_eq_true, Bool.or_eq_true]

theorem doy_bd (D : Int) (h0 : 0 ≤ D) (h1 : D ≤ 146096) : 0 ≤ yoe D ∧ yoe D ≤ 399 ∧ 0 ≤ doy D ∧ doy D ≤ 365 := by
  obtain ⟨c, q, a, t, hd, k1, k2, k3, k4, k5, k6, k7, k8, k9⟩ := doe_dec D h0 h1
  have hy : yoe D = 100 * c + 4 * q + a := yoe_at c q a t k1 k2 k3 k4 k5 k6 k7 k8 k9 D hd
  unfold doy
  rw [hy]
  have e4 : (100 * c + 4 * q + a) / 4 = 25 * c + q := by omega
  have e5 : (100 * c + 4 * q + a) / 100 = c := by omega
  rw [e4, e5]
  clear hy e4 e5
  omega

theorem civ_spec (n : Int) : vld (civ n).1 (civ n).2.1 (civ n).2.2 ∧ dayF (civ n).1 (civ n).2.1 (civ n).2.2 = n - 719468 - 146097 := by
  obtain ⟨c, q, a, t, hd, h1, h2, h3, h4, h5, h6, h7, h8, h9⟩ := doe_dec (n % 146097) (by omega) (by omega)
  have hy : yoe (n % 146097) = 100 * c + 4 * q + a := yoe_at c q a t h1 h2 h3 h4 h5 h6 h7 h8 h9 _ hd
  have ht : doy (n % 146097) = t := by
    unfold doy; rw [hy, hd]
    have e4 : (100 * c + 4 * q + a) / 4 = 25 * c + q := by omega
    have e5 : (100 * c + 4 * q + a) / 100 = c := by omega
    rw [e4, e5]; omega
  obtain ⟨E, hE⟩ : ∃ E, n / 146097 = E := ⟨_, rfl⟩
  have hn : n = 146097 * E + (36524 * c + 1461 * q + 365 * a + t) := by omega
  unfold civ
  rw [hy, ht, hE]
  refine ⟨?_, ?_⟩
  · split
    · rename_i hm
      refine ⟨by simp; omega, by simp; omega, by simp; omega, ?_⟩
      unfold lastD
      simp only
      rw [if_neg (by omega)]
      obtain ⟨mp, hmp⟩ : ∃ mp, (5 * t + 2) / 153 = mp := ⟨_, rfl⟩
      rw [hmp] at hm ⊢
      have hc : mp = 0 ∨ mp = 1 ∨ mp = 2 ∨ mp = 3 ∨ mp = 4 ∨ mp = 5 ∨ mp = 6 ∨ mp = 7 ∨ mp = 8 ∨ mp = 9 := by omega
      clear hy ht hE h9 hd
      rcases hc with rfl | rfl | rfl | rfl | rfl | rfl | rfl | rfl | rfl | rfl <;> omega
    · rename_i hm
      refine ⟨by simp; omega, by simp; omega, by simp; omega, ?_⟩
      simp only
      unfold lastD
      split
      · rename_i h2m
        by_cases hx : t = 365
        · have hl : leapB (100 * c + 4 * q + a + (E * 400 - 400) + 1) = true := by
            rw [leap_iff]
            obtain ⟨rfl, hq⟩ := h9 hx
            omega
          rw [hl]; simp only [if_true]; omega
        · split <;> omega
      · omega
  · split
    · rename_i hm
      simp only
      unfold dayF
      rw [if_neg (by omega)]
      have e4 : (100 * c + 4 * q + a + (E * 400 - 400) + 400) / 4 = 25 * c + q + 100 * E := by omega
      have e5 : (100 * c + 4 * q + a + (E * 400 - 400) + 400) / 100 = c + 4 * E := by omega
      have e6 : (100 * c + 4 * q + a + (E * 400 - 400) + 400) / 400 = E := by omega
      rw [e4, e5, e6]
      have e7 : (5 * t + 2) / 153 + 3 - 3 = (5 * t + 2) / 153 := by omega
      rw [e7]; omega
    · rename_i hm
      simp only
      unfold dayF
      rw [if_pos (by omega)]
      have e4 : (100 * c + 4 * q + a + (E * 400 - 400) + 1 - 1 + 400) / 4 = 25 * c + q + 100 * E := by omega
      have e5 : (100 * c + 4 * q + a + (E * 400 - 400) + 1 - 1 + 400) / 100 = c + 4 * E := by omega
      have e6 : (100 * c + 4 * q + a + (E * 400 - 400) + 1 - 1 + 400) / 400 = E := by omega
      rw [e4, e5, e6]
      have e7 : (5 * t + 2) / 153 - 9 + 12 - 3 = (5 * t + 2) / 153 := by omega
      rw [e7]; omega


/-! ### Days stand as their years, months and days do -/

/-- Days ahead of a year, from the first of March of the year -400 on, but 306. -/
def cum (y m : Int) : Int := dayF y m 1
theorem dayF_d (y m d : Int) : dayF y m d = dayF y m 1 + (d - 1) := by unfold dayF; split <;> omega
theorem lastD_pos (y m : Int) (h1 : 1 ≤ m) (h2 : m ≤ 12) : 28 ≤ lastD y m ∧ lastD y m ≤ 31 := by
  unfold lastD
  split
  · split <;> omega
  · have hc : m = 1 ∨ m = 2 ∨ m = 3 ∨ m = 4 ∨ m = 5 ∨ m = 6 ∨ m = 7 ∨ m = 8 ∨ m = 9 ∨ m = 10 ∨ m = 11 ∨ m = 12 := by omega
    rcases hc with rfl | rfl | rfl | rfl | rfl | rfl | rfl | rfl | rfl | rfl | rfl | rfl <;> decide

/-- The next month begins behind this one's last day. -/
theorem dayF_month (y m : Int) (h1 : 1 ≤ m) (h2 : m ≤ 11) : dayF y (m + 1) 1 = dayF y m 1 + lastD y m := by
  have hc : m = 1 ∨ m = 2 ∨ m = 3 ∨ m = 4 ∨ m = 5 ∨ m = 6 ∨ m = 7 ∨ m = 8 ∨ m = 9 ∨ m = 10 ∨ m = 11 := by omega
  rcases hc with rfl | rfl | rfl | rfl | rfl | rfl | rfl | rfl | rfl | rfl | rfl
  case inr.inl =>
    unfold dayF lastD
    simp only [show ((2 : Int) + 1 < 3) = False by decide, show ((2 : Int) < 3) = True by decide, if_true, if_false]
    by_cases hl : leapB y = true
    · rw [hl]
      have := (leap_iff y).1 hl
      simp only [if_true]
      omega
    · have hl2 : ¬ (y % 4 = 0 ∧ (y % 100 ≠ 0 ∨ y % 400 = 0)) := fun h => hl ((leap_iff y).2 h)
      rw [if_neg hl]
      omega
  all_goals
    unfold dayF lastD
    simp
    try omega
/-- The next year begins behind this one's December. -/
theorem dayF_year (y : Int) : dayF (y + 1) 1 1 = dayF y 12 1 + 31 := by
  unfold dayF
  simp
  omega

theorem dayF_400 (y m d : Int) : dayF (y + 400) m d = dayF y m d + 146097 := by
  unfold dayF
  split <;> omega
theorem dayF_leap (y : Int) : dayF (y + 1) 1 1 = dayF y 1 1 + (if leapB y = true then 366 else 365) := by
  by_cases hl : leapB y = true
  · rw [if_pos hl]
    have := (leap_iff y).1 hl
    unfold dayF
    simp
    omega
  · have hl2 : ¬ (y % 4 = 0 ∧ (y % 100 ≠ 0 ∨ y % 400 = 0)) := fun h => hl ((leap_iff y).2 h)
    rw [if_neg hl]
    unfold dayF
    simp
    omega
theorem dayF_1970 : dayF 1970 1 1 = 0 := by decide

end Go.Proofs.YtfcmdameiabjmaaDoor.Cal
