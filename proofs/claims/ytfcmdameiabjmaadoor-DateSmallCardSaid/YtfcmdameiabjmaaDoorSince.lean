/- The reference's days, counted by years and months, are the closed form's. -/
import Derived.Test.YtfcmdameiabjmaaDoorFun
import Derived.Test.YtfcmdameiabjmaaDoorPrx4
set_option linter.unusedVariables false
namespace Go.Proofs.YtfcmdameiabjmaaDoor.Fun
open Go.RowKit Go.Proofs.YtfcmdameiabjmaaDoor.Pr Go.Proofs.YtfcmdameiabjmaaDoorW.PrintWords Go.Proofs.YtfcmdameiabjmaaDoorW.PrintLast Go.Proofs.YtfcmdameiabjmaaDoorW.PrintMore

theorem rleap_eq (y : Int) (h : 0 ≤ y) : broadsheetref11_leap.f y = some (Cal.leapB y) := by
  unfold broadsheetref11_leap.f Cal.leapB
  rw [tm h, tm h, tm h]
  by_cases h4 : y % 4 = 0
  · by_cases h100 : y % 100 = 0
    · rw [if_pos h4, if_pos h100]
      simp [h4, h100]
      rw [Bool.eq_iff_iff]; simp
    · rw [if_pos h4, if_neg h100]
      simp [h4, h100]
  · rw [if_neg h4]
    simp [h4]

theorem days_eq (k : Nat) (y m : Int) (hk : 1 ≤ k) (hy : 0 ≤ y) (h1 : 1 ≤ m) (h2 : m ≤ 12) : broadsheetref11_days.f k y m = some (Cal.lastD y m) := by
  obtain ⟨k, rfl⟩ : ∃ q, k = q + 1 := ⟨k - 1, by omega⟩
  have hc : m = 1 ∨ m = 2 ∨ m = 3 ∨ m = 4 ∨ m = 5 ∨ m = 6 ∨ m = 7 ∨ m = 8 ∨ m = 9 ∨ m = 10 ∨ m = 11 ∨ m = 12 := by omega
  unfold broadsheetref11_days.f
  rcases hc with rfl | rfl | rfl | rfl | rfl | rfl | rfl | rfl | rfl | rfl | rfl | rfl
  case inr.inl =>
    simp only [broadsheetref11_days.j0, rleap_eq y hy, Option.bind_some]
    unfold Cal.lastD
    simp
    cases Cal.leapB y <;> rfl
  all_goals
    simp only [broadsheetref11_days.j0]
    rfl

theorem l4_eq (y m d : Int) (hy : 0 ≤ y) (hy2 : y ≤ 20000) (h1 : 1 ≤ m) (h2 : m ≤ 12) (hd : -1000 ≤ d) (hd2 : d ≤ 1000) (q : Nat) : ∀ (k : Nat) (n j : Int), 1 ≤ j → m - j = q → q + 1 < k → -1000000000000 ≤ n → n + 31 * (12 - j) ≤ 1000000000000 →
    broadsheetref11_since.l4 k y m d n j = some (n + (Cal.dayF y m 1 - Cal.dayF y j 1) + (d - 1)) := by
  induction q with
  | zero =>
    intro k n j hj hq hk b1 b2
    obtain ⟨k, rfl⟩ : ∃ q, k = q + 1 := ⟨k - 1, by omega⟩
    obtain rfl : j = m := by omega
    simp only [broadsheetref11_since.l4]
    rw [if_neg (by omega), w64 (n := n + d) (by omega), w64 (n := n + d - 1) (by omega)]
    congr 1; omega
  | succ q ih =>
    intro k n j hj hq hk b1 b2
    obtain ⟨k, rfl⟩ : ∃ q, k = q + 1 := ⟨k - 1, by omega⟩
    have hl := Cal.lastD_pos y j hj (by omega)
    have hs := Cal.dayF_month y j hj (by omega)
    simp only [broadsheetref11_since.l4]
    rw [if_pos (by omega), days_eq k y j (by omega) hy hj (by omega)]
    simp only [Option.bind_some]
    rw [w64 (n := n + Cal.lastD y j) (by omega), w64 (n := j + 1) (by omega), ih k (n + Cal.lastD y j) (j + 1) (by omega) (by omega) (by omega) (by omega) (by omega), hs]
    congr 1; omega

/-- The first day of a year. -/
abbrev J (y : Int) : Int := Cal.dayF y 1 1

theorem l3_eq (y m d : Int) (hy : 0 ≤ y) (hy2 : y ≤ 20000) (h1 : 1 ≤ m) (h2 : m ≤ 12) (hd : -1000 ≤ d) (hd2 : d ≤ 1000) (q : Nat) : ∀ (k : Nat) (n j : Int), 0 ≤ j → (1970 - j).toNat = q → q + 14 < k → -500000000000 ≤ n - 366 * q → n ≤ 500000000000 →
    broadsheetref11_since.l3 k y m d n j = some (n - (if j < 1970 then - J j else 0) + (Cal.dayF y m 1 - J y) + (d - 1)) := by
  induction q with
  | zero =>
    intro k n j hj hq hk b1 b2
    obtain ⟨k, rfl⟩ : ∃ q, k = q + 1 := ⟨k - 1, by omega⟩
    simp only [broadsheetref11_since.l3]
    rw [if_neg (by omega), if_neg (by omega), l4_eq y m d hy hy2 h1 h2 hd hd2 (m - 1).toNat k n 1 (by omega) (by omega) (by omega) (by omega) (by omega)]
    congr 1; unfold J; omega
  | succ q ih =>
    intro k n j hj hq hk b1 b2
    obtain ⟨k, rfl⟩ : ∃ q, k = q + 1 := ⟨k - 1, by omega⟩
    simp only [broadsheetref11_since.l3]
    rw [if_pos (by omega), if_pos (by omega), rleap_eq j hj]
    simp only [Option.bind_some]
    have hs := Cal.dayF_leap j
    have e70 := Cal.dayF_1970
    by_cases hl : Cal.leapB j = true
    · rw [if_pos hl] at hs ⊢
      rw [w64 (n := n - 365) (by omega), w64 (n := n - 365 - 1) (by omega), w64 (n := j + 1) (by omega), ih k (n - 365 - 1) (j + 1) (by omega) (by omega) (by omega) (by omega) (by omega)]
      congr 1
      split
      · unfold J at *; omega
      · have : j = 1969 := by omega
        subst this
        have : Cal.dayF (1969 + 1) 1 1 = 0 := Cal.dayF_1970
        unfold J at *; omega
    · rw [if_neg hl] at hs ⊢
      rw [w64 (n := n - 365) (by omega), w64 (n := j + 1) (by omega), ih k (n - 365) (j + 1) (by omega) (by omega) (by omega) (by omega) (by omega)]
      congr 1
      split
      · unfold J at *; omega
      · have : j = 1969 := by omega
        subst this
        have : Cal.dayF (1969 + 1) 1 1 = 0 := Cal.dayF_1970
        unfold J at *; omega

theorem l2_eq (y m d : Int) (hy : 0 ≤ y) (hy2 : y ≤ 20000) (h1 : 1 ≤ m) (h2 : m ≤ 12) (hd : -1000 ≤ d) (hd2 : d ≤ 1000) (q : Nat) : ∀ (k : Nat) (n j : Int), 1970 ≤ j → (y - j).toNat = q → (j ≤ y ∨ j = 1970) → q + 2000 < k → -400000000000 ≤ n → n + 366 * q ≤ 400000000000 →
    broadsheetref11_since.l2 k y m d n j = some (n - J j + Cal.dayF y m 1 + (d - 1)) := by
  induction q with
  | zero =>
    intro k n j hj hq hjy hk b1 b2
    obtain ⟨k, rfl⟩ : ∃ q, k = q + 1 := ⟨k - 1, by omega⟩
    simp only [broadsheetref11_since.l2]
    rw [if_neg (by omega), l3_eq y m d hy hy2 h1 h2 hd hd2 (1970 - y).toNat k n y hy rfl (by omega) (by omega) (by omega)]
    congr 1
    have e70 := Cal.dayF_1970
    rcases hjy with h | h
    · have : j = y := by omega
      subst this
      rw [if_neg (by omega)]; omega
    · subst h
      split
      · unfold J; omega
      · have : y = 1970 := by omega
        subst this; unfold J; omega
  | succ q ih =>
    intro k n j hj hq hjy hk b1 b2
    obtain ⟨k, rfl⟩ : ∃ q, k = q + 1 := ⟨k - 1, by omega⟩
    simp only [broadsheetref11_since.l2]
    rw [if_pos (by omega), rleap_eq j (by omega)]
    simp only [Option.bind_some]
    have hs := Cal.dayF_leap j
    by_cases hl : Cal.leapB j = true
    · rw [if_pos hl] at hs ⊢
      rw [w64 (n := n + 365) (by omega), w64 (n := n + 365 + 1) (by omega), w64 (n := j + 1) (by omega), ih k (n + 365 + 1) (j + 1) (by omega) (by omega) (by omega) (by omega) (by omega) (by omega)]
      congr 1
      unfold J at *; omega
    · rw [if_neg hl] at hs ⊢
      rw [w64 (n := n + 365) (by omega), w64 (n := j + 1) (by omega), ih k (n + 365) (j + 1) (by omega) (by omega) (by omega) (by omega) (by omega) (by omega)]
      congr 1
      unfold J at *; omega

theorem l1_eq (m d : Int) (h1 : 1 ≤ m) (h2 : m ≤ 12) (hd : -1000 ≤ d) (hd2 : d ≤ 1000) (q : Nat) : ∀ (k : Nat) (n y : Int), 0 ≤ y → y ≤ 2369 → (2000 - y).toNat / 400 = q → q + 2500 < k → -300000000000 ≤ n - 146097 * q → n ≤ 300000000000 →
    broadsheetref11_since.l1 k y m d n = some (n + Cal.dayF y m 1 + (d - 1)) := by
  induction q using Nat.strongRecOn with
  | ind q ih =>
    intro k n y hy hy2 hq hk b1 b2
    obtain ⟨k, rfl⟩ : ∃ q, k = q + 1 := ⟨k - 1, by omega⟩
    simp only [broadsheetref11_since.l1]
    rw [w64 (n := y + 400) (by omega)]
    by_cases hc : y + 400 ≤ 1970
    · rw [if_pos hc, w64 (n := n - 146097) (by omega), ih (q - 1) (by omega) k (n - 146097) (y + 400) (by omega) (by omega) (by omega) (by omega) (by omega) (by omega), Cal.dayF_400]
      congr 1; omega
    · rw [if_neg hc, l2_eq y m d hy (by omega) h1 h2 hd hd2 (y - 1970).toNat k n 1970 (by omega) rfl (by omega) (by omega) (by omega) (by omega)]
      have e70 := Cal.dayF_1970
      congr 1
      unfold J; omega

theorem l0_eq (m d : Int) (h1 : 1 ≤ m) (h2 : m ≤ 12) (hd : -1000 ≤ d) (hd2 : d ≤ 1000) (q : Nat) : ∀ (k : Nat) (n y : Int), 0 ≤ y → y ≤ 20000 → y.toNat / 400 = q → q + 2600 < k → -200000000000 ≤ n → n + 146097 * q ≤ 200000000000 →
    broadsheetref11_since.l0 k y m d n = some (n + Cal.dayF y m 1 + (d - 1)) := by
  induction q using Nat.strongRecOn with
  | ind q ih =>
    intro k n y hy hy2 hq hk b1 b2
    obtain ⟨k, rfl⟩ : ∃ q, k = q + 1 := ⟨k - 1, by omega⟩
    simp only [broadsheetref11_since.l0]
    by_cases hc : y ≥ 2370
    · have h4 := Cal.dayF_400 (y - 400) m 1
      rw [show y - 400 + 400 = y by omega] at h4
      rw [if_pos hc, w64 (n := y - 400) (by omega), w64 (n := n + 146097) (by omega), ih (q - 1) (by omega) k (n + 146097) (y - 400) (by omega) (by omega) (by omega) (by omega) (by omega) (by omega), h4]
      congr 1; omega
    · rw [if_neg hc, l1_eq m d h1 h2 hd hd2 ((2000 - y).toNat / 400) k n y hy (by omega) rfl (by omega) (by omega) (by omega)]

theorem since_eq (k : Nat) (y m d : Int) (hk : 3000 ≤ k) (hy : 0 ≤ y) (hy2 : y ≤ 20000) (h1 : 1 ≤ m) (h2 : m ≤ 12) (hd : -1000 ≤ d) (hd2 : d ≤ 1000) : broadsheetref11_since.f k y m d = some (Cal.dayF y m d) := by
  unfold broadsheetref11_since.f
  rw [l0_eq m d h1 h2 hd hd2 (y.toNat / 400) k 0 y hy hy2 rfl (by omega) (by omega) (by omega), Cal.dayF_d y m d]
  congr 1; omega
end Go.Proofs.YtfcmdameiabjmaaDoor.Fun
