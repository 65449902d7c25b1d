/- 24 texts in one file: Prx5, Prx8, Cal, Fun, Dig, Num, Pri, Since, Prx6, Prx7, Prb, Nst, Merge, Swp, Rot, Sym, Rotw, Syl, Syw, Blk, Stb, Clo, Ordw, Orv. -/
import Derived.Test.YtjbckpoepfbgbaaDoorBd1
import Derived.RowKit
import Derived.Lib.ItoaLen
import Derived.Lib.Strings
import Derived.Lib.Hide
import Derived.Test.YtjbckpoepfbgbaaDoorPrx3
import Derived.Sort.Statements
import Derived.Test.YtjbckpoepfbgbaaDoorProg
import Derived.WalkKit
import Derived.WalkSpells
import Derived.WalkLawsBesides
import Derived.Shelf.SlSortCmp.KitK
import Derived.Sort.WalkB2
import Derived.Sort.WalkB12
import Derived.Deep.LoopGhost
import Derived.Sort.WalkA
import Derived.Outline
import Derived.Test.YtjbckpoepfbgbaaDoorWWords
section
-- Written by given.py, a program of this session, over the kit's printer.
namespace Go.Proofs.YtjbckpoepfbgbaaDoor.Pr
open Go.RowKit Go.Proofs.YtjbckpoepfbgbaaDoorW.PrintWords Go.Proofs.YtjbckpoepfbgbaaDoorW.PrintLast Go.Proofs.YtjbckpoepfbgbaaDoorW.PrintMore
attribute [local go_sem] max2_int min2_int max_two min_two max_three min_three max_four min_four
set_option linter.unusedVariables false
set_option linter.unusedSimpArgs false
end Go.Proofs.YtjbckpoepfbgbaaDoor.Pr
end
section
-- Written by given.py, a program of this session, over the kit's printer.
namespace Go.Proofs.YtjbckpoepfbgbaaDoor.Pr
open Go.RowKit Go.Proofs.YtjbckpoepfbgbaaDoorW.PrintWords Go.Proofs.YtjbckpoepfbgbaaDoorW.PrintLast Go.Proofs.YtjbckpoepfbgbaaDoorW.PrintMore
attribute [local go_sem] max2_int min2_int max_two min_two max_three min_three max_four min_four
set_option linter.unusedVariables false
set_option linter.unusedSimpArgs false
end Go.Proofs.YtjbckpoepfbgbaaDoor.Pr
end
section
/- The calendar: a day's number in closed form, a number's day, months' lengths; each is the other's inverse; days stand as their years, months and days do. -/
namespace Go.Proofs.YtjbckpoepfbgbaaDoor.Cal
theorem doe_dec (doe : Int) (h0 : 0 ≤ doe) (h1 : doe ≤ 146096) : ∃ c q a t : Int, doe = 36524 * c + 1461 * q + 365 * a + t ∧ 0 ≤ c ∧ c ≤ 3 ∧ 0 ≤ q ∧ q ≤ 24 ∧ 0 ≤ a ∧ a ≤ 3 ∧ 0 ≤ t ∧ t ≤ 365 ∧ (t = 365 → a = 3 ∧ (q ≠ 24 ∨ c = 3)) := by
  by_cases hc : doe = 146096
  · exact ⟨3, 24, 3, 365, by omega, by omega, by omega, by omega, by omega, by omega, by omega, by omega, by omega, by omega⟩
  · by_cases ha : (doe % 36524) % 1461 = 1460
    · exact ⟨doe / 36524, (doe % 36524) / 1461, 3, 365, by omega, by omega, by omega, by omega, by omega, by omega, by omega, by omega, by omega, by omega⟩
    · exact ⟨doe / 36524, (doe % 36524) / 1461, ((doe % 36524) % 1461) / 365, ((doe % 36524) % 1461) % 365, by omega, by omega, by omega, by omega, by omega, by omega, by omega, by omega, by omega, by omega⟩
theorem yoe_at (c q a t : Int) (h1 : 0 ≤ c) (h2 : c ≤ 3) (h3 : 0 ≤ q) (h4 : q ≤ 24) (h5 : 0 ≤ a) (h6 : a ≤ 3) (h7 : 0 ≤ t) (h8 : t ≤ 365) (h9 : t = 365 → a = 3 ∧ (q ≠ 24 ∨ c = 3)) (doe : Int) (hd : doe = 36524 * c + 1461 * q + 365 * a + t) :
    (doe - doe / 1460 + doe / 36524 - doe / 146096) / 365 = 100 * c + 4 * q + a := by
  by_cases hz : doe = 146096
  · have : c = 3 ∧ q = 24 ∧ a = 3 := by omega
    obtain ⟨rfl, rfl, rfl⟩ := this
    rw [hz]; decide
  · have e2 : doe / 36524 = c := by omega
    have e3 : doe / 146096 = 0 := by omega
    have e1 : doe / 1460 = 25 * c + q ∨ (doe / 1460 = 25 * c + q + 1 ∧ 1460 ≤ 24 * c + q + 365 * a + t) := by omega
    rw [e2, e3]
    rcases e1 with e1 | ⟨e1, hx⟩
    · have ht : t ≤ 364 := by omega
      rw [e1]; omega
    · have ha : 1 ≤ t := by omega
      rw [e1]; omega
def leapB (y : Int) : Bool := decide (y % 4 = 0) && (!decide (y % 100 = 0) || decide (y % 400 = 0))
def lastD (y m : Int) : Int := if m = 2 then (if leapB y then 29 else 28) else 30 + (m + m / 8) % 2
def dayF (y m d : Int) : Int := if m < 3 then 365 * (y - 1 + 400) + (y - 1 + 400) / 4 - (y - 1 + 400) / 100 + (y - 1 + 400) / 400 + (153 * (m + 12 - 3) + 2) / 5 + d - 1 - 719468 - 146097 else 365 * (y + 400) + (y + 400) / 4 - (y + 400) / 100 + (y + 400) / 400 + (153 * (m - 3) + 2) / 5 + d - 1 - 719468 - 146097
/-- A year of four hundred, and the day in it, of a day in four hundred years. -/
def yoe (doe : Int) : Int := (doe - doe / 1460 + doe / 36524 - doe / 146096) / 365
def doy (doe : Int) : Int := doe - (365 * yoe doe + yoe doe / 4 - yoe doe / 100)
def civ (n : Int) : Int × Int × Int :=
  if (5 * doy (n % 146097) + 2) / 153 < 10 then (yoe (n % 146097) + (n / 146097 * 400 - 400), (5 * doy (n % 146097) + 2) / 153 + 3, doy (n % 146097) - (153 * ((5 * doy (n % 146097) + 2) / 153) + 2) / 5 + 1)
  else (yoe (n % 146097) + (n / 146097 * 400 - 400) + 1, (5 * doy (n % 146097) + 2) / 153 - 9, doy (n % 146097) - (153 * ((5 * doy (n % 146097) + 2) / 153) + 2) / 5 + 1)
/-- May it be a day? -/
def vld (y m d : Int) : Prop := 1 ≤ m ∧ m ≤ 12 ∧ 1 ≤ d ∧ d ≤ lastD y m
theorem leap_iff (y : Int) : leapB y = true ↔ (y % 4 = 0 ∧ (y % 100 ≠ 0 ∨ y % 400 = 0)) := by
  unfold leapB
  simp [Bool.and_eq_true, Bool.or_eq_true]
theorem doy_bd (D : Int) (h0 : 0 ≤ D) (h1 : D ≤ 146096) : 0 ≤ yoe D ∧ yoe D ≤ 399 ∧ 0 ≤ doy D ∧ doy D ≤ 365 := by
  obtain ⟨c, q, a, t, hd, k1, k2, k3, k4, k5, k6, k7, k8, k9⟩ := doe_dec D h0 h1
  have hy : yoe D = 100 * c + 4 * q + a := yoe_at c q a t k1 k2 k3 k4 k5 k6 k7 k8 k9 D hd
  unfold doy
  rw [hy]
  have e4 : (100 * c + 4 * q + a) / 4 = 25 * c + q := by omega
  have e5 : (100 * c + 4 * q + a) / 100 = c := by omega
  rw [e4, e5]
  clear hy e4 e5
  omega
theorem civ_spec (n : Int) : vld (civ n).1 (civ n).2.1 (civ n).2.2 ∧ dayF (civ n).1 (civ n).2.1 (civ n).2.2 = n - 719468 - 146097 := by
  obtain ⟨c, q, a, t, hd, h1, h2, h3, h4, h5, h6, h7, h8, h9⟩ := doe_dec (n % 146097) (by omega) (by omega)
  have hy : yoe (n % 146097) = 100 * c + 4 * q + a := yoe_at c q a t h1 h2 h3 h4 h5 h6 h7 h8 h9 _ hd
  have ht : doy (n % 146097) = t := by
    unfold doy; rw [hy, hd]
    have e4 : (100 * c + 4 * q + a) / 4 = 25 * c + q := by omega
    have e5 : (100 * c + 4 * q + a) / 100 = c := by omega
    rw [e4, e5]; omega
  obtain ⟨E, hE⟩ : ∃ E, n / 146097 = E := ⟨_, rfl⟩
  have hn : n = 146097 * E + (36524 * c + 1461 * q + 365 * a + t) := by omega
  unfold civ
  rw [hy, ht, hE]
  refine ⟨?_, ?_⟩
  · split
    · rename_i hm
      refine ⟨by simp; omega, by simp; omega, by simp; omega, ?_⟩
      unfold lastD
      simp only
      rw [if_neg (by omega)]
      obtain ⟨mp, hmp⟩ : ∃ mp, (5 * t + 2) / 153 = mp := ⟨_, rfl⟩
      rw [hmp] at hm ⊢
      have hc : mp = 0 ∨ mp = 1 ∨ mp = 2 ∨ mp = 3 ∨ mp = 4 ∨ mp = 5 ∨ mp = 6 ∨ mp = 7 ∨ mp = 8 ∨ mp = 9 := by omega
      clear hy ht hE h9 hd
      rcases hc with rfl | rfl | rfl | rfl | rfl | rfl | rfl | rfl | rfl | rfl <;> omega
    · rename_i hm
      refine ⟨by simp; omega, by simp; omega, by simp; omega, ?_⟩
      simp only
      unfold lastD
      split
      · rename_i h2m
        by_cases hx : t = 365
        · have hl : leapB (100 * c + 4 * q + a + (E * 400 - 400) + 1) = true := by
            rw [leap_iff]
            obtain ⟨rfl, hq⟩ := h9 hx
            omega
          rw [hl]; simp only [if_true]; omega
        · split <;> omega
      · omega
  · split
    · rename_i hm
      simp only
      unfold dayF
      rw [if_neg (by omega)]
      have e4 : (100 * c + 4 * q + a + (E * 400 - 400) + 400) / 4 = 25 * c + q + 100 * E := by omega
      have e5 : (100 * c + 4 * q + a + (E * 400 - 400) + 400) / 100 = c + 4 * E := by omega
      have e6 : (100 * c + 4 * q + a + (E * 400 - 400) + 400) / 400 = E := by omega
      rw [e4, e5, e6]
      have e7 : (5 * t + 2) / 153 + 3 - 3 = (5 * t + 2) / 153 := by omega
      rw [e7]; omega
    · rename_i hm
      simp only
      unfold dayF
      rw [if_pos (by omega)]
      have e4 : (100 * c + 4 * q + a + (E * 400 - 400) + 1 - 1 + 400) / 4 = 25 * c + q + 100 * E := by omega
      have e5 : (100 * c + 4 * q + a + (E * 400 - 400) + 1 - 1 + 400) / 100 = c + 4 * E := by omega
      have e6 : (100 * c + 4 * q + a + (E * 400 - 400) + 1 - 1 + 400) / 400 = E := by omega
      rw [e4, e5, e6]
      have e7 : (5 * t + 2) / 153 - 9 + 12 - 3 = (5 * t + 2) / 153 := by omega
      rw [e7]; omega
theorem dayF_d (y m d : Int) : dayF y m d = dayF y m 1 + (d - 1) := by unfold dayF; split <;> omega
theorem lastD_pos (y m : Int) (h1 : 1 ≤ m) (h2 : m ≤ 12) : 28 ≤ lastD y m ∧ lastD y m ≤ 31 := by
  unfold lastD
  split
  · split <;> omega
  · have hc : m = 1 ∨ m = 2 ∨ m = 3 ∨ m = 4 ∨ m = 5 ∨ m = 6 ∨ m = 7 ∨ m = 8 ∨ m = 9 ∨ m = 10 ∨ m = 11 ∨ m = 12 := by omega
    rcases hc with rfl | rfl | rfl | rfl | rfl | rfl | rfl | rfl | rfl | rfl | rfl | rfl <;> decide
/-- The next month begins behind this one's last day. -/
theorem dayF_month (y m : Int) (h1 : 1 ≤ m) (h2 : m ≤ 11) : dayF y (m + 1) 1 = dayF y m 1 + lastD y m := by
  have hc : m = 1 ∨ m = 2 ∨ m = 3 ∨ m = 4 ∨ m = 5 ∨ m = 6 ∨ m = 7 ∨ m = 8 ∨ m = 9 ∨ m = 10 ∨ m = 11 := by omega
  rcases hc with rfl | rfl | rfl | rfl | rfl | rfl | rfl | rfl | rfl | rfl | rfl
  case inr.inl =>
    unfold dayF lastD
    simp only [show ((2 : Int) + 1 < 3) = False by decide, show ((2 : Int) < 3) = True by decide, if_true, if_false]
    by_cases hl : leapB y = true
    · rw [hl]
      have := (leap_iff y).1 hl
      simp only [if_true]
      omega
    · have hl2 : ¬ (y % 4 = 0 ∧ (y % 100 ≠ 0 ∨ y % 400 = 0)) := fun h => hl ((leap_iff y).2 h)
      rw [if_neg hl]
      omega
  all_goals
    unfold dayF lastD
    simp
    try omega
/-- The next year begins behind this one's December. -/
theorem dayF_year (y : Int) : dayF (y + 1) 1 1 = dayF y 12 1 + 31 := by
  unfold dayF
  simp
  omega
end Go.Proofs.YtjbckpoepfbgbaaDoor.Cal
end
section
/- What the printed functions of the date package answer, in closed form. -/
namespace Go.Proofs.YtjbckpoepfbgbaaDoor.Fun
open Go.RowKit Go.Proofs.YtjbckpoepfbgbaaDoor.Pr Go.Proofs.YtjbckpoepfbgbaaDoorW.PrintWords Go.Proofs.YtjbckpoepfbgbaaDoorW.PrintLast Go.Proofs.YtjbckpoepfbgbaaDoorW.PrintMore
theorem w64 {n : Int} (h : -9223372036854775808 ≤ n ∧ n ≤ 9223372036854775807) : wrap64 n = n := by unfold wrap64; omega
theorem td {a b : Int} (h : 0 ≤ a) : Int.tdiv a b = a / b := Int.tdiv_eq_ediv_of_nonneg h
theorem tm {a b : Int} (h : 0 ≤ a) : Int.tmod a b = a % b := Int.tmod_eq_emod_of_nonneg h
theorem civil_eq (n : Int) (h0 : 0 ≤ n) (h1 : n ≤ 10000000) : date_civil.f n = some (Cal.civ n) := by
  unfold date_civil.f Cal.civ Cal.doy Cal.yoe
  rw [tm h0, td h0]
  obtain ⟨D, hD⟩ : ∃ D, n % 146097 = D := ⟨_, rfl⟩
  obtain ⟨E, hE⟩ : ∃ E, n / 146097 = E := ⟨_, rfl⟩
  rw [hD, hE]
  have d0 : 0 ≤ D := by omega
  have d1 : D ≤ 146096 := by omega
  have e0 : 0 ≤ E := by omega
  have e1 : E ≤ 100 := by omega
  clear hD hE h0 h1
  rw [td d0, td d0, td d0]
  obtain ⟨q1, hq1⟩ : ∃ q, D / 1460 = q := ⟨_, rfl⟩
  obtain ⟨q2, hq2⟩ : ∃ q, D / 36524 = q := ⟨_, rfl⟩
  obtain ⟨q3, hq3⟩ : ∃ q, D / 146096 = q := ⟨_, rfl⟩
  rw [hq1, hq2, hq3, w64 (n := q1) (by omega), w64 (n := q2) (by omega), w64 (n := q3) (by omega), w64 (n := D - q1) (by omega), w64 (n := D - q1 + q2) (by omega), w64 (n := D - q1 + q2 - q3) (by omega), td (a := D - q1 + q2 - q3) (by omega)]
  have hbd := Cal.doy_bd D d0 d1
  unfold Cal.doy Cal.yoe at hbd
  rw [hq1, hq2, hq3] at hbd
  clear hq1 hq2 hq3
  obtain ⟨Y, hY⟩ : ∃ Y, (D - q1 + q2 - q3) / 365 = Y := ⟨_, rfl⟩
  rw [hY] at hbd ⊢
  obtain ⟨hy0, hy1, hdoy⟩ := hbd
  clear hY
  rw [w64 (n := Y) (by omega), td hy0, td hy0]
  obtain ⟨y4, h4⟩ : ∃ q, Y / 4 = q := ⟨_, rfl⟩
  obtain ⟨y100, h100⟩ : ∃ q, Y / 100 = q := ⟨_, rfl⟩
  rw [h4, h100] at hdoy ⊢
  have b4 : 0 ≤ y4 ∧ y4 ≤ 100 := by omega
  have b100 : 0 ≤ y100 ∧ y100 ≤ 4 := by omega
  clear h4 h100
  rw [w64 (n := 365 * Y) (by omega), w64 (n := y4) (by omega), w64 (n := y100) (by omega), w64 (n := 365 * Y + y4) (by omega), w64 (n := 365 * Y + y4 - y100) (by omega), w64 (n := D - (365 * Y + y4 - y100)) (by omega)]
  obtain ⟨Q, hQ⟩ : ∃ q, D - (365 * Y + y4 - y100) = q := ⟨_, rfl⟩
  rw [hQ] at hdoy ⊢
  clear hQ
  rw [w64 (n := 5 * Q) (by omega), w64 (n := 5 * Q + 2) (by omega), td (a := 5 * Q + 2) (by omega)]
  obtain ⟨M, hM⟩ : ∃ q, (5 * Q + 2) / 153 = q := ⟨_, rfl⟩
  rw [hM, w64 (n := M) (by omega), w64 (n := 153 * M) (by omega), w64 (n := 153 * M + 2) (by omega), td (a := 153 * M + 2) (by omega)]
  obtain ⟨R, hR⟩ : ∃ q, (153 * M + 2) / 5 = q := ⟨_, rfl⟩
  rw [hR, w64 (n := R) (by omega), w64 (n := Q - R) (by omega), w64 (n := Q - R + 1) (by omega), w64 (n := E) (by omega), w64 (n := E * 400) (by omega), w64 (n := E * 400 - 400) (by omega), w64 (n := Y + (E * 400 - 400)) (by omega), w64 (n := M + 3) (by omega), w64 (n := M - 9) (by omega), w64 (n := Y + (E * 400 - 400) + 1) (by omega)]
  split <;> rfl
theorem lastD_le (y m : Int) : Cal.lastD y m ≤ 31 := by
  unfold Cal.lastD
  split
  · split <;> omega
  · omega
end Go.Proofs.YtjbckpoepfbgbaaDoor.Fun
end
section
/- Digits, and their value. -/
namespace Go.Proofs.YtjbckpoepfbgbaaDoor.Txt
open Go.RowKit
/-- The digits' value. -/
def val (l : List UInt8) : Nat := l.foldl (fun k c => k * 10 + (c.toNat - 48)) 0
def isDig (c : UInt8) : Bool := 48 ≤ c.toNat && c.toNat ≤ 57
def allDig (l : List UInt8) : Bool := l.all isDig
theorem val_snoc (l : List UInt8) (c : UInt8) : val (l ++ [c]) = val l * 10 + (c.toNat - 48) := by
  simp [val, List.foldl_append]
theorem isDig_iff (c : UInt8) : isDig c = true ↔ 48 ≤ c.toNat ∧ c.toNat ≤ 57 := by simp [isDig]
end Go.Proofs.YtjbckpoepfbgbaaDoor.Txt
end
section
/- Numbers written out to a width: the reference's, and what date.pad writes. -/
set_option linter.unusedVariables false
namespace Go.Proofs.YtjbckpoepfbgbaaDoor.Fun
open Go.RowKit Go.Proofs.YtjbckpoepfbgbaaDoor.Pr Go.Proofs.YtjbckpoepfbgbaaDoorW.PrintWords Go.Proofs.YtjbckpoepfbgbaaDoorW.PrintLast Go.Proofs.YtjbckpoepfbgbaaDoorW.PrintMore
open Go.Proofs.YtjbckpoepfbgbaaDoor.Txt
def mk (l : List UInt8) : ByteArray := ⟨l.toArray⟩
theorem mk_size (l : List UInt8) : (mk l).size = l.length := Lib.size_mk l
theorem date_pad_eq (n : Int) (c : Nat) (hc : c ≤ 100) (h0 : 0 ≤ n) (h1 : n ≤ 999999999999) : date_pad.f n c = some (mk (padL n c)) := by
  unfold date_pad.f
  rw [if_pos h0, if_pos h1, if_pos (by omega), if_pos (by omega)]
  rfl
theorem dec_all (u : Nat) : allDig (Lib.decDigits u) = true := by
  induction u using Nat.strongRecOn with
  | _ u ih =>
    have one : ∀ x, x < 10 → isDig (UInt8.ofNat (48 + x)) = true := by
      intro x hx
      rw [isDig_iff]
      have : (UInt8.ofNat (48 + x)).toNat = 48 + x := by simp; omega
      omega
    by_cases h : u < 10
    · rw [Lib.decDigits, dif_pos h]
      show (isDig _ && true) = true
      rw [one u h]; rfl
    · rw [Lib.decDigits, dif_neg h]
      have := ih (u / 10) (by omega)
      unfold allDig at this ⊢
      rw [List.all_append, this]
      rw [List.all_cons, List.all_nil, one (u % 10) (by omega)]; rfl
theorem dec_val (u : Nat) : val (Lib.decDigits u) = u := by
  induction u using Nat.strongRecOn with
  | _ u ih =>
    have one : ∀ x, x < 10 → (UInt8.ofNat (48 + x)).toNat - 48 = x := by
      intro x hx
      have : (UInt8.ofNat (48 + x)).toNat = 48 + x := by simp; omega
      omega
    by_cases h : u < 10
    · rw [Lib.decDigits, dif_pos h]
      show 0 * 10 + ((UInt8.ofNat (48 + u)).toNat - 48) = u
      rw [one u h]; omega
    · rw [Lib.decDigits, dif_neg h, val_snoc, ih (u / 10) (by omega), one (u % 10) (by omega)]
      omega
theorem dec_len (c u : Nat) (hc : 1 ≤ c) (h : u < 10 ^ c) : (Lib.decDigits u).length ≤ c := by
  rw [Lib.decDigits_length]
  induction c generalizing u with
  | zero => omega
  | succ c ih =>
    by_cases h9 : u < 10
    · rw [Lib.nDigits_small h9]; omega
    · rw [Lib.nDigits_big h9]
      cases c with
      | zero => simp at h; omega
      | succ c =>
        have := ih (u / 10) (by omega) (by rw [Nat.pow_succ] at h; omega)
        omega
theorem val_noughts (a : Nat) (l : List UInt8) : val (List.replicate a 48 ++ l) = val l := by
  induction a with
  | zero => rfl
  | succ a ih => rw [List.replicate_succ, List.cons_append]; exact ih
theorem padL_facts (n : Int) (c : Nat) (hc : 1 ≤ c) (h0 : 0 ≤ n) (h1 : n < ((10 ^ c : Nat) : Int)) : (padL n c).length = c ∧ allDig (padL n c) = true ∧ ((val (padL n c) : Nat) : Int) = n := by
  obtain ⟨u, rfl⟩ : ∃ u : Nat, n = u := ⟨n.toNat, by omega⟩
  unfold padL
  rw [Lib.itoa_nonneg]
  have hl := dec_len c u hc (by omega)
  refine ⟨by rw [List.length_append, List.length_replicate]; omega, ?_, ?_⟩
  · have := dec_all u
    unfold allDig at this ⊢
    rw [List.all_append, this, Bool.and_true, List.all_eq_true]
    intro x hx
    rw [List.eq_of_mem_replicate hx]; rfl
  · rw [val_noughts, dec_val]
end Go.Proofs.YtjbckpoepfbgbaaDoor.Fun
end
section
/- What date.Print writes. -/
set_option linter.unusedVariables false
namespace Go.Proofs.YtjbckpoepfbgbaaDoor.Fun
open Go.RowKit Go.Proofs.YtjbckpoepfbgbaaDoor.Pr Go.Proofs.YtjbckpoepfbgbaaDoorW.PrintWords Go.Proofs.YtjbckpoepfbgbaaDoorW.PrintLast Go.Proofs.YtjbckpoepfbgbaaDoorW.PrintMore
open Go.Proofs.YtjbckpoepfbgbaaDoor.Txt
/-- The day (counted from 1970) and the second in it. -/
def dayN (s : Int) : Int := (s + 62167219200) / 86400 - 719528
def secN (s : Int) : Int := (s + 62167219200) % 86400
def civN (s : Int) : Int × Int × Int := Cal.civ (dayN s + 719468 + 146097)
def headB (y m d h mi se : ByteArray) : ByteArray :=
  (((((((((y ++ (⟨#[45]⟩ : ByteArray)) ++ m) ++ (⟨#[45]⟩ : ByteArray)) ++ d) ++ (⟨#[84]⟩ : ByteArray)) ++ h) ++ (⟨#[58]⟩ : ByteArray)) ++ mi) ++ (⟨#[58]⟩ : ByteArray)) ++ se
/-- The text ahead of the fraction. -/
def headT (s : Int) : ByteArray :=
  headB (mk (padL (civN s).1 4)) (mk (padL (civN s).2.1 2)) (mk (padL (civN s).2.2 2)) (mk (padL (secN s / 3600) 2)) (mk (padL (secN s / 60 % 60) 2)) (mk (padL (secN s % 60) 2))
/-- The whole text. -/
def printT (s n : Int) : ByteArray :=
  if n > 0 then (headT s ++ ((⟨#[46]⟩ : ByteArray) ++ mk (Lib.trimRightB (padL n 9) 48))) ++ (⟨#[90]⟩ : ByteArray) else headT s ++ (⟨#[90]⟩ : ByteArray)
/-- May an instant be written? -/
def inR (s n : Int) : Prop := -62167219200 ≤ s ∧ s ≤ 253402300799 ∧ 0 ≤ n ∧ n ≤ 999999999
theorem year_mono (a b : Int) (h : a ≤ b) : Cal.dayF a 1 1 ≤ Cal.dayF b 1 1 := by
  unfold Cal.dayF; simp only [show ((1 : Int) < 3) = True by decide, if_true]; omega
theorem month_mono (y a b : Int) (h0 : 1 ≤ a) (h : a ≤ b) (h1 : b ≤ 12) : Cal.dayF y a 1 ≤ Cal.dayF y b 1 := by
  unfold Cal.dayF
  split <;> split <;> omega
/-- The civil day of a second that may be written. -/
theorem civN_facts (s : Int) (h0 : -62167219200 ≤ s) (h1 : s ≤ 253402300799) :
    0 ≤ (civN s).1 ∧ (civN s).1 ≤ 9999 ∧ Cal.vld (civN s).1 (civN s).2.1 (civN s).2.2 ∧ Cal.dayF (civN s).1 (civN s).2.1 (civN s).2.2 = dayN s ∧
    Cal.dayF (civN s).1 (civN s).2.1 1 ≤ dayN s ∧ Cal.dayF (civN s).1 1 1 ≤ dayN s ∧ dayN s < Cal.dayF ((civN s).1 + 1) 1 1 ∧ ((civN s).2.1 < 12 → dayN s < Cal.dayF (civN s).1 ((civN s).2.1 + 1) 1) := by
  obtain ⟨v, e⟩ := Cal.civ_spec (dayN s + 719468 + 146097)
  change Cal.vld (civN s).1 (civN s).2.1 (civN s).2.2 at v
  change Cal.dayF (civN s).1 (civN s).2.1 (civN s).2.2 = _ at e
  generalize (civN s).1 = y at *
  generalize (civN s).2.1 = m at *
  generalize (civN s).2.2 = d at *
  obtain ⟨v1, v2, v3, v4⟩ := v
  have e' : Cal.dayF y m d = dayN s := by omega
  have hd := Cal.dayF_d y m d
  have hm := month_mono y 1 m (by omega) v1 v2
  have hl := Cal.lastD_pos y m v1 v2
  have a1 : Cal.dayF y m 1 ≤ dayN s := by omega
  have a2 : Cal.dayF y 1 1 ≤ dayN s := by omega
  have a3 : m < 12 → dayN s < Cal.dayF y (m + 1) 1 := by
    intro h
    have := Cal.dayF_month y m v1 (by omega)
    omega
  have a4 : dayN s < Cal.dayF (y + 1) 1 1 := by
    by_cases h : m < 12
    · have h1 := a3 h
      have h2 := month_mono y (m + 1) 12 (by omega) (by omega) (by omega)
      have h3 := Cal.dayF_year y
      omega
    · have : m = 12 := by omega
      subst this
      have h3 := Cal.dayF_year y
      have : Cal.lastD y 12 = 31 := by unfold Cal.lastD; simp
      omega
  have b0 : -719528 ≤ dayN s := by unfold dayN; omega
  have b1 : dayN s ≤ 2932896 := by unfold dayN; omega
  have c0 : Cal.dayF 0 1 1 = -719528 := by decide
  have c1 : Cal.dayF 10000 1 1 = 2932897 := by decide
  have d0 : 0 ≤ y := by
    by_cases h : 0 ≤ y
    · exact h
    · have := year_mono (y + 1) 0 (by omega); omega
  have d1 : y ≤ 9999 := by
    by_cases h : y ≤ 9999
    · exact h
    · have := year_mono 10000 y (by omega); omega
  exact ⟨d0, d1, ⟨v1, v2, v3, v4⟩, e', a1, a2, a4, a3⟩
theorem trim_len (l : List UInt8) : (Lib.trimRightB l 48).length ≤ l.length := by
  unfold Lib.trimRightB
  rw [List.length_reverse]
  refine Nat.le_trans (List.dropWhile_suffix _).length_le ?_
  simp
theorem print_fields (s : Int) (h0 : -62167219200 ≤ s) (h1 : s ≤ 253402300799) : 0 ≤ secN s ∧ secN s < 86400 ∧ (mk (padL (civN s).1 4)).size = 4 ∧ (mk (padL (civN s).2.1 2)).size = 2 ∧ (mk (padL (civN s).2.2 2)).size = 2 ∧ (mk (padL (secN s / 3600) 2)).size = 2 ∧ (mk (padL (secN s / 60 % 60) 2)).size = 2 ∧ (mk (padL (secN s % 60) 2)).size = 2 := by
  obtain ⟨f0, f1, ⟨v1, v2, v3, v4⟩, _⟩ := civN_facts s h0 h1
  have hl := lastD_le (civN s).1 (civN s).2.1
  have s0 : 0 ≤ secN s := by unfold secN; omega
  have s1 : secN s < 86400 := by unfold secN; omega
  refine ⟨s0, s1, ?_, ?_, ?_, ?_, ?_, ?_⟩ <;> rw [mk_size]
  · exact (padL_facts _ 4 (by omega) f0 (by simp; omega)).1
  · exact (padL_facts _ 2 (by omega) (by omega) (by simp; omega)).1
  · exact (padL_facts _ 2 (by omega) (by omega) (by simp; omega)).1
  · exact (padL_facts _ 2 (by omega) (by omega) (by simp; omega)).1
  · exact (padL_facts _ 2 (by omega) (by omega) (by simp; omega)).1
  · exact (padL_facts _ 2 (by omega) (by omega) (by simp; omega)).1
theorem print_bad (k : Nat) (hk : 1 ≤ k) (s n : Int) (h : ¬ inR s n) : date_Print.f k s n = some (⟨#[]⟩, 110) := by
  obtain ⟨k, rfl⟩ : ∃ q, k = q + 1 := ⟨k - 1, by omega⟩
  have hb : date_Print.j0 (k + 1) true s n = some (⟨#[]⟩, 110) := by simp only [date_Print.j0]; rw [if_pos trivial]
  unfold date_Print.f
  unfold inR at h
  by_cases a : s < -62167219200
  · rw [if_pos a]; exact hb
  rw [if_neg a]
  by_cases b : s > 253402300799
  · rw [if_pos b]; exact hb
  rw [if_neg b]
  by_cases c : n < 0
  · rw [if_pos c]; exact hb
  rw [if_neg c, decide_eq_true (by omega)]; exact hb
theorem print_ok (k : Nat) (hk : 1 ≤ k) (s n : Int) (h : inR s n) : date_Print.f k s n = some (printT s n, 0) := by
  obtain ⟨k, rfl⟩ : ∃ q, k = q + 1 := ⟨k - 1, by omega⟩
  obtain ⟨h0, h1, h2, h3⟩ := h
  unfold date_Print.f
  rw [if_neg (by omega), if_neg (by omega), if_neg (by omega), decide_eq_false (by omega)]
  simp only [date_Print.j0]
  rw [if_neg (by simp)]
  obtain ⟨s0, s1, z1, z2, z3, z4, z5, z6⟩ := print_fields s h0 h1
  obtain ⟨f0, f1, ⟨v1, v2, v3, v4⟩, _⟩ := civN_facts s h0 h1
  have hl := lastD_le (civN s).1 (civN s).2.1
  have e1 : Int.tmod (wrap64 (s + 62167219200)) 86400 = secN s := by rw [w64 (by omega), tm (by omega)]; rfl
  have e2 : wrap64 (wrap64 (wrap64 (Int.tdiv (wrap64 (s - secN s)) 86400) + 719468) + 146097) = dayN s + 719468 + 146097 := by
    have : s - secN s = 86400 * dayN s := by unfold secN dayN; omega
    have b0 : -719528 ≤ dayN s := by unfold dayN; omega
    have b1 : dayN s ≤ 2932896 := by unfold dayN; omega
    rw [w64 (n := s - secN s) (by omega), this, Int.mul_comm, Int.mul_tdiv_cancel _ (by decide), w64 (n := dayN s) (by omega), w64 (n := dayN s + 719468) (by omega), w64 (by omega)]
  have b0 : -719528 ≤ dayN s := by unfold dayN; omega
  have b1 : dayN s ≤ 2932896 := by unfold dayN; omega
  have hc : date_civil.f (dayN s + 719468 + 146097) = some (civN s) := civil_eq _ (by omega) (by omega)
  rw [e1, e2, hc]
  have p1 : date_pad.f (civN s).1 4 = some (mk (padL (civN s).1 4)) := date_pad_eq _ 4 (by omega) f0 (by omega)
  have p2 : date_pad.f (civN s).2.1 2 = some (mk (padL (civN s).2.1 2)) := date_pad_eq _ 2 (by omega) (by omega) (by omega)
  have p3 : date_pad.f (civN s).2.2 2 = some (mk (padL (civN s).2.2 2)) := date_pad_eq _ 2 (by omega) (by omega) (by omega)
  have p4 : date_pad.f (wrap64 (Int.tdiv (secN s) 3600)) 2 = some (mk (padL (secN s / 3600) 2)) := by rw [td s0, w64 (by omega)]; exact date_pad_eq _ 2 (by omega) (by omega) (by omega)
  have p5 : date_pad.f (Int.tmod (wrap64 (Int.tdiv (secN s) 60)) 60) 2 = some (mk (padL (secN s / 60 % 60) 2)) := by rw [td s0, w64 (by omega), tm (by omega)]; exact date_pad_eq _ 2 (by omega) (by omega) (by omega)
  have p6 : date_pad.f (Int.tmod (secN s) 60) 2 = some (mk (padL (secN s % 60) 2)) := by rw [tm s0]; exact date_pad_eq _ 2 (by omega) (by omega) (by omega)
  have p9 : date_pad.f n 9 = some (mk (padL n 9)) := date_pad_eq _ 9 (by omega) (by omega) (by omega)
  have l9 := (padL_facts n 9 (by omega) h2 (by simp; omega)).1
  have p10 : strings_TrimRight.f (mk (padL n 9)) ⟨#[48]⟩ = some (mk (Lib.trimRightB (padL n 9) 48)) := by
    unfold strings_TrimRight.f
    rw [if_pos rfl, if_pos (by rw [mk_size, l9]; decide)]
    rfl
  have t10 := trim_len (padL n 9)
  rw [l9] at t10
  have t10' : (mk (Lib.trimRightB (padL n 9) 48)).size ≤ 9 := by rw [mk_size]; exact t10
  simp only [Option.bind_some]
  rw [p1, p2, p3, p4, p5, p6, p9]
  simp only [Option.bind_some]
  rw [p10]
  simp only [Option.bind_some]
  clear p1 p2 p3 p4 p5 p6 p9 p10 hc e1 e2 b0 b1 l9 t10
  unfold printT headT headB
  generalize mk (padL (civN s).1 4) = T1 at *
  generalize mk (padL (civN s).2.1 2) = T2 at *
  generalize mk (padL (civN s).2.2 2) = T3 at *
  generalize mk (padL (secN s / 3600) 2) = T4 at *
  generalize mk (padL (secN s / 60 % 60) 2) = T5 at *
  generalize mk (padL (secN s % 60) 2) = T6 at *
  generalize mk (Lib.trimRightB (padL n 9) 48) = T9 at *
  have l1 : (⟨#[45]⟩ : ByteArray).size = 1 := rfl
  have l2 : (⟨#[84]⟩ : ByteArray).size = 1 := rfl
  have l3 : (⟨#[58]⟩ : ByteArray).size = 1 := rfl
  have l4 : (⟨#[46]⟩ : ByteArray).size = 1 := rfl
  rw [if_pos (by omega), if_pos (by simp only [ByteArray.size_append]; omega), if_pos (by simp only [ByteArray.size_append]; omega), if_pos (by simp only [ByteArray.size_append]; omega), if_pos (by simp only [ByteArray.size_append]; omega), if_pos (by simp only [ByteArray.size_append]; omega), if_pos (by simp only [ByteArray.size_append]; omega), if_pos (by simp only [ByteArray.size_append]; omega), if_pos (by simp only [ByteArray.size_append]; omega), if_pos (by simp only [ByteArray.size_append]; omega)]
  by_cases hn : n > 0
  · rw [if_pos hn, if_pos hn, if_pos (by omega), if_pos (by simp only [ByteArray.size_append]; omega), if_pos (by simp only [ByteArray.size_append]; omega)]
  · rw [if_neg hn, if_neg hn, if_pos (by simp only [ByteArray.size_append]; omega)]
end Go.Proofs.YtjbckpoepfbgbaaDoor.Fun
end
section
/- The reference's days, counted by years and months, are the closed form's. -/
set_option linter.unusedVariables false
namespace Go.Proofs.YtjbckpoepfbgbaaDoor.Fun
open Go.RowKit Go.Proofs.YtjbckpoepfbgbaaDoor.Pr Go.Proofs.YtjbckpoepfbgbaaDoorW.PrintWords Go.Proofs.YtjbckpoepfbgbaaDoorW.PrintLast Go.Proofs.YtjbckpoepfbgbaaDoorW.PrintMore
end Go.Proofs.YtjbckpoepfbgbaaDoor.Fun
end
section
-- Written by given.py, a program of this session, over the kit's printer.
namespace Go.Proofs.YtjbckpoepfbgbaaDoor.Pr
open Go.RowKit Go.Proofs.YtjbckpoepfbgbaaDoorW.PrintWords Go.Proofs.YtjbckpoepfbgbaaDoorW.PrintLast Go.Proofs.YtjbckpoepfbgbaaDoorW.PrintMore
attribute [local go_sem] max2_int min2_int max_two min_two max_three min_three max_four min_four
set_option linter.unusedVariables false
set_option linter.unusedSimpArgs false
end Go.Proofs.YtjbckpoepfbgbaaDoor.Pr
end
section
-- Written by given.py, a program of this session, over the kit's printer.
namespace Go.Proofs.YtjbckpoepfbgbaaDoor.Pr
open Go.RowKit Go.Proofs.YtjbckpoepfbgbaaDoorW.PrintWords Go.Proofs.YtjbckpoepfbgbaaDoorW.PrintLast Go.Proofs.YtjbckpoepfbgbaaDoorW.PrintMore
attribute [local go_sem] max2_int min2_int max_two min_two max_three min_three max_four min_four
set_option linter.unusedVariables false
set_option linter.unusedSimpArgs false
end Go.Proofs.YtjbckpoepfbgbaaDoor.Pr
end
section
/- The reference's Print writes what date.Print writes. -/
set_option linter.unusedVariables false
namespace Go.Proofs.YtjbckpoepfbgbaaDoor.Fun
open Go.RowKit Go.Proofs.YtjbckpoepfbgbaaDoor.Pr Go.Proofs.YtjbckpoepfbgbaaDoorW.PrintWords Go.Proofs.YtjbckpoepfbgbaaDoorW.PrintLast Go.Proofs.YtjbckpoepfbgbaaDoorW.PrintMore
open Go.Proofs.YtjbckpoepfbgbaaDoor.Txt
end Go.Proofs.YtjbckpoepfbgbaaDoor.Fun
end
section
/- Elements with a text, links and pages' references, as what is made anew: their cells, and where they lie. -/
set_option linter.unusedVariables false
set_option maxRecDepth 20000
namespace Go.Proofs.YtjbckpoepfbgbaaDoor.Fd
open Go.RowKit Go.Lib Go.Proofs.YtjbckpoepfbgbaaDoor.Pr Go.Proofs.YtjbckpoepfbgbaaDoor.Fun Go.Proofs.YtjbckpoepfbgbaaDoor.Txt Go.Proofs.YtjbckpoepfbgbaaDoorW.PrintWords
def atomB : ByteArray := ⟨#[104, 116, 116, 112, 58, 47, 47, 119, 119, 119, 46, 119, 51, 46, 111, 114, 103, 47, 50, 48, 48, 53, 47, 65, 116, 111, 109]⟩
/-- An element with a text. -/
def elN (sp nm tx : ByteArray) : S28 := ⟨0, sp, nm, [], [⟨1, ⟨#[]⟩, ⟨#[]⟩, [], [], tx⟩], ⟨#[]⟩⟩
/-- A link. -/
def linkN (rel href : ByteArray) : S28 := ⟨0, atomB, ⟨#[108, 105, 110, 107]⟩, [⟨⟨#[]⟩, ⟨#[114, 101, 108]⟩, rel⟩, ⟨⟨#[]⟩, ⟨#[104, 114, 101, 102]⟩, href⟩], [], ⟨#[]⟩⟩
/-- A page's reference. -/
def pageB (base : ByteArray) (k : Int) : ByteArray := (base ++ ⟨#[63, 112, 97, 103, 101, 61]⟩) ++ mk (Lib.itoa k)
/-- A node that a call made: its cells, and that all that they lead to was made since the heap was of size s. -/
def Made (s : Nat) (x : S28) (v : Value) (W : World) : Prop := ∃ v3 v4 : Value, v = .agg #[.int .i64 x.f0, .string x.f1, .string x.f2, v3, v4, .string x.f5] ∧ Kd.FK k28 W (fun k => s ≤ k) x [.int .i64 x.f0, .string x.f1, .string x.f2, v3, v4, .string x.f5]
theorem made_of {W : World} {s : Nat} {x : S28} {v3 v4 : Value} {o3 o4 : Nat → Prop} (h3 : Kd.R k61 61 W s o3 v3 x.f3) (h4 : Kd.R k28 28 W s o4 v4 x.f4) :
    Made s x (.agg #[.int .i64 x.f0, .string x.f1, .string x.f2, v3, v4, .string x.f5]) W := by
  refine ⟨v3, v4, rfl, ?_⟩
  obtain ⟨A3, c3, rfl, l3, _⟩ := Kd.R_reads h3
  obtain ⟨A4, c4, rfl, l4, _⟩ := Kd.R_reads h4
  exact k28_mkF W _ x l3 (Kd.R_F (Kd.R_mono (Kd.R_bound h3) (fun _ h => h.2.1))) l4 (Kd.R_F (Kd.R_mono (Kd.R_bound h4) (fun _ h => h.2.1)))
def MadeC (f : FuncId) (args : Array Value) (x : S28) (w : World) : Prop := Calls Tryd.prog f args w fun e w' => ∃ v : Value, e = .returned v ∧ Made w.heap.size x v w' ∧ Below w.heap.size w w'
theorem elementC (sp nm tx : ByteArray) (w : World) : MadeC 21 #[.string sp, .string nm, .string tx] (elN sp nm tx) w := by
  refine (press_Element.calls sp nm tx 0 sp nm [] [⟨1, ⟨#[]⟩, ⟨#[]⟩, [], [], tx⟩] ⟨#[]⟩ w rfl).mono ?_
  rintro e w' ⟨v3, v4, rfl, h3, h4, hb⟩
  exact ⟨_, rfl, made_of (x := elN sp nm tx) h3 h4, hb⟩
theorem titledC (tx : ByteArray) (w : World) : MadeC 22 #[.string tx] (elN atomB ⟨#[116, 105, 116, 108, 101]⟩ tx) w := by
  refine (feed_titled.calls tx 0 atomB ⟨#[116, 105, 116, 108, 101]⟩ [] [⟨1, ⟨#[]⟩, ⟨#[]⟩, [], [], tx⟩] ⟨#[]⟩ w rfl).mono ?_
  rintro e w' ⟨v3, v4, rfl, h3, h4, hb⟩
  exact ⟨_, rfl, made_of (x := elN atomB ⟨#[116, 105, 116, 108, 101]⟩ tx) h3 h4, hb⟩
theorem linkC (a b : ByteArray) (w : World) : MadeC 23 #[.string a, .string b] (linkN a b) w := by
  refine (press_Link.calls a b 0 atomB _ _ [] ⟨#[]⟩ w rfl).mono ?_
  rintro e w' ⟨v3, v4, rfl, h3, h4, hb⟩
  exact ⟨_, rfl, made_of (x := linkN a b) h3 h4, hb⟩
theorem pageC (base : ByteArray) (k : Int) (w : World) (hG : LaidW w) (hs : base.size ≤ 140737488355328) (h0 : 0 ≤ k) (h1 : k ≤ 999999999999) :
    Calls Tryd.prog 24 #[.string base, .int .i64 k] w fun e w' => e = .returned (.string (pageB base k)) ∧ Below w.heap.size w w' := by
  have hl := Lib.itoa_length_le k (by omega) (by omega)
  refine feed_page.calls base k _ w hG ?_
  unfold feed_page.f strconv_Itoa.f
  rw [if_pos (by omega), if_pos (by omega), if_pos (by omega)]
  simp only [Option.bind_some]
  rw [if_pos ?_]
  · rfl
  · rw [ByteArray.size_append]
    have : (⟨(Lib.itoa k).toArray⟩ : ByteArray).size = (Lib.itoa k).length := rfl
    rw [this]
    have : (⟨#[63, 112, 97, 103, 101, 61]⟩ : ByteArray).size = 6 := rfl
    omega
end Go.Proofs.YtjbckpoepfbgbaaDoor.Fd
end
section
/- A stable sort over lists: inserting behind equals, merging, and that merging two sorted lists sorts both. No program in sight. -/
set_option linter.unusedVariables false
set_option maxRecDepth 20000
namespace Go.Proofs.YtjbckpoepfbgbaaDoor.Mrg
open Go.Sort
variable {α : Type} (lt : α → α → Bool)
/-- Behind all that it is not less than, ahead of the first one that it is less than. -/
def ins (x : α) : List α → List α
  | [] => [x]
  | y :: l => if lt x y = true then x :: y :: l else y :: ins x l
def isort (l : List α) : List α := l.foldl (fun s x => ins lt x s) []
theorem isort_snoc (l : List α) (x : α) : isort lt (l ++ [x]) = ins lt x (isort lt l) := by unfold isort; rw [List.foldl_append]; rfl
def Srt (l : List α) : Prop := l.Pairwise fun a b => lt b a = false
def le (a b : α) : Bool := !lt b a
def mrg (L R : List α) : List α := L.merge R (le lt)
theorem mrg_nil_left (R : List α) : mrg lt [] R = R := by unfold mrg; simp
theorem mrg_nil_right (L : List α) : mrg lt L [] = L := by unfold mrg; simp
theorem mrg_cons (l r : α) (L R : List α) : mrg lt (l :: L) (r :: R) = if lt r l = true then r :: mrg lt (l :: L) R else l :: mrg lt L (r :: R) := by
  unfold mrg
  rw [List.cons_merge_cons]
  unfold le
  cases lt r l <;> simp
theorem ins_mem (x : α) (l : List α) (y : α) : y ∈ ins lt x l ↔ y = x ∨ y ∈ l := by
  induction l with
  | nil => simp [ins]
  | cons z l ih =>
    unfold ins
    split
    · simp
    · simp only [List.mem_cons, ih]
      constructor
      · rintro (h | h | h)
        · exact Or.inr (Or.inl h)
        · exact Or.inl h
        · exact Or.inr (Or.inr h)
      · rintro (h | h | h)
        · exact Or.inr (Or.inl h)
        · exact Or.inl h
        · exact Or.inr (Or.inr h)
theorem SWO.asymm {lt : α → α → Bool} (S : SWO lt) {x y : α} (h : lt x y = true) : lt y x = false := by
  cases h2 : lt y x with
  | false => rfl
  | true =>
    have := S.trans x y x h h2
    rw [S.irrefl] at this
    exact absurd this (by decide)
theorem ins_srt {lt : α → α → Bool} (S : SWO lt) (x : α) (l : List α) (h : Srt lt l) : Srt lt (ins lt x l) := by
  unfold Srt at *
  induction l with
  | nil => simp [ins]
  | cons y l ih =>
    obtain ⟨h1, h2⟩ := List.pairwise_cons.1 h
    unfold ins
    split
    · rename_i hx
      refine List.pairwise_cons.2 ⟨?_, h⟩
      intro z hz
      rcases List.mem_cons.1 hz with rfl | hz
      · exact SWO.asymm S hx
      · have := h1 z hz
        exact S.ntrans z y x this (SWO.asymm S hx)
    · rename_i hx
      refine List.pairwise_cons.2 ⟨?_, ih h2⟩
      intro z hz
      rcases (ins_mem lt x l z).1 hz with rfl | hz
      · simpa using hx
      · exact h1 z hz
theorem isort_srt {lt : α → α → Bool} (S : SWO lt) (l : List α) : Srt lt (isort lt l) := by
  unfold isort
  suffices h : ∀ (l s : List α), Srt lt s → Srt lt (l.foldl (fun s x => ins lt x s) s) from h l [] List.Pairwise.nil
  intro l
  induction l with
  | nil => intro s h; exact h
  | cons x l ih => intro s h; exact ih _ (ins_srt S x s h)
/-- One more behind the second list. -/
theorem mrg_ins {lt : α → α → Bool} (S : SWO lt) (x : α) : ∀ (L R : List α), Srt lt L → Srt lt R → mrg lt L (ins lt x R) = ins lt x (mrg lt L R)
  | [], R, _, _ => by rw [mrg_nil_left, mrg_nil_left]
  | l :: L, [], hL, _ => by
    rw [mrg_nil_right]
    show mrg lt (l :: L) [x] = ins lt x (l :: L)
    rw [mrg_cons]
    unfold ins
    by_cases h : lt x l = true
    · rw [if_pos h, if_pos h, mrg_nil_right]
    · rw [if_neg h, if_neg h]
      have := mrg_ins S x L [] (List.pairwise_cons.1 hL).2 List.Pairwise.nil
      rw [mrg_nil_right] at this
      rw [← this]; rfl
  | l :: L, r :: R, hL, hR => by
    have hL' := (List.pairwise_cons.1 hL).2
    have hR' := (List.pairwise_cons.1 hR).2
    rw [mrg_cons]
    show mrg lt (l :: L) (if lt x r = true then x :: r :: R else r :: ins lt x R) = _
    by_cases hx : lt x r = true
    · rw [if_pos hx, mrg_cons]
      by_cases hxl : lt x l = true
      · rw [if_pos hxl, mrg_cons]
        by_cases hrl : lt r l = true
        · rw [if_pos hrl]
          show _ = if lt x r = true then _ else _
          rw [if_pos hx]
        · rw [if_neg hrl]
          show _ = if lt x l = true then _ else _
          rw [if_pos hxl]
      · rw [if_neg hxl]
        have hrl : ¬ lt r l = true := fun h => hxl (S.trans x r l hx h)
        rw [if_neg hrl]
        show _ = if lt x l = true then _ else _
        rw [if_neg hxl]
        have := mrg_ins S x L (r :: R) hL' hR
        show l :: mrg lt L (x :: r :: R) = _
        rw [← this]
        show _ = l :: mrg lt L (if lt x r = true then x :: r :: R else r :: ins lt x R)
        rw [if_pos hx]
    · rw [if_neg hx, mrg_cons]
      by_cases hrl : lt r l = true
      · rw [if_pos hrl, if_pos hrl]
        show _ = if lt x r = true then _ else _
        rw [if_neg hx, ← mrg_ins S x (l :: L) R hL hR']
      · rw [if_neg hrl, if_neg hrl]
        have hxl : ¬ lt x l = true := by
          intro h
          have := S.ntrans x r l (by simpa using hx) (by simpa using hrl)
          rw [h] at this; exact absurd this (by decide)
        show _ = if lt x l = true then _ else _
        rw [if_neg hxl]
        have := mrg_ins S x L (r :: R) hL' hR
        rw [← this]
        show _ = l :: mrg lt L (if lt x r = true then x :: r :: R else r :: ins lt x R)
        rw [if_neg hx]
termination_by L R => L.length + R.length
/-- Two sorted lists merged are both sorted as one. -/
theorem mrg_isort {lt : α → α → Bool} (S : SWO lt) (A B : List α) : mrg lt (isort lt A) (isort lt B) = isort lt (A ++ B) := by
  suffices h : ∀ (B' : List α), mrg lt (isort lt A) (isort lt B'.reverse) = isort lt (A ++ B'.reverse) by simpa using h B.reverse
  intro B'
  induction B' with
  | nil => simp [isort, mrg_nil_right]
  | cons x B' ih =>
    rw [List.reverse_cons, isort_snoc, mrg_ins S x _ _ (isort_srt S A) (isort_srt S _), ih, ← List.append_assoc, isort_snoc]
/-- Both lists cut where what is ahead in the second goes ahead of what is behind in the first. -/
theorem mrg_split {lt : α → α → Bool} : ∀ (L1 R1 L2 R2 : List α), (∀ r ∈ R1, ∀ l ∈ L2, lt r l = true) → (∀ l ∈ L1, ∀ r ∈ R2, lt r l = false) → mrg lt (L1 ++ L2) (R1 ++ R2) = mrg lt L1 R1 ++ mrg lt L2 R2
  | [], [], L2, R2, _, _ => by rw [mrg_nil_left]; rfl
  | [], r :: R1, [], R2, _, _ => by rw [List.append_nil, mrg_nil_left, mrg_nil_left, mrg_nil_left]
  | [], r :: R1, l :: L2, R2, h1, h2 => by
    have ih := mrg_split [] R1 (l :: L2) R2 (fun a ha b hb => h1 a (List.mem_cons_of_mem _ ha) b hb) h2
    rw [mrg_nil_left] at ih ⊢
    rw [List.nil_append, List.cons_append, mrg_cons, if_pos (h1 r (List.mem_cons_self ..) l (List.mem_cons_self ..))]
    rw [List.nil_append] at ih
    rw [ih]; rfl
  | l :: L1, [], L2, [], _, _ => by rw [List.append_nil, mrg_nil_right, mrg_nil_right, mrg_nil_right]
  | l :: L1, [], L2, r :: R2, h1, h2 => by
    have ih := mrg_split L1 [] L2 (r :: R2) h1 (fun a ha b hb => h2 a (List.mem_cons_of_mem _ ha) b hb)
    rw [mrg_nil_right] at ih ⊢
    rw [List.nil_append, List.cons_append, mrg_cons, if_neg (by rw [h2 l (List.mem_cons_self ..) r (List.mem_cons_self ..)]; decide)]
    rw [List.nil_append] at ih
    rw [ih]; rfl
  | l :: L1, r :: R1, L2, R2, h1, h2 => by
    rw [List.cons_append, List.cons_append, mrg_cons, mrg_cons]
    by_cases h : lt r l = true
    · rw [if_pos h, if_pos h]
      have ih := mrg_split (l :: L1) R1 L2 R2 (fun a ha b hb => h1 a (List.mem_cons_of_mem _ ha) b hb) h2
      rw [List.cons_append] at ih
      rw [ih]; rfl
    · rw [if_neg h, if_neg h]
      have ih := mrg_split L1 (r :: R1) L2 R2 h1 (fun a ha b hb => h2 a (List.mem_cons_of_mem _ ha) b hb)
      rw [List.cons_append] at ih
      rw [ih]; rfl
termination_by L1 R1 _ _ => L1.length + R1.length
end Go.Proofs.YtjbckpoepfbgbaaDoor.Mrg
end
section
/- The contract of the library's exchange of two runs of a row, at members. -/
set_option linter.unusedVariables false
set_option maxRecDepth 20000
namespace Go.Proofs.YtjbckpoepfbgbaaDoor.Srt
open Go.Shelf Go.RowKit Go.Lib Go.Sort
variable {α : Type} [Inhabited α]
/-- What a program must bear for the sort's walks (members' type is 32, its size k). -/
structure Bas (P : Program) (k : Nat) : Prop where
  mixed : P.follows .mixedOrders = true
  t0 : P.underlying 0 = some (TypeDesc.tuple #[])
  a0 : ∀ w, (isAgg 0).run P w = .ok false w
  z0 : ∀ w, (Go.sizeOf 0).run P w = .ok 1 w
  v0 : ∀ w, (zeroValue 0).run P w = .ok (Value.tuple #[]) w
  t3 : P.underlying 3 = some (TypeDesc.int IntKind.i64)
  a3 : ∀ w, (isAgg 3).run P w = .ok false w
  z3 : ∀ w, (Go.sizeOf 3).run P w = .ok 1 w
  v3 : ∀ w, (zeroValue 3).run P w = .ok (Value.int IntKind.i64 0) w
  t4 : P.underlying 4 = some TypeDesc.bool
  a4 : ∀ w, (isAgg 4).run P w = .ok false w
  z4 : ∀ w, (Go.sizeOf 4).run P w = .ok 1 w
  v4 : ∀ w, (zeroValue 4).run P w = .ok (Value.bool false) w
  t24 : P.underlying 22 = some (TypeDesc.slice 40)
  a24 : ∀ w, (isAgg 22).run P w = .ok false w
  z24 : ∀ w, (Go.sizeOf 22).run P w = .ok 1 w
  v24 : ∀ w, (zeroValue 22).run P w = .ok (Value.slice none 0 0) w
  t63 : P.underlying 89 = some (TypeDesc.int IntKind.u64)
  a63 : ∀ w, (isAgg 89).run P w = .ok false w
  z63 : ∀ w, (Go.sizeOf 89).run P w = .ok 1 w
  v63 : ∀ w, (zeroValue 89).run P w = .ok (Value.int IntKind.u64 0) w
  aE : ∀ w, (isAgg 40).run P w = .ok true w
  zE : ∀ w, (Go.sizeOf 40).run P w = .ok k w
theorem bas : Bas Tryd.prog 9 := ⟨by kernel_rfl, Tryd.underlying0, Tryd.isAgg0, Tryd.sizeOf0, Tryd.zeroValue0, Tryd.underlying3, Tryd.isAgg3, Tryd.sizeOf3, Tryd.zeroValue3, Tryd.underlying4, Tryd.isAgg4, Tryd.sizeOf4, Tryd.zeroValue4, Tryd.underlying22, Tryd.isAgg22, Tryd.sizeOf22, Tryd.zeroValue22, Tryd.underlying89, Tryd.isAgg89, Tryd.sizeOf89, Tryd.zeroValue89, Tryd.isAgg40, Tryd.sizeOf40⟩
/-- n places from a on against n places from b on, one by one. -/
def swapRun (a b : Nat) : Nat → Array α → Array α
  | 0, d => d
  | n + 1, d => swp (swapRun a b n d) (a + n) (b + n)
theorem swapRun_size (a b n : Nat) (d : Array α) : (swapRun a b n d).size = d.size := by
  induction n with
  | zero => rfl
  | succ n ih => unfold swapRun; rw [size_swp, ih]
set_option maxHeartbeats 4000000 in
set_option maxRecDepth 1000000 in
theorem swapRange {P : Program} {k : Nat} (B : Bas P k) (FG : P.funcs[100]? = some Tryd.f100) (enc : α → List Value) (g : Nat) (cb : Array Value) (blk off cap a b n : Nat) (d0 d : Array α) (w0 w : World)
    (R : RowK enc k w0 blk off d0) (hs : d0.size = d.size) (S : SWK enc k w0 blk off d w) (ha : a + n ≤ d.size) (hb : b + n ≤ d.size) (hsz : d.size < 4611686018427387904) :
    Calls P 100 #[.slice (some ⟨blk, off, none⟩) d.size cap, .int .i64 a, .int .i64 b, .int .i64 n, .func (.func g) #[] cb] w fun e w' => e = .returned (.tuple #[]) ∧ SWK enc k w0 blk off (swapRun a b n d) w' := by
  have mixed := B.mixed; have t0 := B.t0; have a0 := B.a0; have z0 := B.z0; have v0 := B.v0; have t3 := B.t3; have a3 := B.a3; have z3 := B.z3; have v3 := B.v3; have t4 := B.t4; have a4 := B.a4; have z4 := B.z4; have v4 := B.v4; have t24 := B.t24; have a24 := B.a24; have z24 := B.z24; have v24 := B.v24; have t63 := B.t63; have a63 := B.a63; have z63 := B.z63; have v63 := B.v63; have aE := B.aE; have zE := B.zE
  have S0 : Aside (SWK enc k w0 blk off d w) := S
  clear S
  go_enter FG, Tryd.ntmps100
  go_wp2
  go_loopg [10] n (fun kx s10 wr => ∃ (i : Nat) (dk : Array α), s10 = .int .i64 i ∧ i ≤ n ∧ n - i ≤ kx ∧ dk = swapRun a b i d ∧ Aside (SWK enc k w0 blk off dk wr))
  case atStart => exact ⟨0, d, rfl, Nat.zero_le _, Nat.le_refl _, rfl, S0⟩
  case round =>
    clear S0
    obtain ⟨i, dk, rfl, hin, hkx, hdk, S1⟩ := hrel
    have hds : dk.size = d.size := by rw [hdk, swapRun_size]
    by_cases hlt : (i : Int) < (n : Int)
    · go_wp2_with fail
      have ea44 : ((a : Int) + (i : Int)).toNat = a + i := by omega
      have pa44 : (0 : Int) ≤ (a : Int) + (i : Int) := by omega
      have ba44 : (a : Int) + (i : Int) < (d.size : Int) := by omega
      have ra44 : IntKind.i64.wrap ((a : Int) + (i : Int)) = (a : Int) + (i : Int) := by rw [IntKind.wrap_i64]; omega
      have ec44 : ((b : Int) + (i : Int)).toNat = b + i := by omega
      have pc44 : (0 : Int) ≤ (b : Int) + (i : Int) := by omega
      have bc44 : (b : Int) + (i : Int) < (d.size : Int) := by omega
      have rc44 : IntKind.i64.wrap ((b : Int) + (i : Int)) = (b : Int) + (i : Int) := by rw [IntKind.wrap_i64]; omega
      have S2 : Aside (SWK enc k w0 blk off (swp dk (a + i) (b + i)) ((wr.drew.setCells blk (off + (a + i) * k) (enc dk[b + i]!)).setCells blk (off + (b + i) * k) (enc dk[a + i]!))) := S1.out.swapped R (a + i) (b + i) (by omega) (by omega)
      have l44a := S1.out.ld1 R (by omega) P (a + i) (by omega)
      have l44b := S1.out.ld1 R (by omega) P (b + i) (by omega)
      have s44a := S1.out.st1 R (by omega) P (a + i) (by omega) dk[b + i]!
      have s44b := S1.out.st2 R (by omega) P (a + i) (b + i) (by omega) (by omega) dk[b + i]! dk[a + i]!
      have n44a : (enc dk[a + i]!).length = k := R.hk _
      have n44b : (enc dk[b + i]!).length = k := R.hk _
      generalize enc dk[a + i]! = cI44 at S2 l44a s44b n44a
      generalize enc dk[b + i]! = cJ44 at S2 l44b s44a s44b n44b
      clear S1
      go_wp2_with fail
      go_big_region_o
      clear l44a l44b s44a s44b
      generalize (wr.drew.setCells blk (off + (a + i) * k) cJ44).setCells blk (off + (b + i) * k) cI44 = w2 at S2 ⊢
      go_wp2
      go_roundg (n - (i + 1))
      case measure => omega
      case rel => exact ⟨i + 1, swp dk (a + i) (b + i), by simp, by omega, Nat.le_refl _, by rw [hdk]; rfl, S2⟩
    · go_wp2
      go_end0
      obtain rfl : i = n := by omega
      rw [← hdk]
      exact ⟨rfl, S1.out⟩
end Go.Proofs.YtjbckpoepfbgbaaDoor.Srt
end
section
/- Exchanges of runs, and the turning of two neighbours, as lists. No program in sight. -/
set_option linter.unusedVariables false
set_option maxRecDepth 20000
namespace Go.Proofs.YtjbckpoepfbgbaaDoor.Srt
open Go.Sort
variable {α : Type} [Inhabited α]
theorem swp_list (d : Array α) (Q M R : List α) (x y : α) (i j : Nat) (h : d.toList = Q ++ x :: (M ++ y :: R)) (hi : i = Q.length) (hj : j = Q.length + 1 + M.length) : (swp d i j).toList = Q ++ y :: (M ++ x :: R) := by
  have hx : d[i]! = x := by
    have : d.toList[i]? = some x := by rw [h, hi]; simp
    rw [Array.getElem?_toList] at this
    rw [Array.getElem!_eq_getD, Array.getD_eq_getD_getElem?, this]; rfl
  have hy : d[j]! = y := by
    have : d.toList[j]? = some y := by
      rw [h, hj, List.getElem?_append_right (by omega), show Q.length + 1 + M.length - Q.length = M.length + 1 by omega]
      simp
    rw [Array.getElem?_toList] at this
    rw [Array.getElem!_eq_getD, Array.getD_eq_getD_getElem?, this]; rfl
  unfold swp
  rw [hx, hy]
  simp only [Array.toList_setIfInBounds, h]
  rw [hi, hj, List.set_append_right _ _ (Nat.le_refl _), Nat.sub_self, List.set_cons_zero, List.set_append_right _ _ (by omega), show Q.length + 1 + M.length - Q.length = M.length + 1 by omega, List.set_cons_succ, List.set_append_right _ _ (Nat.le_refl _), Nat.sub_self, List.set_cons_zero]
theorem swapRun_list (n : Nat) : ∀ (d : Array α) (A X M Y B : List α) (a b : Nat), d.toList = A ++ X ++ M ++ Y ++ B → X.length = n → Y.length = n → a = A.length → b = A.length + n + M.length → (swapRun a b n d).toList = A ++ Y ++ M ++ X ++ B := by
  induction n with
  | zero =>
    intro d A X M Y B a b h hX hY ha hb
    rw [List.length_eq_zero_iff.1 hX, List.length_eq_zero_iff.1 hY] at h ⊢
    exact h
  | succ n ih =>
    intro d A X M Y B a b h hX hY ha hb
    have eX : X ≠ [] := by intro e; rw [e] at hX; simp at hX
    have eY : Y ≠ [] := by intro e; rw [e] at hY; simp at hY
    obtain ⟨X0, x, rfl⟩ : ∃ l c, X = l ++ [c] := ⟨X.dropLast, X.getLast eX, (List.dropLast_concat_getLast eX).symm⟩
    obtain ⟨Y0, y, rfl⟩ : ∃ l c, Y = l ++ [c] := ⟨Y.dropLast, Y.getLast eY, (List.dropLast_concat_getLast eY).symm⟩
    have hX0 : X0.length = n := by simpa using hX
    have hY0 : Y0.length = n := by simpa using hY
    have := ih d A X0 ([x] ++ M) Y0 ([y] ++ B) a b (by rw [h]; simp) hX0 hY0 ha (by rw [hb]; simp; omega)
    unfold swapRun
    rw [swp_list _ (A ++ Y0) (M ++ X0) B x y _ _ (by rw [this]; simp) (by simp; omega) (by simp; omega)]
    simp
/-- The library's turning of two neighbours (i places ahead of m, j from m on). -/
def rotLoop (m : Nat) : Nat → Nat → Nat → Array α → Array α
  | 0, _, _, d => d
  | q + 1, i, j, d => if i = j then swapRun (m - i) m i d else if j < i then rotLoop m q (i - j) j (swapRun (m - i) m j d) else rotLoop m q i (j - i) (swapRun (m - i) (m + j - i) i d)
theorem rotLoop_size (m q : Nat) : ∀ (i j : Nat) (d : Array α), (rotLoop m q i j d).size = d.size := by
  induction q with
  | zero => intro i j d; rfl
  | succ q ih =>
    intro i j d
    unfold rotLoop
    split
    · exact swapRun_size _ _ _ _
    · split
      · rw [ih, swapRun_size]
      · rw [ih, swapRun_size]
theorem rot_list (q : Nat) : ∀ (i j m : Nat) (d : Array α) (A X Y B : List α), i + j ≤ q → 1 ≤ i → 1 ≤ j → d.toList = A ++ X ++ Y ++ B → X.length = i → Y.length = j → m = A.length + i → (rotLoop m q i j d).toList = A ++ Y ++ X ++ B := by
  induction q with
  | zero => intro i j m d A X Y B hq hi; omega
  | succ q ih =>
    intro i j m d A X Y B hq hi hj h hX hY hm
    unfold rotLoop
    by_cases e : i = j
    · rw [if_pos e]
      have := swapRun_list i d A X [] Y B (m - i) m (by rw [h]; simp) hX (by omega) (by omega) (by simp; omega)
      rw [this]; simp
    · rw [if_neg e]
      by_cases g : j < i
      · rw [if_pos g]
        have e1 : X = X.take j ++ X.drop j := (List.take_append_drop j X).symm
        have l1 : (X.take j).length = j := by rw [List.length_take]; omega
        have l2 : (X.drop j).length = i - j := by rw [List.length_drop]; omega
        generalize X.take j = X1 at e1 l1
        generalize X.drop j = X2 at e1 l2
        subst e1
        have s1 := swapRun_list j d A X1 X2 Y B (m - i) m (by rw [h]; simp) l1 hY (by omega) (by omega)
        have s2 := ih (i - j) j m _ (A ++ Y) X2 X1 B (by omega) (by omega) hj s1 l2 l1 (by simp; omega)
        rw [s2]; simp
      · rw [if_neg g]
        have e1 : Y = Y.take (j - i) ++ Y.drop (j - i) := (List.take_append_drop (j - i) Y).symm
        have l1 : (Y.take (j - i)).length = j - i := by rw [List.length_take]; omega
        have l2 : (Y.drop (j - i)).length = i := by rw [List.length_drop]; omega
        generalize Y.take (j - i) = Y1 at e1 l1
        generalize Y.drop (j - i) = Y2 at e1 l2
        subst e1
        have s1 := swapRun_list i d A X Y1 Y2 B (m - i) (m + j - i) (by rw [h]; simp) hX l2 (by omega) (by omega)
        have s2 := ih i (j - i) m (swapRun (m - i) (m + j - i) i d) A Y2 Y1 (X ++ B) (by omega) hi (by omega) (by rw [s1]; simp) l2 l1 hm
        rw [s2]; simp
end Go.Proofs.YtjbckpoepfbgbaaDoor.Srt
end
section
/- What the library's merging in place looks for, as lists: where two sorted neighbours are cut. No program in sight. -/
set_option linter.unusedVariables false
set_option maxRecDepth 20000
set_option linter.unusedSectionVars false
namespace Go.Proofs.YtjbckpoepfbgbaaDoor.Srt
open Go.Sort Go.Proofs.YtjbckpoepfbgbaaDoor.Mrg
variable {α : Type} [Inhabited α]
/-- An element of a row that is a list in parts. -/
theorem at_list (d : Array α) (A X B : List α) (h : d.toList = A ++ X ++ B) (t : Nat) (ht : t < X.length) : d[A.length + t]! = X[t]! := by
  have h1 : d.toList[A.length + t]? = X[t]? := by
    rw [h, List.append_assoc, List.getElem?_append_right (by omega), Nat.add_sub_cancel_left, List.getElem?_append_left ht]
  rw [Array.getElem?_toList] at h1
  rw [Array.getElem!_eq_getD, Array.getD_eq_getD_getElem?, h1, List.getElem!_eq_getElem?_getD]
/-- One element ahead of a sorted list. -/
theorem mrg_one_left (lt : α → α → Bool) (x : α) (R1 R2 : List α) (h1 : ∀ r ∈ R1, lt r x = true) (h2 : ∀ r ∈ R2, lt r x = false) : mrg lt [x] (R1 ++ R2) = R1 ++ x :: R2 := by
  have := mrg_split (lt := lt) [] R1 [x] R2 (fun r hr l hl => by rw [List.mem_singleton.1 hl]; exact h1 r hr) (fun l hl => absurd hl (by simp))
  rw [List.nil_append, mrg_nil_left] at this
  rw [this]
  congr 1
  cases R2 with
  | nil => exact mrg_nil_right lt [x]
  | cons r R2 => rw [mrg_cons, if_neg (by rw [h2 r (List.mem_cons_self ..)]; decide), mrg_nil_left]
/-- One element behind a sorted list. -/
theorem mrg_one_right (lt : α → α → Bool) (y : α) (L1 L2 : List α) (h1 : ∀ l ∈ L1, lt y l = false) (h2 : ∀ l ∈ L2, lt y l = true) : mrg lt (L1 ++ L2) [y] = L1 ++ y :: L2 := by
  have := mrg_split (lt := lt) L1 [] L2 [y] (fun r hr => absurd hr (by simp)) (fun l hl r hr => by rw [List.mem_singleton.1 hr]; exact h1 l hl)
  rw [List.nil_append, mrg_nil_right] at this
  rw [this]
  congr 1
  cases L2 with
  | nil => exact mrg_nil_left lt [y]
  | cons l L2 => rw [mrg_cons, if_pos (h2 l (List.mem_cons_self ..)), mrg_nil_right]
theorem srt_at {lt : α → α → Bool} (X : List α) (h : Srt lt X) (t u : Nat) (htu : t < u) (hu : u < X.length) : lt X[u]! X[t]! = false := by
  have := List.pairwise_iff_getElem.1 h t u (by omega) hu htu
  rw [List.getElem!_eq_getElem?_getD, List.getElem!_eq_getElem?_getD, List.getElem?_eq_getElem hu, List.getElem?_eq_getElem (show t < X.length by omega)]
  exact this
theorem srt_le {lt : α → α → Bool} (S : SWO lt) (X : List α) (h : Srt lt X) (t u : Nat) (htu : t ≤ u) (hu : u < X.length) : lt X[u]! X[t]! = false := by
  rcases Nat.lt_or_eq_of_le htu with h1 | h1
  · exact srt_at X h t u h1 hu
  · rw [h1]; exact S.irrefl _
theorem lt_up {lt : α → α → Bool} (S : SWO lt) {r l0 l : α} (h : lt r l0 = true) (h2 : lt l l0 = false) : lt r l = true := by
  cases e : lt r l with
  | true => rfl
  | false => have := S.ntrans r l l0 e h2; rw [h] at this; exact absurd this (by decide)
theorem lt_down {lt : α → α → Bool} (S : SWO lt) {r r0 l : α} (h : lt r0 l = true) (h2 : lt r0 r = false) : lt r l = true := by
  cases e : lt r l with
  | true => rfl
  | false => have := S.ntrans r0 r l h2 e; rw [h] at this; exact absurd this (by decide)
theorem mem_take_at (X : List α) (k : Nat) (x : α) (h : x ∈ X.take k) : ∃ t, t < k ∧ t < X.length ∧ X[t]! = x := by
  obtain ⟨t, ht, e⟩ := List.getElem_of_mem h
  rw [List.length_take] at ht
  refine ⟨t, by omega, by omega, ?_⟩
  rw [List.getElem_take] at e
  rw [List.getElem!_eq_getElem?_getD, List.getElem?_eq_getElem (by omega)]; exact e
theorem mem_drop_at (X : List α) (k : Nat) (x : α) (h : x ∈ X.drop k) : ∃ t, k ≤ t ∧ t < X.length ∧ X[t]! = x := by
  obtain ⟨t, ht, e⟩ := List.getElem_of_mem h
  rw [List.length_drop] at ht
  refine ⟨k + t, by omega, by omega, ?_⟩
  rw [List.getElem_drop] at e
  rw [List.getElem!_eq_getElem?_getD, List.getElem?_eq_getElem (by omega)]; exact e
/-- Where the search ends, in places of the two lists (i of the first ahead of the cut, j of the second): all of the second's ahead of it go ahead of all of the first's behind it, and none of the second's behind it goes ahead of one of the first's ahead of it. -/
theorem cut {lt : α → α → Bool} (S : SWO lt) (L R : List α) (hL : Srt lt L) (hR : Srt lt R) (i j : Nat)
    (h1 : i < L.length → 0 < j → lt R[j - 1]! L[i]! = true ∧ j ≤ R.length) (h2 : 0 < i → j < R.length → lt R[j]! L[i - 1]! = false ∧ i ≤ L.length) :
    (∀ r ∈ R.take j, ∀ l ∈ L.drop i, lt r l = true) ∧ (∀ l ∈ L.take i, ∀ r ∈ R.drop j, lt r l = false) := by
  constructor
  · intro r hr l hl
    obtain ⟨u, u1, u2, rfl⟩ := mem_take_at R j r hr
    obtain ⟨t, t1, t2, rfl⟩ := mem_drop_at L i l hl
    obtain ⟨q1, q2⟩ := h1 (by omega) (by omega)
    exact lt_up S (lt_down S q1 (srt_le S R hR u (j - 1) (by omega) (by omega))) (srt_le S L hL i t t1 t2)
  · intro l hl r hr
    obtain ⟨t, t1, t2, rfl⟩ := mem_take_at L i l hl
    obtain ⟨u, u1, u2, rfl⟩ := mem_drop_at R j r hr
    obtain ⟨q1, q2⟩ := h2 (by omega) (by omega)
    cases e : lt R[u]! L[t]! with
    | false => rfl
    | true =>
      have a := lt_up S e (srt_le S L hL t (i - 1) (by omega) (by omega))
      have b := lt_down S a (srt_le S R hR j u u1 u2)
      rw [q1] at b; exact absurd b (by decide)
end Go.Proofs.YtjbckpoepfbgbaaDoor.Srt
end
section
/- The contract of the library's turning of two neighbours, at members. -/
set_option linter.unusedVariables false
set_option maxRecDepth 20000
namespace Go.Proofs.YtjbckpoepfbgbaaDoor.Srt
open Go.Shelf Go.RowKit Go.Lib Go.Sort
variable {α : Type} [Inhabited α]
set_option maxHeartbeats 4000000 in
set_option maxRecDepth 1000000 in
theorem rotate {P : Program} {k : Nat} (B : Bas P k) (FG : P.funcs[87]? = some Tryd.f87) (FS : P.funcs[100]? = some Tryd.f100) (enc : α → List Value) (g : Nat) (cb : Array Value) (blk off cap a m b : Nat) (d0 d : Array α) (w0 w : World)
    (R : RowK enc k w0 blk off d0) (hs : d0.size = d.size) (S : SWK enc k w0 blk off d w) (ha : a < m) (hb : m < b) (hb2 : b ≤ d.size) (hsz : d.size < 4611686018427387904) :
    Calls P 87 #[.slice (some ⟨blk, off, none⟩) d.size cap, .int .i64 a, .int .i64 m, .int .i64 b, .func (.func g) #[] cb] w fun e w' => e = .returned (.tuple #[]) ∧ SWK enc k w0 blk off (rotLoop m (b - a) (m - a) (b - m) d) w' := by
  have mixed := B.mixed; have t0 := B.t0; have a0 := B.a0; have z0 := B.z0; have v0 := B.v0; have t3 := B.t3; have a3 := B.a3; have z3 := B.z3; have v3 := B.v3; have t4 := B.t4; have a4 := B.a4; have z4 := B.z4; have v4 := B.v4; have t24 := B.t24; have a24 := B.a24; have z24 := B.z24; have v24 := B.v24; have t63 := B.t63; have a63 := B.a63; have z63 := B.z63; have v63 := B.v63; have aE := B.aE; have zE := B.zE
  have S0 : Aside (SWK enc k w0 blk off d w) := S
  clear S
  go_enter FG, Tryd.ntmps87
  go_wp2
  have E33 : ∀ args w, (callFunc 100 args).run P w = .ok (.enter 100 args) w := enters_of FS (by kernel_rfl) rfl
  go_loopg [10, 11] (b - a) (fun kx s10 s11 wr => ∃ (i j q : Nat) (dk : Array α), s10 = .int .i64 i ∧ s11 = .int .i64 j ∧ 1 ≤ i ∧ 1 ≤ j ∧ i ≤ m - a ∧ j ≤ b - m ∧ i + j ≤ kx ∧ i + j ≤ q ∧ dk.size = d.size ∧ rotLoop m q i j dk = rotLoop m (b - a) (m - a) (b - m) d ∧ Aside (SWK enc k w0 blk off dk wr))
  case atStart => exact ⟨m - a, b - m, b - a, d, by go_num, by go_num, by omega, by omega, by omega, by omega, by omega, by omega, rfl, rfl, S0⟩
  case round =>
    clear S0
    obtain ⟨i, j, q, dk, rfl, rfl, hi, hj, hia, hjb, hkx, hq, hds, heq, S1⟩ := hrel
    obtain ⟨q, rfl⟩ : ∃ x, q = x + 1 := ⟨q - 1, by omega⟩
    rw [rotLoop] at heq
    have HQ := Lib.hid heq
    clear heq
    have em : (m : Int) - (i : Int) = ((m - i : Nat) : Int) := by omega
    have C := fun (a b n : Nat) (h1 : a + n ≤ dk.size) (h2 : b + n ≤ dk.size) => swapRange B FS enc g cb blk off cap a b n d0 dk w0 wr R (by omega) S1.out h1 h2 (by omega)
    rw [hds] at C
    clear S1
    by_cases e : i = j
    · subst e
      have C1 := C (m - i) m i (by omega) (by omega)
      clear C
      go_wp2_with (go_at_fn 100; refine C1.mono ?_; rintro e w2 ⟨rfl, S2⟩)
      go_end0
      have := HQ.out
      rw [if_pos trivial] at this
      rw [← this]
      exact ⟨rfl, S2⟩
    · have ez : ¬ ((i : Int) = (j : Int)) := by omega
      by_cases lt : j < i
      · have ltz : (j : Int) < (i : Int) := by omega
        have C1 := C (m - i) m j (by omega) (by omega)
        clear C
        go_wp2_with (go_at_fn 100; refine C1.mono ?_; rintro e w2 ⟨rfl, S2⟩)
        go_roundg (i - j + j)
        case measure => omega
        case rel => exact ⟨i - j, j, q, _, by go_num, rfl, by omega, hj, by omega, hjb, by omega, by omega, by rw [swapRun_size, hds], by have := HQ.out; rw [if_neg e, if_pos lt] at this; exact this, S2⟩
      · have ltz : ¬ ((j : Int) < (i : Int)) := by omega
        have em2 : (m : Int) + (j : Int) - (i : Int) = ((m + j - i : Nat) : Int) := by omega
        have C1 := C (m - i) (m + j - i) i (by omega) (by omega)
        clear C
        go_wp2_with (go_at_fn 100; refine C1.mono ?_; rintro e w2 ⟨rfl, S2⟩)
        go_roundg (i + (j - i))
        case measure => omega
        case rel => exact ⟨i, j - i, q, _, rfl, by go_num, hi, by omega, hia, by omega, by omega, by omega, by rw [swapRun_size, hds], by have := HQ.out; rw [if_neg e, if_neg lt] at this; exact this, S2⟩
end Go.Proofs.YtjbckpoepfbgbaaDoor.Srt
end
section
/- The library's merging in place, where one of the two neighbours has one element alone. -/
set_option linter.unusedVariables false
set_option maxRecDepth 20000
set_option linter.unusedSectionVars false
namespace Go.Proofs.YtjbckpoepfbgbaaDoor.Srt
open Go.Shelf Go.RowKit Go.Lib Go.Sort Go.Proofs.YtjbckpoepfbgbaaDoor.Mrg
variable {α : Type} [Inhabited α]
theorem swp_comm (d : Array α) (i j : Nat) (h : i ≠ j) : swp d i j = swp d j i := by
  unfold swp
  exact Array.setIfInBounds_comm _ _ h
theorem bub_right (dk : Array α) (A X S : List α) (x : α) (t : Nat) (h : dk.toList = A ++ X.take t ++ x :: (X.drop t ++ S)) (ht : t < X.length) :
    (swp dk (A.length + t) (A.length + t + 1)).toList = A ++ X.take (t + 1) ++ x :: (X.drop (t + 1) ++ S) := by
  have e : X.drop t = X[t] :: X.drop (t + 1) := List.drop_eq_getElem_cons ht
  rw [e] at h
  rw [swp_list dk (A ++ X.take t) [] (X.drop (t + 1) ++ S) x X[t] _ _ (by rw [h]; simp only [List.append_assoc, List.cons_append, List.nil_append]) (by simp; omega) (by simp; omega)]
  rw [List.take_succ_eq_append_getElem ht]; simp only [List.append_assoc, List.cons_append, List.nil_append]
theorem bub_left (dk : Array α) (A X S : List α) (x : α) (t : Nat) (h : dk.toList = A ++ X.take (t + 1) ++ x :: (X.drop (t + 1) ++ S)) (ht : t < X.length) :
    (swp dk (A.length + t + 1) (A.length + t)).toList = A ++ X.take t ++ x :: (X.drop t ++ S) := by
  rw [swp_comm _ _ _ (by omega)]
  have e : X.drop t = X[t] :: X.drop (t + 1) := List.drop_eq_getElem_cons ht
  rw [List.take_succ_eq_append_getElem ht] at h
  rw [swp_list dk (A ++ X.take t) [] (X.drop (t + 1) ++ S) X[t] x _ _ (by rw [h]; simp only [List.append_assoc, List.cons_append, List.nil_append]) (by simp; omega) (by simp; omega)]
  rw [e]; simp only [List.append_assoc, List.cons_append, List.nil_append]
set_option maxHeartbeats 4000000 in
set_option maxRecDepth 1000000 in
theorem sym_left {P : Program} {k : Nat} (B : Bas P k) (FG : P.funcs[73]? = some Tryd.f73) (enc : α → List Value) (cf : α → α → Int) (g : Nat) (cb : Array Value) (blk off cap a m b : Nat) (d0 d : Array α) (w0 w : World)
    (eg : ∀ args w, (callFunc g args).run P w = .ok (.enter g args) w) (hcmp : CmpLays P g cb enc k cf blk off d0.size w0) (SO : SWO (ltOf cf))
    (R : RowK enc k w0 blk off d0) (hs : d0.size = d.size) (S : SWK enc k w0 blk off d w) (A Y C : List α) (x : α) (hd : d.toList = A ++ [x] ++ Y ++ C) (hA : A.length = a) (hm : m = a + 1) (hb : b = m + Y.length) (hY : Srt (ltOf cf) Y) (hsz : d.size < 4611686018427387904) :
    Calls P 73 #[.slice (some ⟨blk, off, none⟩) d.size cap, .int .i64 a, .int .i64 m, .int .i64 b, .func (.func g) #[] cb] w fun e w' => e = .returned (.tuple #[]) ∧ ∃ d' : Array α, d'.toList = A ++ mrg (ltOf cf) [x] Y ++ C ∧ d'.size = d.size ∧ SWK enc k w0 blk off d' w' := by
  have mixed := B.mixed; have t0 := B.t0; have a0 := B.a0; have z0 := B.z0; have v0 := B.v0; have t3 := B.t3; have a3 := B.a3; have z3 := B.z3; have v3 := B.v3; have t4 := B.t4; have a4 := B.a4; have z4 := B.z4; have v4 := B.v4; have t24 := B.t24; have a24 := B.a24; have z24 := B.z24; have v24 := B.v24; have t63 := B.t63; have a63 := B.a63; have z63 := B.z63; have v63 := B.v63; have aE := B.aE; have zE := B.zE
  have S0 : Aside (SWK enc k w0 blk off d w) := S
  clear S
  have HC : Aside _ := hcmp
  clear hcmp
  have hlen : d.size = a + 1 + Y.length + C.length := by rw [← Array.length_toList, hd]; simp; omega
  have dx : d[a]! = x := by
    have := at_list d A [x] (Y ++ C) (by rw [hd]; simp) 0 (by simp)
    rw [hA] at this; exact this
  have dy : ∀ t, t < Y.length → d[a + 1 + t]! = Y[t]! := fun t ht => by
    have := at_list d (A ++ [x]) Y C (by rw [hd]) t ht
    rw [List.length_append, hA] at this; exact this
  have HD : Hid (d.toList = A ++ [x] ++ Y ++ C ∧ A.length = a ∧ Srt (ltOf cf) Y ∧ d[a]! = x ∧ ∀ t, t < Y.length → d[a + 1 + t]! = Y[t]!) := ⟨hd, hA, hY, dx, dy⟩
  clear hd hA hY dx dy
  have HS : Hid (d0.size = d.size ∧ d.size = a + 1 + Y.length + C.length) := ⟨hs, hlen⟩
  have bs : b ≤ d.size := by omega
  clear hs hlen
  have q1 : ((m : Int) - (a : Int) == 1) = true := by simp; omega
  have HB := Lib.hid hb
  have HM := Lib.hid hm
  have b1 : b ≤ a + 1 + Y.length := by omega
  have b2 : a + 1 + Y.length ≤ b := by omega
  have m1 : m ≤ a + 1 := by omega
  have m2 : a + 1 ≤ m := by omega
  clear hb hm
  go_enter FG, Tryd.ntmps73
  go_wp2
  go_loopg [10, 11, 12] (b - m) (fun kx s10 s11 s12 wr => ∃ i j : Nat, s10 = .int .i64 i ∧ s11 = .int .i64 j ∧ m ≤ i ∧ i ≤ j ∧ j ≤ b ∧ j - i ≤ kx ∧ Aside (SWK enc k w0 blk off d wr) ∧ Hid ((m < i → ltOf cf d[i - 1]! d[a]! = true) ∧ (j < b → ltOf cf d[j]! d[a]! = false)))
  case atStart => exact ⟨m, b, rfl, rfl, Nat.le_refl _, by omega, Nat.le_refl _, by omega, S0, ⟨fun h => by omega, fun h => by omega⟩⟩
  case round =>
    clear S0
    obtain ⟨i, j, rfl, rfl, hai, hij, hjb, hkx, S1, I⟩ := hrel
    by_cases hlt : (i : Int) < (j : Int)
    · obtain ⟨h, hh⟩ : ∃ h : Nat, h = (i + j) / 2 := ⟨_, rfl⟩
      have eh : ((i : Int) + (j : Int)) / 2 = (h : Int) := by omega
      have h1 : i ≤ h := by omega
      have h2 : h < j := by omega
      clear hh
      have ea : ((h : Int)).toNat = h := by omega
      have pa : (0 : Int) ≤ (h : Int) := by omega
      have ba : (h : Int) < (d.size : Int) := by omega
      have ra : IntKind.i64.wrap ((h : Int)) = (h : Int) := by rw [IntKind.wrap_i64]; omega
      have ec : ((a : Int)).toNat = a := by omega
      have pc : (0 : Int) ≤ (a : Int) := by omega
      have bc : (a : Int) < (d.size : Int) := by omega
      have rc : IntKind.i64.wrap ((a : Int)) = (a : Int) := by rw [IntKind.wrap_i64]; omega
      have hs := HS.out.1
      obtain ⟨xh, hxh⟩ : ∃ x, x = d[h]! := ⟨_, rfl⟩
      obtain ⟨xa, hxa⟩ : ∃ x, x = d[a]! := ⟨_, rfl⟩
      have la := S1.out.ld R (by omega) P h (by omega)
      have lb := S1.out.ld R (by omega) P a (by omega)
      rw [← hxh] at la
      rw [← hxa] at lb
      have hc := S1.out.cmp HC.out (by omega) xh xa
      clear hs
      cases hv : ltOf cf xh xa
      case' true =>
        have hv2 : cf xh xa < 0 := of_decide_eq_true hv
      case' false =>
        have hv2 : ¬ cf xh xa < 0 := of_decide_eq_false hv
      all_goals
        rw [hxh, hxa] at hv
        have HV := Lib.hid hv
        clear hv hxh hxa
        go_wp2_with fail
        go_quiet_grown (first | (go_at_fn g; refine Calls.grown_of (hc _ _)))
        have S2 : Aside (SWK enc k w0 blk off d (grow (wr.drewN nq) osq)) := S1.out.grown nq osq
        clear la lb hc S1
        generalize grow (wr.drewN nq) osq = wu2 at S2 ⊢
        clear nq osq
        go_wp2
      · go_roundg (h - i)
        case measure => omega
        case rel => exact ⟨i, h, rfl, rfl, hai, h1, by omega, Nat.le_refl _, S2, ⟨I.out.1, fun _ => HV.out⟩⟩
      · go_roundg (j - (h + 1))
        case measure => omega
        case rel => exact ⟨h + 1, j, by go_num, rfl, by omega, by omega, hjb, Nat.le_refl _, S2, ⟨fun _ => HV.out, I.out.2⟩⟩
    · obtain rfl : i = j := by omega
      clear hlt hij
      obtain ⟨n, hin⟩ : ∃ n, i = a + 1 + n := ⟨i - (a + 1), by omega⟩
      have hn : n ≤ Y.length := by omega
      have HY : Hid ((∀ r ∈ Y.take n, ltOf cf r x = true) ∧ (∀ r ∈ Y.drop n, ltOf cf r x = false)) := by
        obtain ⟨hd, hA, hY, dx, dy⟩ := HD.out
        constructor
        · intro r hr
          obtain ⟨u, u1, u2, rfl⟩ := mem_take_at Y n r hr
          have h0 := I.out.1 (by omega)
          rw [dx, show i - 1 = a + 1 + (n - 1) by omega, dy _ (by omega)] at h0
          exact lt_down SO h0 (srt_le SO Y hY u (n - 1) (by omega) (by omega))
        · intro r hr
          obtain ⟨u, u1, u2, rfl⟩ := mem_drop_at Y n r hr
          have h0 := I.out.2 (by omega)
          rw [dx, hin, dy _ (by omega)] at h0
          cases e : ltOf cf Y[u]! x with
          | false => rfl
          | true =>
            have := lt_down SO e (srt_le SO Y hY n u u1 u2)
            rw [h0] at this; exact absurd this (by decide)
      clear I
      have ln : (Y.take n).length = n := by rw [List.length_take]; omega
      have LN := Lib.hid ln
      clear ln
      have i1 : i ≤ a + 1 + n := by omega
      have i2 : a + 1 + n ≤ i := by omega
      clear hin
      go_wp2
      go_loopg [13] (n + 1) (fun kx s13 w1 => ∃ (t q : Nat) (dk : Array α), s13 = .int .i64 q ∧ q ≤ a + t ∧ a + t ≤ q ∧ t ≤ n ∧ n - t ≤ kx ∧ dk.size = d.size ∧ Aside (SWK enc k w0 blk off dk w1) ∧ Hid (dk.toList = A ++ (Y.take n).take t ++ x :: ((Y.take n).drop t ++ (Y.drop n ++ C))))
      case atStart => exact ⟨0, a, d, rfl, Nat.le_refl _, Nat.le_refl _, Nat.zero_le _, by omega, rfl, S1, by show _ = _; rw [HD.out.1, List.take_zero, List.drop_zero, ← List.append_assoc (Y.take n), List.take_append_drop]; simp⟩
      case round =>
        clear S1
        obtain ⟨t, q, dk, rfl, hq1, hq2, htn, hkx2, hsk, S1, HL⟩ := hrel
        by_cases htl : t < n
        · have q2 : (q : Int) < (i : Int) - 1 := by omega
          have ea44 : ((q : Int)).toNat = q := by omega
          have pa44 : (0 : Int) ≤ (q : Int) := by omega
          have ba44 : (q : Int) < (d.size : Int) := by omega
          have ra44 : IntKind.i64.wrap ((q : Int)) = (q : Int) := by rw [IntKind.wrap_i64]; omega
          have ec44 : ((q : Int) + 1).toNat = q + 1 := by omega
          have pc44 : (0 : Int) ≤ (q : Int) + 1 := by omega
          have bc44 : (q : Int) + 1 < (d.size : Int) := by omega
          have rc44 : IntKind.i64.wrap ((q : Int) + 1) = (q : Int) + 1 := by rw [IntKind.wrap_i64]; omega
          have hs := HS.out.1
          have S2 : Aside (SWK enc k w0 blk off (swp dk q (q + 1)) ((wr.drew.setCells blk (off + q * k) (enc dk[q + 1]!)).setCells blk (off + (q + 1) * k) (enc dk[q]!))) := S1.out.swapped R q (q + 1) (by omega) (by omega)
          have l44a := S1.out.ld1 R (by omega) P q (by omega)
          have l44b := S1.out.ld1 R (by omega) P (q + 1) (by omega)
          have s44a := S1.out.st1 R (by omega) P q (by omega) dk[q + 1]!
          have s44b := S1.out.st2 R (by omega) P q (q + 1) (by omega) (by omega) dk[q + 1]! dk[q]!
          have n44a : (enc dk[q]!).length = k := R.hk _
          have n44b : (enc dk[q + 1]!).length = k := R.hk _
          clear hs
          have HL2 : Hid ((swp dk q (q + 1)).toList = A ++ (Y.take n).take (t + 1) ++ x :: ((Y.take n).drop (t + 1) ++ (Y.drop n ++ C))) := by
            have := bub_right dk A (Y.take n) (Y.drop n ++ C) x t HL.out (by rw [LN.out]; exact htl)
            rw [HD.out.2.1, show a + t = q by omega] at this
            exact this
          generalize enc dk[q]! = cI44 at S2 l44a s44b n44a
          generalize enc dk[q + 1]! = cJ44 at S2 l44b s44a s44b n44b
          clear S1
          go_wp2_with fail
          go_big_region_o
          clear l44a l44b s44a s44b
          generalize (wr.drew.setCells blk (off + q * k) cJ44).setCells blk (off + (q + 1) * k) cI44 = w2 at S2 ⊢
          go_wp2
          go_roundg (n - (t + 1))
          case measure => omega
          case rel => exact ⟨t + 1, q + 1, swp dk q (q + 1), by go_num, by omega, by omega, by omega, Nat.le_refl _, by rw [size_swp]; exact hsk, S2, HL2⟩
        · have q2 : ¬ (q : Int) < (i : Int) - 1 := by omega
          obtain rfl : t = n := by omega
          have HZ : Hid (dk.toList = A ++ mrg (ltOf cf) [x] Y ++ C) := by
            show _ = _
            have e1 := mrg_one_left (ltOf cf) x (Y.take t) (Y.drop t) HY.out.1 HY.out.2
            rw [List.take_append_drop] at e1
            rw [HL.out, e1, List.take_of_length_le (by rw [LN.out]; omega), List.drop_of_length_le (by rw [LN.out]; omega)]
            simp
          clear HL
          go_wp2
          refine bodyPost_ret (results_none rfl _ _ _) rfl ?_
          exact ⟨rfl, dk, by rw [HZ.out]; simp, hsk, S1.out⟩
set_option maxHeartbeats 4000000 in
set_option maxRecDepth 1000000 in
theorem sym_right {P : Program} {k : Nat} (B : Bas P k) (FG : P.funcs[73]? = some Tryd.f73) (enc : α → List Value) (cf : α → α → Int) (g : Nat) (cb : Array Value) (blk off cap a m b : Nat) (d0 d : Array α) (w0 w : World)
    (eg : ∀ args w, (callFunc g args).run P w = .ok (.enter g args) w) (hcmp : CmpLays P g cb enc k cf blk off d0.size w0) (SO : SWO (ltOf cf))
    (R : RowK enc k w0 blk off d0) (hs : d0.size = d.size) (S : SWK enc k w0 blk off d w) (A Y C : List α) (x : α) (hd : d.toList = A ++ Y ++ [x] ++ C) (hA : A.length = a) (hm : m = a + Y.length) (h1 : Y.length ≠ 1) (hb : b = m + 1) (hY : Srt (ltOf cf) Y) (hsz : d.size < 4611686018427387904) :
    Calls P 73 #[.slice (some ⟨blk, off, none⟩) d.size cap, .int .i64 a, .int .i64 m, .int .i64 b, .func (.func g) #[] cb] w fun e w' => e = .returned (.tuple #[]) ∧ ∃ d' : Array α, d'.toList = A ++ mrg (ltOf cf) Y [x] ++ C ∧ d'.size = d.size ∧ SWK enc k w0 blk off d' w' := by
  have mixed := B.mixed; have t0 := B.t0; have a0 := B.a0; have z0 := B.z0; have v0 := B.v0; have t3 := B.t3; have a3 := B.a3; have z3 := B.z3; have v3 := B.v3; have t4 := B.t4; have a4 := B.a4; have z4 := B.z4; have v4 := B.v4; have t24 := B.t24; have a24 := B.a24; have z24 := B.z24; have v24 := B.v24; have t63 := B.t63; have a63 := B.a63; have z63 := B.z63; have v63 := B.v63; have aE := B.aE; have zE := B.zE
  have S0 : Aside (SWK enc k w0 blk off d w) := S
  clear S
  have HC : Aside _ := hcmp
  clear hcmp
  have hlen : d.size = a + 1 + Y.length + C.length := by rw [← Array.length_toList, hd]; simp; omega
  have dx : d[m]! = x := by
    have := at_list d (A ++ Y) [x] C (by rw [hd]) 0 (by simp)
    rw [List.length_append, hA, Nat.add_zero, ← hm] at this; exact this
  have dy : ∀ t, t < Y.length → d[a + t]! = Y[t]! := fun t ht => by
    have := at_list d A Y ([x] ++ C) (by rw [hd]; simp) t ht
    rw [hA] at this; exact this
  have HD : Hid (d.toList = A ++ Y ++ [x] ++ C ∧ A.length = a ∧ Srt (ltOf cf) Y ∧ d[m]! = x ∧ ∀ t, t < Y.length → d[a + t]! = Y[t]!) := ⟨hd, hA, hY, dx, dy⟩
  clear hd hA hY dx dy
  have HS : Hid (d0.size = d.size ∧ d.size = a + 1 + Y.length + C.length) := ⟨hs, hlen⟩
  have bs : b ≤ d.size := by omega
  clear hs hlen
  have q1 : ((m : Int) - (a : Int) == 1) = false := by simp; omega
  have q3 : ((b : Int) - (m : Int) == 1) = true := by simp; omega
  have HB := Lib.hid hb
  have HM := Lib.hid hm
  have b1 : b ≤ m + 1 := by omega
  have b2 : m + 1 ≤ b := by omega
  have m1 : m ≤ a + Y.length := by omega
  have m2 : a + Y.length ≤ m := by omega
  clear hb hm h1
  go_enter FG, Tryd.ntmps73
  go_wp2
  go_loopg [14, 15, 16] (m - a) (fun kx s10 s11 s12 wr => ∃ i j : Nat, s10 = .int .i64 i ∧ s11 = .int .i64 j ∧ a ≤ i ∧ i ≤ j ∧ j ≤ m ∧ j - i ≤ kx ∧ Aside (SWK enc k w0 blk off d wr) ∧ Hid ((a < i → ltOf cf d[m]! d[i - 1]! = false) ∧ (j < m → ltOf cf d[m]! d[j]! = true)))
  case atStart => exact ⟨a, m, rfl, rfl, Nat.le_refl _, by omega, Nat.le_refl _, by omega, S0, ⟨fun h => by omega, fun h => by omega⟩⟩
  case round =>
    clear S0
    obtain ⟨i, j, rfl, rfl, hai, hij, hjb, hkx, S1, I⟩ := hrel
    by_cases hlt : (i : Int) < (j : Int)
    · obtain ⟨h, hh⟩ : ∃ h : Nat, h = (i + j) / 2 := ⟨_, rfl⟩
      have eh : ((i : Int) + (j : Int)) / 2 = (h : Int) := by omega
      have h1 : i ≤ h := by omega
      have h2 : h < j := by omega
      clear hh
      have ea : ((h : Int)).toNat = h := by omega
      have pa : (0 : Int) ≤ (h : Int) := by omega
      have ba : (h : Int) < (d.size : Int) := by omega
      have ra : IntKind.i64.wrap ((h : Int)) = (h : Int) := by rw [IntKind.wrap_i64]; omega
      have ec : ((m : Int)).toNat = m := by omega
      have pc : (0 : Int) ≤ (m : Int) := by omega
      have bc : (m : Int) < (d.size : Int) := by omega
      have rc : IntKind.i64.wrap ((m : Int)) = (m : Int) := by rw [IntKind.wrap_i64]; omega
      have hs := HS.out.1
      obtain ⟨xh, hxh⟩ : ∃ x, x = d[h]! := ⟨_, rfl⟩
      obtain ⟨xa, hxa⟩ : ∃ x, x = d[m]! := ⟨_, rfl⟩
      have la := S1.out.ld R (by omega) P h (by omega)
      have lb := S1.out.ld R (by omega) P m (by omega)
      rw [← hxh] at la
      rw [← hxa] at lb
      have hc := S1.out.cmp HC.out (by omega) xa xh
      clear hs
      cases hv : ltOf cf xa xh
      case' true =>
        have hv2 : cf xa xh < 0 := of_decide_eq_true hv
        have hd2 : decide (cf xa xh < 0) = true := decide_eq_true hv2
      case' false =>
        have hv2 : ¬ cf xa xh < 0 := of_decide_eq_false hv
        have hd2 : decide (cf xa xh < 0) = false := decide_eq_false hv2
      all_goals
        rw [hxh, hxa] at hv
        have HV := Lib.hid hv
        clear hv hxh hxa
        go_wp2_with fail
        go_quiet_grown (first | (go_at_fn g; refine Calls.grown_of (hc _ _)))
        have S2 : Aside (SWK enc k w0 blk off d (grow (wr.drewN nq) osq)) := S1.out.grown nq osq
        clear la lb hc S1
        generalize grow (wr.drewN nq) osq = wu2 at S2 ⊢
        clear nq osq
        go_wp2
      · go_roundg (j - (h + 1))
        case measure => omega
        case rel => exact ⟨h + 1, j, by go_num, rfl, by omega, by omega, hjb, Nat.le_refl _, S2, ⟨fun _ => HV.out, I.out.2⟩⟩
      · go_roundg (h - i)
        case measure => omega
        case rel => exact ⟨i, h, rfl, rfl, hai, h1, by omega, Nat.le_refl _, S2, ⟨I.out.1, fun _ => HV.out⟩⟩
    · obtain rfl : i = j := by omega
      clear hlt hij
      obtain ⟨n, hin⟩ : ∃ n, i = a + n := ⟨i - a, by omega⟩
      have hn : n ≤ Y.length := by omega
      have HY : Hid ((∀ r ∈ Y.take n, ltOf cf x r = false) ∧ (∀ r ∈ Y.drop n, ltOf cf x r = true)) := by
        obtain ⟨hd, hA, hY, dx, dy⟩ := HD.out
        constructor
        · intro r hr
          obtain ⟨u, u1, u2, rfl⟩ := mem_take_at Y n r hr
          have h0 := I.out.1 (by omega)
          rw [dx, show i - 1 = a + (n - 1) by omega, dy _ (by omega)] at h0
          cases e : ltOf cf x Y[u]! with
          | false => rfl
          | true =>
            have := lt_up SO e (srt_le SO Y hY u (n - 1) (by omega) (by omega))
            rw [h0] at this; exact absurd this (by decide)
        · intro r hr
          obtain ⟨u, u1, u2, rfl⟩ := mem_drop_at Y n r hr
          have h0 := I.out.2 (by omega)
          rw [dx, hin, dy _ (by omega)] at h0
          exact lt_up SO h0 (srt_le SO Y hY n u u1 u2)
      clear I
      have i1 : i ≤ a + n := by omega
      have i2 : a + n ≤ i := by omega
      clear hin
      go_wp2
      go_loopg [17] (m - i + 1) (fun kx s13 w1 => ∃ (t q : Nat) (dk : Array α), s13 = .int .i64 q ∧ q ≤ a + t ∧ a + t ≤ q ∧ n ≤ t ∧ t ≤ Y.length ∧ t - n ≤ kx ∧ dk.size = d.size ∧ Aside (SWK enc k w0 blk off dk w1) ∧ Hid (dk.toList = A ++ Y.take t ++ x :: (Y.drop t ++ C)))
      case atStart => exact ⟨Y.length, m, d, rfl, m1, m2, hn, Nat.le_refl _, by omega, rfl, S1, by show _ = _; rw [HD.out.1, List.take_length, List.drop_length]; simp⟩
      case round =>
        clear S1
        obtain ⟨t, q, dk, rfl, hq1, hq2, htn, hty, hkx2, hsk, S1, HL⟩ := hrel
        by_cases htl : n < t
        · have q2 : (i : Int) < (q : Int) := by omega
          obtain ⟨t, rfl⟩ : ∃ z, t = z + 1 := ⟨t - 1, by omega⟩
          obtain ⟨q, rfl⟩ : ∃ z, q = z + 1 := ⟨q - 1, by omega⟩
          have hwp : IntKind.i64.wrap (q : Int) = (q : Int) := by rw [IntKind.wrap_i64]; omega
          have jz : (q : Int) + 1 < (d.size : Int) := by omega
          have jz1 : (q : Int) < (d.size : Int) := by omega
          have p0 : (0 : Int) ≤ (q : Int) + 1 := by omega
          have e0 : ((q : Int) + 1).toNat = q + 1 := by omega
          have q2' : (i : Int) < (q : Int) + 1 := by omega
          have hs := HS.out.1
          have S2 : Aside (SWK enc k w0 blk off (swp dk (q + 1) q) ((wr.drew.setCells blk (off + (q + 1) * k) (enc dk[q]!)).setCells blk (off + q * k) (enc dk[q + 1]!))) := S1.out.swapped R (q + 1) q (by omega) (by omega)
          have l44a := S1.out.ld1 R (by omega) P (q + 1) (by omega)
          have l44b := S1.out.ld1 R (by omega) P q (by omega)
          have s44a := S1.out.st1 R (by omega) P (q + 1) (by omega) dk[q]!
          have s44b := S1.out.st2 R (by omega) P (q + 1) q (by omega) (by omega) dk[q]! dk[q + 1]!
          have n44a : (enc dk[q + 1]!).length = k := R.hk _
          have n44b : (enc dk[q]!).length = k := R.hk _
          clear hs
          have HL2 : Hid ((swp dk (q + 1) q).toList = A ++ Y.take t ++ x :: (Y.drop t ++ C)) := by
            have := bub_left dk A Y C x t HL.out (by omega)
            rw [HD.out.2.1, show a + t = q by omega] at this
            exact this
          generalize enc dk[q + 1]! = cI44 at S2 l44a s44b n44a
          generalize enc dk[q]! = cJ44 at S2 l44b s44a s44b n44b
          clear S1
          go_wp2_with fail
          go_big_region_o
          clear l44a l44b s44a s44b
          generalize (wr.drew.setCells blk (off + (q + 1) * k) cJ44).setCells blk (off + q * k) cI44 = w2 at S2 ⊢
          go_wp2
          go_roundg (t - n)
          case measure => omega
          case rel => exact ⟨t, q, swp dk (q + 1) q, by go_num, by omega, by omega, by omega, by omega, Nat.le_refl _, by rw [size_swp]; exact hsk, S2, HL2⟩
        · have q2 : ¬ (i : Int) < (q : Int) := by omega
          obtain rfl : t = n := by omega
          have HZ : Hid (dk.toList = A ++ mrg (ltOf cf) Y [x] ++ C) := by
            show _ = _
            have e1 := mrg_one_right (ltOf cf) x (Y.take t) (Y.drop t) HY.out.1 HY.out.2
            rw [List.take_append_drop] at e1
            rw [HL.out, e1]
            simp
          clear HL
          go_wp2
          refine bodyPost_ret (results_none rfl _ _ _) rfl ?_
          exact ⟨rfl, dk, by rw [HZ.out]; simp, hsk, S1.out⟩
end Go.Proofs.YtjbckpoepfbgbaaDoor.Srt
end
section
/- The library's merging in place of two sorted neighbours, at members. -/
set_option linter.unusedVariables false
set_option maxRecDepth 20000
set_option linter.unusedSectionVars false
namespace Go.Proofs.YtjbckpoepfbgbaaDoor.Srt
open Go.Shelf Go.RowKit Go.Lib Go.Sort Go.Proofs.YtjbckpoepfbgbaaDoor.Mrg
variable {α : Type} [Inhabited α]
/-- What merging in place comes to, from a to b. -/
def SymSays (P : Program) (enc : α → List Value) (k : Nat) (cf : α → α → Int) (g : Nat) (cb : Array Value) (blk off cap : Nat) (w0 : World) (a m b : Nat) (d : Array α) (w : World) : Prop :=
  ∀ (A L R C : List α), d.toList = A ++ L ++ R ++ C → A.length = a → m = a + L.length → b = m + R.length → L ≠ [] → R ≠ [] → Srt (ltOf cf) L → Srt (ltOf cf) R →
    Calls P 73 #[.slice (some ⟨blk, off, none⟩) d.size cap, .int .i64 a, .int .i64 m, .int .i64 b, .func (.func g) #[] cb] w fun e w' => e = .returned (.tuple #[]) ∧ ∃ d' : Array α, d'.toList = A ++ mrg (ltOf cf) L R ++ C ∧ d'.size = d.size ∧ SWK enc k w0 blk off d' w'
/-- The turning, as lists, or nothing to turn. -/
theorem rotate_list {P : Program} {k : Nat} (B : Bas P k) (F40 : P.funcs[87]? = some Tryd.f87) (F33 : P.funcs[100]? = some Tryd.f100) (enc : α → List Value) (g : Nat) (cb : Array Value) (blk off cap a m b : Nat) (d0 d : Array α) (w0 w : World)
    (R : RowK enc k w0 blk off d0) (hs : d0.size = d.size) (S : SWK enc k w0 blk off d w) (A X Y C : List α) (hd : d.toList = A ++ X ++ Y ++ C) (hA : A.length = a) (hm : m = a + X.length) (hb : b = m + Y.length) (hX : 0 < X.length) (hY : 0 < Y.length) (hsz : d.size < 4611686018427387904) :
    Calls P 87 #[.slice (some ⟨blk, off, none⟩) d.size cap, .int .i64 a, .int .i64 m, .int .i64 b, .func (.func g) #[] cb] w fun e w' => e = .returned (.tuple #[]) ∧ ∃ d' : Array α, d'.toList = A ++ Y ++ X ++ C ∧ d'.size = d.size ∧ SWK enc k w0 blk off d' w' := by
  have hlen : d.size = A.length + X.length + Y.length + C.length := by rw [← Array.length_toList, hd]; simp; omega
  refine (rotate B F40 F33 enc g cb blk off cap a m b d0 d w0 w R hs S (by omega) (by omega) (by omega) hsz).mono ?_
  rintro e w' ⟨he, S'⟩
  refine ⟨he, _, ?_, rotLoop_size _ _ _ _ _, S'⟩
  exact rot_list (b - a) (m - a) (b - m) m d A X Y C (by omega) (by omega) (by omega) hd (by omega) (by omega) (by omega)
set_option maxHeartbeats 8000000 in
set_option maxRecDepth 1000000 in
theorem sym_step {P : Program} {k : Nat} (B : Bas P k) (F28 : P.funcs[73]? = some Tryd.f73) (F40 : P.funcs[87]? = some Tryd.f87) (F33 : P.funcs[100]? = some Tryd.f100) (enc : α → List Value) (cf : α → α → Int) (g : Nat) (cb : Array Value) (blk off cap a m b : Nat) (d0 d : Array α) (w0 w : World)
    (eg : ∀ args w, (callFunc g args).run P w = .ok (.enter g args) w) (hcmp : CmpLays P g cb enc k cf blk off d0.size w0) (SO : SWO (ltOf cf))
    (R : RowK enc k w0 blk off d0) (hs : d0.size = d.size) (S : SWK enc k w0 blk off d w) (hsz : d.size < 4611686018427387904)
    (ih : ∀ (a' m' b' : Nat) (d' : Array α) (w' : World), b' - a' < b - a → d0.size = d'.size → SWK enc k w0 blk off d' w' → SymSays P enc k cf g cb blk off cap w0 a' m' b' d' w')
    (A X Y C : List α) (hd : d.toList = A ++ X ++ Y ++ C) (hA : A.length = a) (hm : m = a + X.length) (hb : b = m + Y.length) (hX : 1 < X.length) (hY : 1 < Y.length) (sX : Srt (ltOf cf) X) (sY : Srt (ltOf cf) Y) :
    Calls P 73 #[.slice (some ⟨blk, off, none⟩) d.size cap, .int .i64 a, .int .i64 m, .int .i64 b, .func (.func g) #[] cb] w fun e w' => e = .returned (.tuple #[]) ∧ ∃ d' : Array α, d'.toList = A ++ mrg (ltOf cf) X Y ++ C ∧ d'.size = d.size ∧ SWK enc k w0 blk off d' w' := by
  have mixed := B.mixed; have t0 := B.t0; have a0 := B.a0; have z0 := B.z0; have v0 := B.v0; have t3 := B.t3; have a3 := B.a3; have z3 := B.z3; have v3 := B.v3; have t4 := B.t4; have a4 := B.a4; have z4 := B.z4; have v4 := B.v4; have t24 := B.t24; have a24 := B.a24; have z24 := B.z24; have v24 := B.v24; have t63 := B.t63; have a63 := B.a63; have z63 := B.z63; have v63 := B.v63; have aE := B.aE; have zE := B.zE
  have S0 : Aside (SWK enc k w0 blk off d w) := S
  clear S
  have HC : Aside _ := hcmp
  clear hcmp
  have IH : Aside _ := ih
  clear ih
  have hlen : d.size = a + X.length + Y.length + C.length := by rw [← Array.length_toList, hd]; simp; omega
  have dx : ∀ t, t < X.length → d[a + t]! = X[t]! := fun t ht => by
    have := at_list d A X (Y ++ C) (by rw [hd]; simp) t ht
    rw [hA] at this; exact this
  have dy : ∀ t, t < Y.length → d[m + t]! = Y[t]! := fun t ht => by
    have := at_list d (A ++ X) Y C (by rw [hd]) t ht
    rw [List.length_append, hA, ← hm] at this; exact this
  have HD : Hid (d.toList = A ++ X ++ Y ++ C ∧ A.length = a ∧ Srt (ltOf cf) X ∧ Srt (ltOf cf) Y ∧ (∀ t, t < X.length → d[a + t]! = X[t]!) ∧ ∀ t, t < Y.length → d[m + t]! = Y[t]!) := ⟨hd, hA, sX, sY, dx, dy⟩
  clear hd hA sX sY dx dy
  have HS : Hid (d0.size = d.size ∧ d.size = a + X.length + Y.length + C.length) := ⟨hs, hlen⟩
  have bs : b ≤ d.size := by omega
  clear hs hlen
  have q1 : ((m : Int) - (a : Int) == 1) = false := by simp; omega
  have q3 : ((b : Int) - (m : Int) == 1) = false := by simp; omega
  have b1 : b ≤ m + Y.length := by omega
  have b2 : m + Y.length ≤ b := by omega
  have m1 : m ≤ a + X.length := by omega
  have m2 : a + X.length ≤ m := by omega
  clear hb hm
  have E32 : ∀ args w, (callFunc 87 args).run P w = .ok (.enter 87 args) w := enters_of F40 (by kernel_rfl) rfl
  have E30 : ∀ args w, (callFunc 73 args).run P w = .ok (.enter 73 args) w := enters_of F28 (by kernel_rfl) rfl
  obtain ⟨mid, hmid⟩ : ∃ z, z = (a + b) / 2 := ⟨_, rfl⟩
  have emid : ((a : Int) + (b : Int)) / 2 = (mid : Int) := by omega
  have k1 : 2 * mid ≤ a + b := by omega
  have k2 : a + b ≤ 2 * mid + 1 := by omega
  clear hmid
  obtain ⟨n, hn⟩ : ∃ z, z = mid + m := ⟨_, rfl⟩
  have en : (mid : Int) + (m : Int) = (n : Int) := by omega
  obtain ⟨s0, r0, hsr⟩ : ∃ s r : Nat, (mid < m ∧ s + b = n ∧ r = mid) ∨ (m ≤ mid ∧ s = a ∧ r = m) := by
    by_cases h : mid < m
    · exact ⟨n - b, mid, Or.inl ⟨h, by omega, rfl⟩⟩
    · exact ⟨a, m, Or.inr ⟨by omega, rfl, rfl⟩⟩
  have k3 : a ≤ s0 := by omega
  have k4 : s0 ≤ r0 := by omega
  have k5 : r0 ≤ m := by omega
  have k6 : n ≤ s0 + b := by omega
  have k7 : m + r0 ≤ n := by omega
  have k8 : n ≤ m + mid := by omega
  have k9 : m + mid ≤ n := by omega
  obtain ⟨p, hp⟩ : ∃ p, n = p + 1 := ⟨n - 1, by omega⟩
  have ep : (n : Int) - 1 = (p : Int) := by omega
  have p1 : n ≤ p + 1 := by omega
  have p2 : p + 1 ≤ n := by omega
  clear hn hp
  rcases hsr with ⟨c1, c2, c3⟩ | ⟨c1, c2, c3⟩
  case' inl =>
    have T0 : (mid : Int) < (m : Int) := by omega
    have es : (n : Int) - (b : Int) = (s0 : Int) := by omega
    have es2 : Hid ((s0 = a ∨ s0 + b ≤ n) ∧ (r0 = m ∨ n = m + r0)) := ⟨Or.inr (by omega), Or.inr (by omega)⟩
    have HR : Hid (r0 = mid) := c3
    clear c1 c2 c3
  case' inr =>
    have T0 : ¬ (mid : Int) < (m : Int) := by omega
    have es2 : Hid ((s0 = a ∨ s0 + b ≤ n) ∧ (r0 = m ∨ n = m + r0)) := ⟨Or.inl c2, Or.inl c3⟩
    have HR : Hid (s0 = a ∧ r0 = m) := ⟨c2, c3⟩
    clear c1 c2 c3
  all_goals
    go_enter F28, Tryd.ntmps73
    go_wp2_with fail
    go_loopg [20, 21, 23] (r0 - s0) (fun kx s20 s21 s23 wr => ∃ s r : Nat, s20 = .int .i64 s ∧ s21 = .int .i64 r ∧ s0 ≤ s ∧ s ≤ r ∧ r ≤ r0 ∧ r - s ≤ kx ∧ Aside (SWK enc k w0 blk off d wr) ∧ Hid ((s0 < s → ltOf cf d[p - (s - 1)]! d[s - 1]! = false) ∧ (r < r0 → ltOf cf d[p - r]! d[r]! = true)))
    case atStart =>
      first
        | exact ⟨s0, r0, rfl, by rw [HR.out], Nat.le_refl _, k4, Nat.le_refl _, Nat.le_refl _, S0, ⟨fun h => by omega, fun h => by omega⟩⟩
        | exact ⟨s0, r0, by rw [HR.out.1], by rw [HR.out.2], Nat.le_refl _, k4, Nat.le_refl _, Nat.le_refl _, S0, ⟨fun h => by omega, fun h => by omega⟩⟩
    case round =>
      clear S0
      obtain ⟨s, r, rfl, rfl, hs0, hsr, hr0, hkx, S1, I⟩ := hrel
      by_cases hlt : (s : Int) < (r : Int)
      · obtain ⟨c, hh⟩ : ∃ c : Nat, c = (s + r) / 2 := ⟨_, rfl⟩
        have eh : ((s : Int) + (r : Int)) / 2 = (c : Int) := by omega
        have h1 : s ≤ c := by omega
        have h2 : c < r := by omega
        clear hh
        obtain ⟨q, hq⟩ : ∃ q, q = p - c := ⟨_, rfl⟩
        have eq1 : (p : Int) - (c : Int) = (q : Int) := by omega
        have hqb : q < d.size := by omega
        have HQ : Hid (q = p - c) := hq
        clear hq
        have ea : ((q : Int)).toNat = q := by omega
        have pa : (0 : Int) ≤ (q : Int) := by omega
        have ba : (q : Int) < (d.size : Int) := by omega
        have ra : IntKind.i64.wrap ((p : Int) - (c : Int)) = (q : Int) := by rw [IntKind.wrap_i64]; omega
        have ra2 : IntKind.i64.wrap ((q : Int)) = (q : Int) := by rw [IntKind.wrap_i64]; omega
        have ec : ((c : Int)).toNat = c := by omega
        have pc : (0 : Int) ≤ (c : Int) := by omega
        have bc : (c : Int) < (d.size : Int) := by omega
        have rc : IntKind.i64.wrap ((c : Int)) = (c : Int) := by rw [IntKind.wrap_i64]; omega
        have hs := HS.out.1
        obtain ⟨xq, hxq⟩ : ∃ x, x = d[q]! := ⟨_, rfl⟩
        obtain ⟨xc, hxc⟩ : ∃ x, x = d[c]! := ⟨_, rfl⟩
        have la := S1.out.ld R (by omega) P q (by omega)
        have lb := S1.out.ld R (by omega) P c (by omega)
        rw [← hxq] at la
        rw [← hxc] at lb
        have hc := S1.out.cmp HC.out (by omega) xq xc
        clear hs
        cases hv : ltOf cf xq xc
        case' true =>
          have hv2 : cf xq xc < 0 := of_decide_eq_true hv
          have hd2 : decide (cf xq xc < 0) = true := decide_eq_true hv2
        case' false =>
          have hv2 : ¬ cf xq xc < 0 := of_decide_eq_false hv
          have hd2 : decide (cf xq xc < 0) = false := decide_eq_false hv2
        all_goals
          rw [hxq, hxc, HQ.out] at hv
          have HV := Lib.hid hv
          clear hv hxq hxc
          go_wp2_with fail
          go_quiet_grown (first | (go_at_fn g; refine Calls.grown_of (hc _ _)))
          have S2 : Aside (SWK enc k w0 blk off d (grow (wr.drewN nq) osq)) := S1.out.grown nq osq
          clear la lb hc S1
          generalize grow (wr.drewN nq) osq = wu2 at S2 ⊢
          clear nq osq
          go_wp2_with fail
        · go_roundg (r - (c + 1))
          case measure => omega
          case rel => exact ⟨c + 1, r, by go_num, rfl, by omega, by omega, hr0, Nat.le_refl _, S2, ⟨fun _ => HV.out, I.out.2⟩⟩
        · go_roundg (c - s)
          case measure => omega
          case rel => exact ⟨s, c, rfl, rfl, hs0, h1, by omega, Nat.le_refl _, S2, ⟨I.out.1, fun _ => HV.out⟩⟩
      · obtain rfl : s = r := by omega
        clear hlt hsr
        obtain ⟨i, hi⟩ : ∃ i, s = a + i := ⟨s - a, by omega⟩
        obtain ⟨E, hE⟩ : ∃ E, n = s + E := ⟨n - s, by omega⟩
        have eE : (n : Int) - (s : Int) = (E : Int) := by omega
        obtain ⟨j, hj⟩ : ∃ j, E = m + j := ⟨E - m, by omega⟩
        have jl : j ≤ Y.length := by omega
        have il : i ≤ X.length := by omega
        have mj : mid = a + i + j := by omega
        obtain ⟨X1, X2, Y1, Y2, hxy⟩ : ∃ X1 X2 Y1 Y2 : List α, X = X1 ++ X2 ∧ Y = Y1 ++ Y2 ∧ X1.length = i ∧ Y1.length = j ∧ (∀ r ∈ Y1, ∀ l ∈ X2, ltOf cf r l = true) ∧ (∀ l ∈ X1, ∀ r ∈ Y2, ltOf cf r l = false) := by
          obtain ⟨hd, hA, sX, sY, dx, dy⟩ := HD.out
          refine ⟨X.take i, X.drop i, Y.take j, Y.drop j, (List.take_append_drop ..).symm, (List.take_append_drop ..).symm, by rw [List.length_take]; omega, by rw [List.length_take]; omega, cut SO X Y sX sY i j (fun u1 u2 => ⟨?_, jl⟩) (fun u1 u2 => ⟨?_, il⟩)⟩
          · have h0 := I.out.2 (by rcases es2.out.2 with h | h <;> omega)
            rw [show p - s = m + (j - 1) by omega, hi, dx i u1, dy (j - 1) (by omega)] at h0
            exact h0
          · have h0 := I.out.1 (by rcases es2.out.1 with h | h <;> omega)
            rw [show p - (s - 1) = m + j by omega, show s - 1 = a + (i - 1) by omega, dx (i - 1) (by omega), dy j u2] at h0
            exact h0
        have x1 : X1.length + X2.length = X.length := by rw [hxy.1, List.length_append]
        have y1 : Y1.length + Y2.length = Y.length := by rw [hxy.2.1, List.length_append]
        have HXY := Lib.hid hxy
        have x2 : X1.length = i := hxy.2.2.1
        have y2 : Y1.length = j := hxy.2.2.2.1
        have AL : A.length = a := HD.out.2.1
        have SX : Hid (Srt (ltOf cf) X1 ∧ Srt (ltOf cf) X2 ∧ Srt (ltOf cf) Y1 ∧ Srt (ltOf cf) Y2) := by
          obtain ⟨hd, hA, sX, sY, dx, dy⟩ := HD.out
          rw [hxy.1] at sX
          rw [hxy.2.1] at sY
          exact ⟨(List.pairwise_append.1 sX).1, (List.pairwise_append.1 sX).2.1, (List.pairwise_append.1 sY).1, (List.pairwise_append.1 sY).2.1⟩
        have HL0 : Hid (d.toList = A ++ X1 ++ X2 ++ Y1 ++ (Y2 ++ C)) := by
          show _ = _
          rw [HD.out.1, hxy.1, hxy.2.1]; simp
        have HF : Hid (∀ d' : Array α, d'.toList = A ++ mrg (ltOf cf) X1 Y1 ++ mrg (ltOf cf) X2 Y2 ++ C → d'.toList = A ++ mrg (ltOf cf) X Y ++ C) := by
          intro d' h
          rw [h, hxy.1, hxy.2.1, mrg_split X1 Y1 X2 Y2 hxy.2.2.2.2.1 hxy.2.2.2.2.2]; simp
        have HJ : Hid (s = a + i ∧ n = s + E ∧ E = m + j ∧ mid = a + i + j ∧ X1.length + X2.length = X.length ∧ Y1.length + Y2.length = Y.length ∧ X1.length = i ∧ Y1.length = j ∧ A.length = a) := ⟨hi, hE, hj, mj, x1, y1, x2, y2, AL⟩
        clear hxy
        rcases (show i = 0 ∨ i = X.length ∨ (0 < i ∧ i < X.length) by omega) with ci | ci | ci <;> rcases (show j = 0 ∨ j = Y.length ∨ (0 < j ∧ j < Y.length) by omega) with cj | cj | cj
        · have g1 : ¬ (a : Int) < (s : Int) := by omega
          have g2 : ¬ (s : Int) < (mid : Int) := by omega
          have g3 : (mid : Int) < (E : Int) := by omega
          have g4 : (E : Int) < (b : Int) := by omega
          have g5 : (s : Int) < (m : Int) := by omega
          have g6 : ¬ (m : Int) < (E : Int) := by omega
          clear hi hE hj mj x1 y1 x2 y2 AL
          have NX1 : Hid (X1 = []) := by obtain ⟨hi, hE, hj, mj, x1, y1, x2, y2, AL⟩ := HJ.out; exact List.length_eq_zero_iff.1 (by omega)
          have NY1 : Hid (Y1 = []) := by obtain ⟨hi, hE, hj, mj, x1, y1, x2, y2, AL⟩ := HJ.out; exact List.length_eq_zero_iff.1 (by omega)
          clear ci cj
          obtain ⟨d1, hd1⟩ : ∃ x, x = d := ⟨_, rfl⟩
          have HL1 : Hid (d1.toList = A ++ X1 ++ Y1 ++ (X2 ++ Y2 ++ C)) := by show _ = _; rw [hd1, HL0.out, NY1.out]; simp
          have HZ1 : Hid (d1.size = d.size) := by show _ = _; rw [hd1]
          have S2 : Aside (SWK enc k w0 blk off d1 wr) := by rw [hd1]; exact S1
          clear hd1
          clear S1
          obtain ⟨d2, hd2⟩ : ∃ x, x = d1 := ⟨_, rfl⟩
          have HL2 : Hid (d2.toList = A ++ mrg (ltOf cf) X1 Y1 ++ X2 ++ Y2 ++ C) := by show _ = _; rw [hd2, HL1.out, NX1.out, mrg_nil_left]; simp
          have HZ2 : Hid (d2.size = d.size) := by show _ = _; rw [hd2]; exact HZ1.out
          have S3 : Aside (SWK enc k w0 blk off d2 wr) := by rw [hd2]; exact S2
          clear hd2
          clear S2
          have C3 := IH.out mid E b d2 _ (by omega) (by rw [HZ2.out]; exact HS.out.1) S3.out (A ++ mrg (ltOf cf) X1 Y1) X2 Y2 C HL2.out (by obtain ⟨hi, hE, hj, mj, x1, y1, x2, y2, AL⟩ := HJ.out; rw [List.length_append]; unfold mrg; rw [List.length_merge]; omega) (by obtain ⟨hi, hE, hj, mj, x1, y1, x2, y2, AL⟩ := HJ.out; omega) (by obtain ⟨hi, hE, hj, mj, x1, y1, x2, y2, AL⟩ := HJ.out; omega) (by rintro rfl; obtain ⟨hi, hE, hj, mj, x1, y1, x2, y2, AL⟩ := HJ.out; simp at x1; omega) (by rintro rfl; obtain ⟨hi, hE, hj, mj, x1, y1, x2, y2, AL⟩ := HJ.out; simp at y1; omega) SX.out.2.1 SX.out.2.2.2
          rw [HZ2.out] at C3
          go_wp2_with fail
          all_goals
            refine C3.mono ?_
            clear C3
            rintro e w3 ⟨rfl, d3, hl3, hz3, S4⟩
            have HL3 : Hid (d3.toList = A ++ mrg (ltOf cf) X1 Y1 ++ mrg (ltOf cf) X2 Y2 ++ C) := by show _ = _; rw [hl3]
            have HZ3 : Hid (d3.size = d.size) := hz3
            clear hl3 hz3
            have S4 : Aside (SWK enc k w0 blk off d3 w3) := S4
            clear S3
            go_wp2_with fail
            all_goals
              go_end0
              exact ⟨rfl, d3, (by have h := HF.out d3 HL3.out; first | exact h | (rw [h]; simp)), HZ3.out, S4.out⟩
        · have g1 : ¬ (a : Int) < (s : Int) := by omega
          have g2 : (s : Int) < (mid : Int) := by omega
          have g3 : (mid : Int) < (E : Int) := by omega
          have g4 : ¬ (E : Int) < (b : Int) := by omega
          have g5 : (s : Int) < (m : Int) := by omega
          have g6 : (m : Int) < (E : Int) := by omega
          clear hi hE hj mj x1 y1 x2 y2 AL
          have NX1 : Hid (X1 = []) := by obtain ⟨hi, hE, hj, mj, x1, y1, x2, y2, AL⟩ := HJ.out; exact List.length_eq_zero_iff.1 (by omega)
          have NY2 : Hid (Y2 = []) := by obtain ⟨hi, hE, hj, mj, x1, y1, x2, y2, AL⟩ := HJ.out; exact List.length_eq_zero_iff.1 (by omega)
          clear ci cj
          have C1 := rotate_list B F40 F33 enc g cb blk off cap s m E d0 d w0 wr R HS.out.1 S1.out (A ++ X1) X2 Y1 (Y2 ++ C) HL0.out (by obtain ⟨hi, hE, hj, mj, x1, y1, x2, y2, AL⟩ := HJ.out; rw [List.length_append]; omega) (by obtain ⟨hi, hE, hj, mj, x1, y1, x2, y2, AL⟩ := HJ.out; omega) (by obtain ⟨hi, hE, hj, mj, x1, y1, x2, y2, AL⟩ := HJ.out; omega) (by obtain ⟨hi, hE, hj, mj, x1, y1, x2, y2, AL⟩ := HJ.out; omega) (by obtain ⟨hi, hE, hj, mj, x1, y1, x2, y2, AL⟩ := HJ.out; omega) (by have := HS.out.2; omega)
          go_wp2_with fail
          all_goals
            refine C1.mono ?_
            clear C1
            rintro e w1 ⟨rfl, d1, hl1, hz1, S2⟩
            have HL1 : Hid (d1.toList = A ++ X1 ++ Y1 ++ (X2 ++ Y2 ++ C)) := by show _ = _; rw [hl1]; simp
            have HZ1 := Lib.hid hz1
            clear hl1 hz1
            have S2 : Aside (SWK enc k w0 blk off d1 w1) := S2
            clear S1
            obtain ⟨d2, hd2⟩ : ∃ x, x = d1 := ⟨_, rfl⟩
            have HL2 : Hid (d2.toList = A ++ mrg (ltOf cf) X1 Y1 ++ X2 ++ Y2 ++ C) := by show _ = _; rw [hd2, HL1.out, NX1.out, mrg_nil_left]; simp
            have HZ2 : Hid (d2.size = d.size) := by show _ = _; rw [hd2]; exact HZ1.out
            have S3 : Aside (SWK enc k w0 blk off d2 w1) := by rw [hd2]; exact S2
            clear hd2
            clear S2
            obtain ⟨d3, hd3⟩ : ∃ x, x = d2 := ⟨_, rfl⟩
            have HL3 : Hid (d3.toList = A ++ mrg (ltOf cf) X1 Y1 ++ mrg (ltOf cf) X2 Y2 ++ C) := by show _ = _; rw [hd3, HL2.out, NY2.out, mrg_nil_right]; simp
            have HZ3 : Hid (d3.size = d.size) := by show _ = _; rw [hd3]; exact HZ2.out
            have S4 : Aside (SWK enc k w0 blk off d3 w1) := by rw [hd3]; exact S3
            clear hd3
            clear S3
            go_wp2_with fail
            all_goals
              go_end0
              exact ⟨rfl, d3, (by have h := HF.out d3 HL3.out; first | exact h | (rw [h]; simp)), HZ3.out, S4.out⟩
        · have g1 : ¬ (a : Int) < (s : Int) := by omega
          have g2 : (s : Int) < (mid : Int) := by omega
          have g3 : (mid : Int) < (E : Int) := by omega
          have g4 : (E : Int) < (b : Int) := by omega
          have g5 : (s : Int) < (m : Int) := by omega
          have g6 : (m : Int) < (E : Int) := by omega
          clear hi hE hj mj x1 y1 x2 y2 AL
          have NX1 : Hid (X1 = []) := by obtain ⟨hi, hE, hj, mj, x1, y1, x2, y2, AL⟩ := HJ.out; exact List.length_eq_zero_iff.1 (by omega)
          clear ci cj
          have C1 := rotate_list B F40 F33 enc g cb blk off cap s m E d0 d w0 wr R HS.out.1 S1.out (A ++ X1) X2 Y1 (Y2 ++ C) HL0.out (by obtain ⟨hi, hE, hj, mj, x1, y1, x2, y2, AL⟩ := HJ.out; rw [List.length_append]; omega) (by obtain ⟨hi, hE, hj, mj, x1, y1, x2, y2, AL⟩ := HJ.out; omega) (by obtain ⟨hi, hE, hj, mj, x1, y1, x2, y2, AL⟩ := HJ.out; omega) (by obtain ⟨hi, hE, hj, mj, x1, y1, x2, y2, AL⟩ := HJ.out; omega) (by obtain ⟨hi, hE, hj, mj, x1, y1, x2, y2, AL⟩ := HJ.out; omega) (by have := HS.out.2; omega)
          go_wp2_with fail
          all_goals
            refine C1.mono ?_
            clear C1
            rintro e w1 ⟨rfl, d1, hl1, hz1, S2⟩
            have HL1 : Hid (d1.toList = A ++ X1 ++ Y1 ++ (X2 ++ Y2 ++ C)) := by show _ = _; rw [hl1]; simp
            have HZ1 := Lib.hid hz1
            clear hl1 hz1
            have S2 : Aside (SWK enc k w0 blk off d1 w1) := S2
            clear S1
            obtain ⟨d2, hd2⟩ : ∃ x, x = d1 := ⟨_, rfl⟩
            have HL2 : Hid (d2.toList = A ++ mrg (ltOf cf) X1 Y1 ++ X2 ++ Y2 ++ C) := by show _ = _; rw [hd2, HL1.out, NX1.out, mrg_nil_left]; simp
            have HZ2 : Hid (d2.size = d.size) := by show _ = _; rw [hd2]; exact HZ1.out
            have S3 : Aside (SWK enc k w0 blk off d2 w1) := by rw [hd2]; exact S2
            clear hd2
            clear S2
            have C3 := IH.out mid E b d2 _ (by omega) (by rw [HZ2.out]; exact HS.out.1) S3.out (A ++ mrg (ltOf cf) X1 Y1) X2 Y2 C HL2.out (by obtain ⟨hi, hE, hj, mj, x1, y1, x2, y2, AL⟩ := HJ.out; rw [List.length_append]; unfold mrg; rw [List.length_merge]; omega) (by obtain ⟨hi, hE, hj, mj, x1, y1, x2, y2, AL⟩ := HJ.out; omega) (by obtain ⟨hi, hE, hj, mj, x1, y1, x2, y2, AL⟩ := HJ.out; omega) (by rintro rfl; obtain ⟨hi, hE, hj, mj, x1, y1, x2, y2, AL⟩ := HJ.out; simp at x1; omega) (by rintro rfl; obtain ⟨hi, hE, hj, mj, x1, y1, x2, y2, AL⟩ := HJ.out; simp at y1; omega) SX.out.2.1 SX.out.2.2.2
            rw [HZ2.out] at C3
            go_wp2_with fail
            all_goals
              refine C3.mono ?_
              clear C3
              rintro e w3 ⟨rfl, d3, hl3, hz3, S4⟩
              have HL3 : Hid (d3.toList = A ++ mrg (ltOf cf) X1 Y1 ++ mrg (ltOf cf) X2 Y2 ++ C) := by show _ = _; rw [hl3]
              have HZ3 : Hid (d3.size = d.size) := hz3
              clear hl3 hz3
              have S4 : Aside (SWK enc k w0 blk off d3 w3) := S4
              clear S3
              go_wp2_with fail
              all_goals
                go_end0
                exact ⟨rfl, d3, (by have h := HF.out d3 HL3.out; first | exact h | (rw [h]; simp)), HZ3.out, S4.out⟩
        · have g1 : (a : Int) < (s : Int) := by omega
          have g2 : ¬ (s : Int) < (mid : Int) := by omega
          have g3 : ¬ (mid : Int) < (E : Int) := by omega
          have g4 : (E : Int) < (b : Int) := by omega
          have g5 : ¬ (s : Int) < (m : Int) := by omega
          have g6 : ¬ (m : Int) < (E : Int) := by omega
          clear hi hE hj mj x1 y1 x2 y2 AL
          have NY1 : Hid (Y1 = []) := by obtain ⟨hi, hE, hj, mj, x1, y1, x2, y2, AL⟩ := HJ.out; exact List.length_eq_zero_iff.1 (by omega)
          have NX2 : Hid (X2 = []) := by obtain ⟨hi, hE, hj, mj, x1, y1, x2, y2, AL⟩ := HJ.out; exact List.length_eq_zero_iff.1 (by omega)
          clear ci cj
          obtain ⟨d1, hd1⟩ : ∃ x, x = d := ⟨_, rfl⟩
          have HL1 : Hid (d1.toList = A ++ X1 ++ Y1 ++ (X2 ++ Y2 ++ C)) := by show _ = _; rw [hd1, HL0.out, NX2.out]; simp
          have HZ1 : Hid (d1.size = d.size) := by show _ = _; rw [hd1]
          have S2 : Aside (SWK enc k w0 blk off d1 wr) := by rw [hd1]; exact S1
          clear hd1
          clear S1
          obtain ⟨d2, hd2⟩ : ∃ x, x = d1 := ⟨_, rfl⟩
          have HL2 : Hid (d2.toList = A ++ mrg (ltOf cf) X1 Y1 ++ X2 ++ Y2 ++ C) := by show _ = _; rw [hd2, HL1.out, NY1.out, mrg_nil_right]; simp
          have HZ2 : Hid (d2.size = d.size) := by show _ = _; rw [hd2]; exact HZ1.out
          have S3 : Aside (SWK enc k w0 blk off d2 wr) := by rw [hd2]; exact S2
          clear hd2
          clear S2
          obtain ⟨d3, hd3⟩ : ∃ x, x = d2 := ⟨_, rfl⟩
          have HL3 : Hid (d3.toList = A ++ mrg (ltOf cf) X1 Y1 ++ mrg (ltOf cf) X2 Y2 ++ C) := by show _ = _; rw [hd3, HL2.out, NX2.out, mrg_nil_left]; simp
          have HZ3 : Hid (d3.size = d.size) := by show _ = _; rw [hd3]; exact HZ2.out
          have S4 : Aside (SWK enc k w0 blk off d3 wr) := by rw [hd3]; exact S3
          clear hd3
          clear S3
          go_wp2_with fail
          all_goals
            go_end0
            exact ⟨rfl, d3, (by have h := HF.out d3 HL3.out; first | exact h | (rw [h]; simp)), HZ3.out, S4.out⟩
        · have g1 : (a : Int) < (s : Int) := by omega
          have g2 : (s : Int) < (mid : Int) := by omega
          have g3 : ¬ (mid : Int) < (E : Int) := by omega
          have g4 : ¬ (E : Int) < (b : Int) := by omega
          have g5 : ¬ (s : Int) < (m : Int) := by omega
          have g6 : (m : Int) < (E : Int) := by omega
          clear hi hE hj mj x1 y1 x2 y2 AL
          have NX2 : Hid (X2 = []) := by obtain ⟨hi, hE, hj, mj, x1, y1, x2, y2, AL⟩ := HJ.out; exact List.length_eq_zero_iff.1 (by omega)
          have NY2 : Hid (Y2 = []) := by obtain ⟨hi, hE, hj, mj, x1, y1, x2, y2, AL⟩ := HJ.out; exact List.length_eq_zero_iff.1 (by omega)
          clear ci cj
          obtain ⟨d1, hd1⟩ : ∃ x, x = d := ⟨_, rfl⟩
          have HL1 : Hid (d1.toList = A ++ X1 ++ Y1 ++ (X2 ++ Y2 ++ C)) := by show _ = _; rw [hd1, HL0.out, NX2.out]; simp
          have HZ1 : Hid (d1.size = d.size) := by show _ = _; rw [hd1]
          have S2 : Aside (SWK enc k w0 blk off d1 wr) := by rw [hd1]; exact S1
          clear hd1
          clear S1
          have C2 := IH.out a s mid d1 _ (by omega) (by rw [HZ1.out]; exact HS.out.1) S2.out A X1 Y1 (X2 ++ Y2 ++ C) HL1.out (by obtain ⟨hi, hE, hj, mj, x1, y1, x2, y2, AL⟩ := HJ.out; omega) (by obtain ⟨hi, hE, hj, mj, x1, y1, x2, y2, AL⟩ := HJ.out; omega) (by obtain ⟨hi, hE, hj, mj, x1, y1, x2, y2, AL⟩ := HJ.out; omega) (by rintro rfl; obtain ⟨hi, hE, hj, mj, x1, y1, x2, y2, AL⟩ := HJ.out; simp at x2; omega) (by rintro rfl; obtain ⟨hi, hE, hj, mj, x1, y1, x2, y2, AL⟩ := HJ.out; simp at y2; omega) SX.out.1 SX.out.2.2.1
          rw [HZ1.out] at C2
          go_wp2_with fail
          all_goals
            refine C2.mono ?_
            clear C2
            rintro e w2 ⟨rfl, d2, hl2, hz2, S3⟩
            have HL2 : Hid (d2.toList = A ++ mrg (ltOf cf) X1 Y1 ++ X2 ++ Y2 ++ C) := by show _ = _; rw [hl2]; simp
            have HZ2 : Hid (d2.size = d.size) := hz2
            clear hl2 hz2
            have S3 : Aside (SWK enc k w0 blk off d2 w2) := S3
            clear S2
            obtain ⟨d3, hd3⟩ : ∃ x, x = d2 := ⟨_, rfl⟩
            have HL3 : Hid (d3.toList = A ++ mrg (ltOf cf) X1 Y1 ++ mrg (ltOf cf) X2 Y2 ++ C) := by show _ = _; rw [hd3, HL2.out, NX2.out, mrg_nil_left]; simp
            have HZ3 : Hid (d3.size = d.size) := by show _ = _; rw [hd3]; exact HZ2.out
            have S4 : Aside (SWK enc k w0 blk off d3 w2) := by rw [hd3]; exact S3
            clear hd3
            clear S3
            go_wp2_with fail
            all_goals
              go_end0
              exact ⟨rfl, d3, (by have h := HF.out d3 HL3.out; first | exact h | (rw [h]; simp)), HZ3.out, S4.out⟩
        · have g1 : (a : Int) < (s : Int) := by omega
          have g2 : (s : Int) < (mid : Int) := by omega
          have g3 : ¬ (mid : Int) < (E : Int) := by omega
          have g4 : (E : Int) < (b : Int) := by omega
          have g5 : ¬ (s : Int) < (m : Int) := by omega
          have g6 : (m : Int) < (E : Int) := by omega
          clear hi hE hj mj x1 y1 x2 y2 AL
          have NX2 : Hid (X2 = []) := by obtain ⟨hi, hE, hj, mj, x1, y1, x2, y2, AL⟩ := HJ.out; exact List.length_eq_zero_iff.1 (by omega)
          clear ci cj
          obtain ⟨d1, hd1⟩ : ∃ x, x = d := ⟨_, rfl⟩
          have HL1 : Hid (d1.toList = A ++ X1 ++ Y1 ++ (X2 ++ Y2 ++ C)) := by show _ = _; rw [hd1, HL0.out, NX2.out]; simp
          have HZ1 : Hid (d1.size = d.size) := by show _ = _; rw [hd1]
          have S2 : Aside (SWK enc k w0 blk off d1 wr) := by rw [hd1]; exact S1
          clear hd1
          clear S1
          have C2 := IH.out a s mid d1 _ (by omega) (by rw [HZ1.out]; exact HS.out.1) S2.out A X1 Y1 (X2 ++ Y2 ++ C) HL1.out (by obtain ⟨hi, hE, hj, mj, x1, y1, x2, y2, AL⟩ := HJ.out; omega) (by obtain ⟨hi, hE, hj, mj, x1, y1, x2, y2, AL⟩ := HJ.out; omega) (by obtain ⟨hi, hE, hj, mj, x1, y1, x2, y2, AL⟩ := HJ.out; omega) (by rintro rfl; obtain ⟨hi, hE, hj, mj, x1, y1, x2, y2, AL⟩ := HJ.out; simp at x2; omega) (by rintro rfl; obtain ⟨hi, hE, hj, mj, x1, y1, x2, y2, AL⟩ := HJ.out; simp at y2; omega) SX.out.1 SX.out.2.2.1
          rw [HZ1.out] at C2
          go_wp2_with fail
          all_goals
            refine C2.mono ?_
            clear C2
            rintro e w2 ⟨rfl, d2, hl2, hz2, S3⟩
            have HL2 : Hid (d2.toList = A ++ mrg (ltOf cf) X1 Y1 ++ X2 ++ Y2 ++ C) := by show _ = _; rw [hl2]; simp
            have HZ2 : Hid (d2.size = d.size) := hz2
            clear hl2 hz2
            have S3 : Aside (SWK enc k w0 blk off d2 w2) := S3
            clear S2
            obtain ⟨d3, hd3⟩ : ∃ x, x = d2 := ⟨_, rfl⟩
            have HL3 : Hid (d3.toList = A ++ mrg (ltOf cf) X1 Y1 ++ mrg (ltOf cf) X2 Y2 ++ C) := by show _ = _; rw [hd3, HL2.out, NX2.out, mrg_nil_left]; simp
            have HZ3 : Hid (d3.size = d.size) := by show _ = _; rw [hd3]; exact HZ2.out
            have S4 : Aside (SWK enc k w0 blk off d3 w2) := by rw [hd3]; exact S3
            clear hd3
            clear S3
            go_wp2_with fail
            all_goals
              go_end0
              exact ⟨rfl, d3, (by have h := HF.out d3 HL3.out; first | exact h | (rw [h]; simp)), HZ3.out, S4.out⟩
        · have g1 : (a : Int) < (s : Int) := by omega
          have g2 : ¬ (s : Int) < (mid : Int) := by omega
          have g3 : (mid : Int) < (E : Int) := by omega
          have g4 : (E : Int) < (b : Int) := by omega
          have g5 : (s : Int) < (m : Int) := by omega
          have g6 : ¬ (m : Int) < (E : Int) := by omega
          clear hi hE hj mj x1 y1 x2 y2 AL
          have NY1 : Hid (Y1 = []) := by obtain ⟨hi, hE, hj, mj, x1, y1, x2, y2, AL⟩ := HJ.out; exact List.length_eq_zero_iff.1 (by omega)
          clear ci cj
          obtain ⟨d1, hd1⟩ : ∃ x, x = d := ⟨_, rfl⟩
          have HL1 : Hid (d1.toList = A ++ X1 ++ Y1 ++ (X2 ++ Y2 ++ C)) := by show _ = _; rw [hd1, HL0.out, NY1.out]; simp
          have HZ1 : Hid (d1.size = d.size) := by show _ = _; rw [hd1]
          have S2 : Aside (SWK enc k w0 blk off d1 wr) := by rw [hd1]; exact S1
          clear hd1
          clear S1
          obtain ⟨d2, hd2⟩ : ∃ x, x = d1 := ⟨_, rfl⟩
          have HL2 : Hid (d2.toList = A ++ mrg (ltOf cf) X1 Y1 ++ X2 ++ Y2 ++ C) := by show _ = _; rw [hd2, HL1.out, NY1.out, mrg_nil_right]; simp
          have HZ2 : Hid (d2.size = d.size) := by show _ = _; rw [hd2]; exact HZ1.out
          have S3 : Aside (SWK enc k w0 blk off d2 wr) := by rw [hd2]; exact S2
          clear hd2
          clear S2
          have C3 := IH.out mid E b d2 _ (by omega) (by rw [HZ2.out]; exact HS.out.1) S3.out (A ++ mrg (ltOf cf) X1 Y1) X2 Y2 C HL2.out (by obtain ⟨hi, hE, hj, mj, x1, y1, x2, y2, AL⟩ := HJ.out; rw [List.length_append]; unfold mrg; rw [List.length_merge]; omega) (by obtain ⟨hi, hE, hj, mj, x1, y1, x2, y2, AL⟩ := HJ.out; omega) (by obtain ⟨hi, hE, hj, mj, x1, y1, x2, y2, AL⟩ := HJ.out; omega) (by rintro rfl; obtain ⟨hi, hE, hj, mj, x1, y1, x2, y2, AL⟩ := HJ.out; simp at x1; omega) (by rintro rfl; obtain ⟨hi, hE, hj, mj, x1, y1, x2, y2, AL⟩ := HJ.out; simp at y1; omega) SX.out.2.1 SX.out.2.2.2
          rw [HZ2.out] at C3
          go_wp2_with fail
          all_goals
            refine C3.mono ?_
            clear C3
            rintro e w3 ⟨rfl, d3, hl3, hz3, S4⟩
            have HL3 : Hid (d3.toList = A ++ mrg (ltOf cf) X1 Y1 ++ mrg (ltOf cf) X2 Y2 ++ C) := by show _ = _; rw [hl3]
            have HZ3 : Hid (d3.size = d.size) := hz3
            clear hl3 hz3
            have S4 : Aside (SWK enc k w0 blk off d3 w3) := S4
            clear S3
            go_wp2_with fail
            all_goals
              go_end0
              exact ⟨rfl, d3, (by have h := HF.out d3 HL3.out; first | exact h | (rw [h]; simp)), HZ3.out, S4.out⟩
        · have g1 : (a : Int) < (s : Int) := by omega
          have g2 : (s : Int) < (mid : Int) := by omega
          have g3 : (mid : Int) < (E : Int) := by omega
          have g4 : ¬ (E : Int) < (b : Int) := by omega
          have g5 : (s : Int) < (m : Int) := by omega
          have g6 : (m : Int) < (E : Int) := by omega
          clear hi hE hj mj x1 y1 x2 y2 AL
          have NY2 : Hid (Y2 = []) := by obtain ⟨hi, hE, hj, mj, x1, y1, x2, y2, AL⟩ := HJ.out; exact List.length_eq_zero_iff.1 (by omega)
          clear ci cj
          have C1 := rotate_list B F40 F33 enc g cb blk off cap s m E d0 d w0 wr R HS.out.1 S1.out (A ++ X1) X2 Y1 (Y2 ++ C) HL0.out (by obtain ⟨hi, hE, hj, mj, x1, y1, x2, y2, AL⟩ := HJ.out; rw [List.length_append]; omega) (by obtain ⟨hi, hE, hj, mj, x1, y1, x2, y2, AL⟩ := HJ.out; omega) (by obtain ⟨hi, hE, hj, mj, x1, y1, x2, y2, AL⟩ := HJ.out; omega) (by obtain ⟨hi, hE, hj, mj, x1, y1, x2, y2, AL⟩ := HJ.out; omega) (by obtain ⟨hi, hE, hj, mj, x1, y1, x2, y2, AL⟩ := HJ.out; omega) (by have := HS.out.2; omega)
          go_wp2_with fail
          all_goals
            refine C1.mono ?_
            clear C1
            rintro e w1 ⟨rfl, d1, hl1, hz1, S2⟩
            have HL1 : Hid (d1.toList = A ++ X1 ++ Y1 ++ (X2 ++ Y2 ++ C)) := by show _ = _; rw [hl1]; simp
            have HZ1 := Lib.hid hz1
            clear hl1 hz1
            have S2 : Aside (SWK enc k w0 blk off d1 w1) := S2
            clear S1
            have C2 := IH.out a s mid d1 _ (by omega) (by rw [HZ1.out]; exact HS.out.1) S2.out A X1 Y1 (X2 ++ Y2 ++ C) HL1.out (by obtain ⟨hi, hE, hj, mj, x1, y1, x2, y2, AL⟩ := HJ.out; omega) (by obtain ⟨hi, hE, hj, mj, x1, y1, x2, y2, AL⟩ := HJ.out; omega) (by obtain ⟨hi, hE, hj, mj, x1, y1, x2, y2, AL⟩ := HJ.out; omega) (by rintro rfl; obtain ⟨hi, hE, hj, mj, x1, y1, x2, y2, AL⟩ := HJ.out; simp at x2; omega) (by rintro rfl; obtain ⟨hi, hE, hj, mj, x1, y1, x2, y2, AL⟩ := HJ.out; simp at y2; omega) SX.out.1 SX.out.2.2.1
            rw [HZ1.out] at C2
            go_wp2_with fail
            all_goals
              refine C2.mono ?_
              clear C2
              rintro e w2 ⟨rfl, d2, hl2, hz2, S3⟩
              have HL2 : Hid (d2.toList = A ++ mrg (ltOf cf) X1 Y1 ++ X2 ++ Y2 ++ C) := by show _ = _; rw [hl2]; simp
              have HZ2 : Hid (d2.size = d.size) := hz2
              clear hl2 hz2
              have S3 : Aside (SWK enc k w0 blk off d2 w2) := S3
              clear S2
              obtain ⟨d3, hd3⟩ : ∃ x, x = d2 := ⟨_, rfl⟩
              have HL3 : Hid (d3.toList = A ++ mrg (ltOf cf) X1 Y1 ++ mrg (ltOf cf) X2 Y2 ++ C) := by show _ = _; rw [hd3, HL2.out, NY2.out, mrg_nil_right]; simp
              have HZ3 : Hid (d3.size = d.size) := by show _ = _; rw [hd3]; exact HZ2.out
              have S4 : Aside (SWK enc k w0 blk off d3 w2) := by rw [hd3]; exact S3
              clear hd3
              clear S3
              go_wp2_with fail
              all_goals
                go_end0
                exact ⟨rfl, d3, (by have h := HF.out d3 HL3.out; first | exact h | (rw [h]; simp)), HZ3.out, S4.out⟩
        · have g1 : (a : Int) < (s : Int) := by omega
          have g2 : (s : Int) < (mid : Int) := by omega
          have g3 : (mid : Int) < (E : Int) := by omega
          have g4 : (E : Int) < (b : Int) := by omega
          have g5 : (s : Int) < (m : Int) := by omega
          have g6 : (m : Int) < (E : Int) := by omega
          clear hi hE hj mj x1 y1 x2 y2 AL
          clear ci cj
          have C1 := rotate_list B F40 F33 enc g cb blk off cap s m E d0 d w0 wr R HS.out.1 S1.out (A ++ X1) X2 Y1 (Y2 ++ C) HL0.out (by obtain ⟨hi, hE, hj, mj, x1, y1, x2, y2, AL⟩ := HJ.out; rw [List.length_append]; omega) (by obtain ⟨hi, hE, hj, mj, x1, y1, x2, y2, AL⟩ := HJ.out; omega) (by obtain ⟨hi, hE, hj, mj, x1, y1, x2, y2, AL⟩ := HJ.out; omega) (by obtain ⟨hi, hE, hj, mj, x1, y1, x2, y2, AL⟩ := HJ.out; omega) (by obtain ⟨hi, hE, hj, mj, x1, y1, x2, y2, AL⟩ := HJ.out; omega) (by have := HS.out.2; omega)
          go_wp2_with fail
          all_goals
            refine C1.mono ?_
            clear C1
            rintro e w1 ⟨rfl, d1, hl1, hz1, S2⟩
            have HL1 : Hid (d1.toList = A ++ X1 ++ Y1 ++ (X2 ++ Y2 ++ C)) := by show _ = _; rw [hl1]; simp
            have HZ1 := Lib.hid hz1
            clear hl1 hz1
            have S2 : Aside (SWK enc k w0 blk off d1 w1) := S2
            clear S1
            have C2 := IH.out a s mid d1 _ (by omega) (by rw [HZ1.out]; exact HS.out.1) S2.out A X1 Y1 (X2 ++ Y2 ++ C) HL1.out (by obtain ⟨hi, hE, hj, mj, x1, y1, x2, y2, AL⟩ := HJ.out; omega) (by obtain ⟨hi, hE, hj, mj, x1, y1, x2, y2, AL⟩ := HJ.out; omega) (by obtain ⟨hi, hE, hj, mj, x1, y1, x2, y2, AL⟩ := HJ.out; omega) (by rintro rfl; obtain ⟨hi, hE, hj, mj, x1, y1, x2, y2, AL⟩ := HJ.out; simp at x2; omega) (by rintro rfl; obtain ⟨hi, hE, hj, mj, x1, y1, x2, y2, AL⟩ := HJ.out; simp at y2; omega) SX.out.1 SX.out.2.2.1
            rw [HZ1.out] at C2
            go_wp2_with fail
            all_goals
              refine C2.mono ?_
              clear C2
              rintro e w2 ⟨rfl, d2, hl2, hz2, S3⟩
              have HL2 : Hid (d2.toList = A ++ mrg (ltOf cf) X1 Y1 ++ X2 ++ Y2 ++ C) := by show _ = _; rw [hl2]; simp
              have HZ2 : Hid (d2.size = d.size) := hz2
              clear hl2 hz2
              have S3 : Aside (SWK enc k w0 blk off d2 w2) := S3
              clear S2
              have C3 := IH.out mid E b d2 _ (by omega) (by rw [HZ2.out]; exact HS.out.1) S3.out (A ++ mrg (ltOf cf) X1 Y1) X2 Y2 C HL2.out (by obtain ⟨hi, hE, hj, mj, x1, y1, x2, y2, AL⟩ := HJ.out; rw [List.length_append]; unfold mrg; rw [List.length_merge]; omega) (by obtain ⟨hi, hE, hj, mj, x1, y1, x2, y2, AL⟩ := HJ.out; omega) (by obtain ⟨hi, hE, hj, mj, x1, y1, x2, y2, AL⟩ := HJ.out; omega) (by rintro rfl; obtain ⟨hi, hE, hj, mj, x1, y1, x2, y2, AL⟩ := HJ.out; simp at x1; omega) (by rintro rfl; obtain ⟨hi, hE, hj, mj, x1, y1, x2, y2, AL⟩ := HJ.out; simp at y1; omega) SX.out.2.1 SX.out.2.2.2
              rw [HZ2.out] at C3
              go_wp2_with fail
              all_goals
                refine C3.mono ?_
                clear C3
                rintro e w3 ⟨rfl, d3, hl3, hz3, S4⟩
                have HL3 : Hid (d3.toList = A ++ mrg (ltOf cf) X1 Y1 ++ mrg (ltOf cf) X2 Y2 ++ C) := by show _ = _; rw [hl3]
                have HZ3 : Hid (d3.size = d.size) := hz3
                clear hl3 hz3
                have S4 : Aside (SWK enc k w0 blk off d3 w3) := S4
                clear S3
                go_wp2_with fail
                all_goals
                  go_end0
                  exact ⟨rfl, d3, (by have h := HF.out d3 HL3.out; first | exact h | (rw [h]; simp)), HZ3.out, S4.out⟩
end Go.Proofs.YtjbckpoepfbgbaaDoor.Srt
end
section
/- Sorting block by block and merging the blocks, as lists; the library's sort by insertion as 'isort'. No program in sight. -/
set_option linter.unusedVariables false
set_option maxRecDepth 20000
set_option linter.unusedSectionVars false
namespace Go.Proofs.YtjbckpoepfbgbaaDoor.Srt
open Go.Sort Go.Proofs.YtjbckpoepfbgbaaDoor.Mrg
variable {α : Type} [Inhabited α] (lt : α → α → Bool)
theorem ins_snoc_ge {lt : α → α → Bool} (x y : α) (S : List α) (h : lt x y = false) (hS : ∀ z ∈ S, lt x z = false) : ins lt x (S ++ [y]) = S ++ [y, x] := by
  induction S with
  | nil => simp [ins, h]
  | cons z S ih =>
    rw [List.cons_append, ins, if_neg (by rw [hS z (List.mem_cons_self ..)]; decide), ih (fun z hz => hS z (List.mem_cons_of_mem _ hz))]; rfl
theorem ins_snoc_lt {lt : α → α → Bool} (x y : α) (S : List α) (h : lt x y = true) : ins lt x (S ++ [y]) = ins lt x S ++ [y] := by
  induction S with
  | nil => simp [ins, h]
  | cons z S ih =>
    rw [List.cons_append, ins]
    by_cases hz : lt x z = true
    · rw [if_pos hz, ins, if_pos hz]; rfl
    · rw [if_neg hz, ih, ins, if_neg hz]; rfl
/-- One step of the sort by insertion. -/
theorem insInner_list {lt : α → α → Bool} (SO : SWO lt) (A T : List α) (x : α) (n : Nat) : ∀ (d : Array α) (S U : List α), S.length = n → Srt lt S → d.toList = A ++ S ++ x :: (U ++ T) → (insInner lt A.length (A.length + n) d).toList = A ++ ins lt x S ++ (U ++ T) := by
  induction n with
  | zero =>
    intro d S U hS hs h
    rw [List.length_eq_zero_iff.1 hS] at h ⊢
    rw [insInner_stop _ _ _ _ (Or.inl (by omega)), h]; simp [ins]
  | succ n ih =>
    intro d S U hS hs h
    have eS : S ≠ [] := by intro e; rw [e] at hS; simp at hS
    obtain ⟨S0, y, rfl⟩ : ∃ l c, S = l ++ [c] := ⟨S.dropLast, S.getLast eS, (List.dropLast_concat_getLast eS).symm⟩
    have l0 : S0.length = n := by simpa using hS
    obtain ⟨s1, s2, s3⟩ := List.pairwise_append.1 hs
    have dx : d[A.length + (n + 1)]! = x := by
      have := at_list d (A ++ (S0 ++ [y])) [x] (U ++ T) (by rw [h]; simp) 0 (by simp)
      rw [Nat.add_zero, List.length_append, hS] at this; exact this
    have dy : d[A.length + (n + 1) - 1]! = y := by
      have := at_list d (A ++ S0) [y] (x :: (U ++ T)) (by rw [h]; simp) 0 (by simp)
      rw [Nat.add_zero, List.length_append, l0] at this
      rw [show A.length + (n + 1) - 1 = A.length + n by omega]; exact this
    by_cases hc : lt x y = true
    · rw [insInner_go _ _ _ _ (by omega) (by rw [dx, dy]; exact hc)]
      rw [show A.length + (n + 1) - 1 = A.length + n by omega]
      have hsw : (swp d (A.length + (n + 1)) (A.length + n)).toList = A ++ S0 ++ x :: ((y :: U) ++ T) := by
        rw [swp_comm _ _ _ (by omega)]
        rw [swp_list d (A ++ S0) [] (U ++ T) y x _ _ (by rw [h]; simp only [List.append_assoc, List.cons_append, List.nil_append]) (by rw [List.length_append, l0]) (by rw [List.length_append, l0]; simp; omega)]
        simp only [List.append_assoc, List.cons_append, List.nil_append]
      rw [ih _ S0 (y :: U) l0 s1 hsw, ins_snoc_lt x y S0 hc]
      simp only [List.append_assoc, List.cons_append, List.nil_append]
    · have hc' : lt x y = false := by simpa using hc
      rw [insInner_stop _ _ _ _ (Or.inr (by rw [dx, dy]; exact hc')), h, ins_snoc_ge x y S0 hc' (fun z hz => ?_)]
      · simp
      · cases e : lt x z with
        | false => rfl
        | true =>
          have := lt_up SO e (s3 z hz y (by simp))
          rw [hc'] at this; exact absurd this (by decide)
theorem isort_len {lt : α → α → Bool} (X : List α) : (isort lt X).length = X.length := by
  have H : ∀ (X s : List α), (X.foldl (fun s x => ins lt x s) s).length = s.length + X.length := by
    intro X
    induction X with
    | nil => intro s; rfl
    | cons x X ih =>
      intro s
      rw [List.foldl_cons, ih]
      have : ∀ s : List α, (ins lt x s).length = s.length + 1 := by
        intro s
        induction s with
        | nil => rfl
        | cons y s ih => unfold ins; split <;> simp [ih]
      rw [this, List.length_cons]; omega
  have := H X []
  simpa [isort] using this
theorem insOuter_list {lt : α → α → Bool} (SO : SWO lt) (A T : List α) (n : Nat) : ∀ (d : Array α) (X Z : List α), Z.length = n → d.toList = A ++ isort lt X ++ Z ++ T → (insOuter lt A.length (A.length + X.length + n) (A.length + X.length) d).toList = A ++ isort lt (X ++ Z) ++ T := by
  induction n with
  | zero =>
    intro d X Z hZ h
    rw [List.length_eq_zero_iff.1 hZ] at h ⊢
    rw [insOuter_stop _ _ _ _ _ (by omega), h]; simp
  | succ n ih =>
    intro d X Z hZ h
    obtain ⟨z, Z, rfl⟩ : ∃ z l, Z = z :: l := by
      cases Z with
      | nil => simp at hZ
      | cons z Z => exact ⟨z, Z, rfl⟩
    have lZ : Z.length = n := by simpa using hZ
    rw [insOuter_go _ _ _ _ _ (by omega)]
    have lx : (isort lt X).length = X.length := isort_len X
    have h1 := insInner_list SO A T z X.length d (isort lt X) Z lx (isort_srt SO X) (by rw [h]; simp only [List.append_assoc, List.cons_append])
    have h2 := ih (insInner lt A.length (A.length + X.length) d) (X ++ [z]) Z lZ (by rw [h1, isort_snoc]; simp only [List.append_assoc])
    rw [List.length_append, List.length_singleton] at h2
    rw [show A.length + X.length + (n + 1) = A.length + (X.length + 1) + n by omega, show A.length + X.length + 1 = A.length + (X.length + 1) by omega, h2]
    simp
/-- The library's sort by insertion of a part of a row. -/
theorem insertion_list {lt : α → α → Bool} (SO : SWO lt) (d : Array α) (A X T : List α) (h : d.toList = A ++ X ++ T) : (insertionSort lt d A.length (A.length + X.length)).toList = A ++ isort lt X ++ T := by
  unfold insertionSort
  cases X with
  | nil => rw [insOuter_stop _ _ _ _ _ (by simp), h]; rfl
  | cons x X =>
    have := insOuter_list SO A T X.length d [x] X rfl (by rw [h]; simp [isort, ins])
    rw [List.length_singleton] at this
    rw [List.length_cons, show A.length + (X.length + 1) = A.length + 1 + X.length by omega, this]; rfl
/-- A list whose blocks of s are sorted each for itself. -/
inductive Blk (s : Nat) : List α → List α → Prop
  | last (l : List α) : l.length ≤ s → Blk s l (isort lt l)
  | more (X Y r : List α) : X.length = s → Blk s Y r → Blk s (X ++ Y) (isort lt X ++ r)
variable {lt}
theorem Blk.nil (s : Nat) : Blk lt s ([] : List α) [] := Blk.last (lt := lt) (s := s) [] (Nat.zero_le _)
theorem Blk.len {s : Nat} {l r : List α} (h : Blk lt s l r) : r.length = l.length := by
  induction h with
  | last l _ => exact isort_len l
  | more X Y r hX h ih => rw [List.length_append, List.length_append, isort_len, ih]
/-- Two whole blocks at the head. -/
theorem Blk.two {s : Nat} (hs : 0 < s) {l r : List α} (h : Blk lt s l r) (hl : 2 * s ≤ l.length) : ∃ X Y Z q, l = X ++ Y ++ Z ∧ X.length = s ∧ Y.length = s ∧ r = isort lt X ++ isort lt Y ++ q ∧ Blk lt s Z q := by
  cases h with
  | last _ h => omega
  | more X Y r hX h =>
    rw [List.length_append] at hl
    cases h with
    | last _ h => exact ⟨X, Y, [], [], by simp, hX, by omega, by simp, Blk.nil s⟩
    | more Y Z q hY h => exact ⟨X, Y, Z, q, by simp, hX, hY, by simp, h⟩
/-- One whole block at the head, and less than another one. -/
theorem Blk.rest {s : Nat} (hs : 0 < s) {l r : List α} (h : Blk lt s l r) (h1 : s < l.length) (h2 : l.length < 2 * s) : ∃ X Y, l = X ++ Y ∧ X.length = s ∧ r = isort lt X ++ isort lt Y := by
  cases h with
  | last _ h => omega
  | more X Y r hX h =>
    rw [List.length_append] at h1 h2
    cases h with
    | last _ h => exact ⟨X, Y, rfl, hX, rfl⟩
    | more Y Z q hY h => rw [List.length_append] at h2; omega
theorem Blk.only {s : Nat} (hs : 0 < s) {l r : List α} (h : Blk lt s l r) (h1 : l.length ≤ s) : r = isort lt l := by
  cases h with
  | last _ h => rfl
  | more X Y r hX h =>
    rw [List.length_append] at h1
    have hY : Y = [] := List.length_eq_zero_iff.1 (by omega)
    subst hY
    have := h.len
    have hr : r = [] := List.length_eq_zero_iff.1 (by simpa using this)
    rw [hr]; simp
end Go.Proofs.YtjbckpoepfbgbaaDoor.Srt
end
section
/- The library's stable sort of a row of members: it holds the same members behind it, each behind all that it is not less than ('isort'). -/
set_option linter.unusedVariables false
set_option maxRecDepth 20000
set_option linter.unusedSectionVars false
namespace Go.Proofs.YtjbckpoepfbgbaaDoor.Srt
open Go.Shelf Go.RowKit Go.Lib Go.Sort Go.Proofs.YtjbckpoepfbgbaaDoor.Mrg
variable {α : Type} [Inhabited α]
/-- What a program's functions are. -/
structure Bod (P : Program) : Prop where
  f16 : P.funcs[46]? = some Tryd.f46
  f25 : P.funcs[59]? = some Tryd.f59
  f30 : P.funcs[73]? = some Tryd.f73
  f32 : P.funcs[87]? = some Tryd.f87
  f33 : P.funcs[100]? = some Tryd.f100
theorem symMerge {P : Program} {k : Nat} (B : Bas P k) (F : Bod P) (enc : α → List Value) (cf : α → α → Int) (g : Nat) (cb : Array Value) (blk off cap : Nat) (d0 : Array α) (w0 : World)
    (eg : ∀ args w, (callFunc g args).run P w = .ok (.enter g args) w) (hcmp : CmpLays P g cb enc k cf blk off d0.size w0) (SO : SWO (ltOf cf)) (R : RowK enc k w0 blk off d0) (hsz : d0.size < 4611686018427387904) (N : Nat) :
    ∀ (a m b : Nat) (d : Array α) (w : World), b - a < N → d0.size = d.size → SWK enc k w0 blk off d w → SymSays P enc k cf g cb blk off cap w0 a m b d w := by
  induction N with
  | zero => intro a m b d w h; omega
  | succ N ih =>
    intro a m b d w hN hs S A X Y C hd hA hm hb nX nY sX sY
    have lX : 0 < X.length := List.length_pos_iff.2 nX
    have lY : 0 < Y.length := List.length_pos_iff.2 nY
    by_cases h1 : X.length = 1
    · obtain ⟨x, rfl⟩ := List.length_eq_one_iff.1 h1
      exact sym_left B F.f30 enc cf g cb blk off cap a m b d0 d w0 w eg hcmp SO R hs S A Y C x hd hA hm hb sY (by omega)
    · by_cases h2 : Y.length = 1
      · obtain ⟨y, rfl⟩ := List.length_eq_one_iff.1 h2
        exact sym_right B F.f30 enc cf g cb blk off cap a m b d0 d w0 w eg hcmp SO R hs S A X C y hd hA hm h1 hb sX (by omega)
      · exact sym_step B F.f30 F.f32 F.f33 enc cf g cb blk off cap a m b d0 d w0 w eg hcmp SO R hs S (by omega) (fun a' m' b' d' w' h3 h4 h5 => ih a' m' b' d' w' (by omega) h4 h5) A X Y C hd hA hm hb (by omega) (by omega) sX sY
/-- What the library's sort by insertion comes to. -/
def InsSays (P : Program) (enc : α → List Value) (k : Nat) (cf : α → α → Int) (g : Nat) (cb : Array Value) (blk off cap : Nat) (w0 : World) (n0 : Nat) : Prop :=
  ∀ (a b : Nat) (d : Array α) (w : World) (A X C : List α), n0 = d.size → SWK enc k w0 blk off d w → d.toList = A ++ X ++ C → A.length = a → b = a + X.length →
    Calls P 72 #[.slice (some ⟨blk, off, none⟩) d.size cap, .int .i64 a, .int .i64 b, .func (.func g) #[] cb] w fun e w' => e = .returned (.tuple #[]) ∧ ∃ d' : Array α, d'.toList = A ++ isort (ltOf cf) X ++ C ∧ d'.size = d.size ∧ SWK enc k w0 blk off d' w'
set_option maxHeartbeats 8000000 in
set_option maxRecDepth 1000000 in
theorem stable {P : Program} {k : Nat} (B : Bas P k) (F : Bod P) (enc : α → List Value) (cf : α → α → Int) (g : Nat) (cb : Array Value) (blk off cap : Nat) (d : Array α) (w : World) (e29 : ∀ args w, (callFunc 72 args).run P w = .ok (.enter 72 args) w)
    (eg : ∀ args w, (callFunc g args).run P w = .ok (.enter g args) w) (hcmp : CmpLays P g cb enc k cf blk off d.size w) (SO : SWO (ltOf cf)) (R : RowK enc k w blk off d) (INS : InsSays P enc k cf g cb blk off cap w d.size) (hsz : d.size < 1000000000000000000) :
    Calls P 59 #[.slice (some ⟨blk, off, none⟩) d.size cap, .int .i64 d.size, .func (.func g) #[] cb] w fun e w' => e = .returned (.tuple #[]) ∧ ∃ d' : Array α, d'.toList = isort (ltOf cf) d.toList ∧ d'.size = d.size ∧ SWK enc k w blk off d' w' := by
  have mixed := B.mixed; have t0 := B.t0; have a0 := B.a0; have z0 := B.z0; have v0 := B.v0; have t3 := B.t3; have a3 := B.a3; have z3 := B.z3; have v3 := B.v3; have t4 := B.t4; have a4 := B.a4; have z4 := B.z4; have v4 := B.v4; have t24 := B.t24; have a24 := B.a24; have z24 := B.z24; have v24 := B.v24; have t63 := B.t63; have a63 := B.a63; have z63 := B.z63; have v63 := B.v63; have aE := B.aE; have zE := B.zE
  have S0 : Aside (SWK enc k w blk off d w) := SWK.start R.hH
  have SYM : Aside _ := symMerge B F enc cf g cb blk off cap d w eg hcmp SO R (by omega) (d.size + 1)
  have IN : Aside _ := INS
  clear INS hcmp
  obtain ⟨l0, hl0⟩ : ∃ l, l = d.toList := ⟨_, rfl⟩
  have hln : l0.length = d.size := by rw [hl0, Array.length_toList]
  obtain ⟨n, hn⟩ : ∃ n, n = d.size := ⟨_, rfl⟩
  rw [← hn] at hsz hln ⊢
  have HN : Hid (n = d.size ∧ l0 = d.toList ∧ l0.length = n) := ⟨hn, hl0, hln⟩
  rw [← hl0]
  clear hn hl0 hln
  go_enter F.f25, Tryd.ntmps59
  have E30 : ∀ args w, (callFunc 73 args).run P w = .ok (.enter 73 args) w := enters_of F.f30 (by kernel_rfl) rfl
  go_wp2_with fail
  go_loopg [7, 8] n (fun kx s7 s8 wr => ∃ (a b : Nat) (dk : Array α), s7 = .int .i64 a ∧ s8 = .int .i64 b ∧ b ≤ a + 20 ∧ a + 20 ≤ b ∧ a ≤ n ∧ n - a ≤ kx ∧ dk.size = n ∧ Aside (SWK enc k w blk off dk wr) ∧ Hid (∃ Q : List α, Q.length = a ∧ dk.toList = Q ++ l0.drop a ∧ ∀ r, Blk (ltOf cf) 20 (l0.drop a) r → Blk (ltOf cf) 20 l0 (Q ++ r)))
  case atStart => exact ⟨0, 20, d, rfl, rfl, Nat.le_refl _, Nat.le_refl _, Nat.zero_le _, Nat.le_refl _, HN.out.1.symm, S0, ⟨[], rfl, by rw [HN.out.2.1]; rfl, fun r h => h⟩⟩
  case round =>
    clear S0
    obtain ⟨a, b, dk, rfl, rfl, hb1, hb2, han, hkx, hsk, S1, HI⟩ := hrel
    by_cases hlt : (b : Int) ≤ (n : Int)
    · obtain ⟨Q, hQ, hl, hq⟩ := HI.out
      have lx : ((l0.drop a).take 20).length = 20 := by rw [List.length_take, List.length_drop, HN.out.2.2]; omega
      have C1 := IN.out a b dk wr Q ((l0.drop a).take 20) ((l0.drop a).drop 20) (by rw [hsk]; exact HN.out.1.symm) S1.out (by rw [hl, List.append_assoc, List.take_append_drop]) hQ (by omega)
      rw [hsk] at C1
      have HJ : Hid (Q.length = a ∧ ((l0.drop a).take 20).length = 20 ∧ ∀ r, Blk (ltOf cf) 20 (l0.drop (a + 20)) r → Blk (ltOf cf) 20 l0 (Q ++ isort (ltOf cf) ((l0.drop a).take 20) ++ r)) := by
        refine ⟨hQ, lx, fun r h => ?_⟩
        have := Blk.more (lt := ltOf cf) _ _ _ lx h
        rw [← List.drop_drop, List.take_append_drop] at this
        rw [List.append_assoc]; exact hq _ this
      clear hQ hl hq lx HI S1
      go_wp2_with fail
      refine C1.mono ?_
      clear C1
      rintro e w1 ⟨rfl, d1, hl1, hz1, S2⟩
      have HL := Lib.hid hl1
      have HZ : Hid (d1.size = n) := hz1
      have S2 : Aside (SWK enc k w blk off d1 w1) := S2
      clear hl1 hz1
      go_wp2_with fail
      go_roundg (n - b)
      case measure => omega
      case rel => exact ⟨b, b + 20, d1, rfl, by go_num, by omega, by omega, by omega, Nat.le_refl _, HZ.out, S2, ⟨Q ++ isort (ltOf cf) ((l0.drop a).take 20), by rw [List.length_append, isort_len, HJ.out.1, HJ.out.2.1]; omega, by rw [HL.out, List.drop_drop, show a + 20 = b by omega], by have := HJ.out.2.2; rw [show a + 20 = b by omega] at this; exact this⟩⟩
    · obtain ⟨Q, hQ, hl, hq⟩ := HI.out
      have lx : (l0.drop a).length = n - a := by rw [List.length_drop, HN.out.2.2]
      have C1 := IN.out a n dk wr Q (l0.drop a) [] (by rw [hsk]; exact HN.out.1.symm) S1.out (by rw [hl, List.append_nil]) hQ (by omega)
      rw [hsk] at C1
      have HJ : Hid (Blk (ltOf cf) 20 l0 (Q ++ isort (ltOf cf) (l0.drop a))) := hq _ (Blk.last _ (by omega))
      clear hQ hl hq lx HI S1
      go_wp2_with fail
      refine C1.mono ?_
      clear C1
      rintro e w1 ⟨rfl, d1, hl1, hz1, S2⟩
      have HL : Hid (Blk (ltOf cf) 20 l0 d1.toList) := by show Blk _ _ _ _; rw [hl1, List.append_nil]; exact HJ.out
      have HZ : Hid (d1.size = n) := hz1
      have S2 : Aside (SWK enc k w blk off d1 w1) := S2
      clear hl1 hz1 HJ hlt hb1 hb2 hkx hsk han
      go_wp2_with fail
      go_loopg [6, 7, 8, 9] (n + 1) (fun kx s6 s7 s8 s9 w2 => ∃ (s : Nat) (dk : Array α), s6 = .int .i64 s ∧ 0 < s ∧ s ≤ 2 * n + 20 ∧ n + 1 - s ≤ kx ∧ dk.size = n ∧ Aside (SWK enc k w blk off dk w2) ∧ Hid (Blk (ltOf cf) s l0 dk.toList))
      case atStart => exact ⟨20, d1, rfl, by omega, by omega, by omega, HZ.out, S2, HL⟩
      case round =>
        clear S2 HL HZ
        obtain ⟨s, dk, rfl, hs0, hs1, hkx, hsk, S1, HB⟩ := hrel
        by_cases hlt : (s : Int) < (n : Int)
        · go_wp2_with fail
          go_loopg [7, 8] n (fun kx s7 s8 w3 => ∃ (a b : Nat) (dk : Array α), s7 = .int .i64 a ∧ s8 = .int .i64 b ∧ b ≤ a + 2 * s ∧ a + 2 * s ≤ b ∧ a ≤ n ∧ n - a ≤ kx ∧ dk.size = n ∧ Aside (SWK enc k w blk off dk w3) ∧ Hid (∃ Q q : List α, Q.length = a ∧ dk.toList = Q ++ q ∧ Blk (ltOf cf) s (l0.drop a) q ∧ ∀ r, Blk (ltOf cf) (2 * s) (l0.drop a) r → Blk (ltOf cf) (2 * s) l0 (Q ++ r)))
          case atStart => exact ⟨0, 2 * s, dk, rfl, by go_num, by omega, by omega, Nat.zero_le _, Nat.le_refl _, hsk, S1, ⟨[], dk.toList, rfl, rfl, HB.out, fun r h => h⟩⟩
          case round =>
            clear S1 HB
            obtain ⟨a, b, dk, rfl, rfl, hb1, hb2, han, hkx2, hsk, S1, HI⟩ := hrel
            by_cases hle : (b : Int) ≤ (n : Int)
            · obtain ⟨Q, q, hQ, hl, hbq, hq⟩ := HI.out
              obtain ⟨X, Y, Z, q2, e1, e2, e3, e4, e5⟩ := Blk.two hs0 hbq (by rw [List.length_drop, HN.out.2.2]; omega)
              have eZ : l0.drop b = Z := by
                rw [show b = a + 2 * s by omega, ← List.drop_drop, e1, List.drop_left' (by rw [List.length_append]; omega)]
              have nX : isort (ltOf cf) X ≠ [] := by intro h; have := congrArg List.length h; rw [isort_len, e2] at this; simp at this; omega
              have nY : isort (ltOf cf) Y ≠ [] := by intro h; have := congrArg List.length h; rw [isort_len, e3] at this; simp at this; omega
              obtain ⟨z, hz⟩ : ∃ z, z = a + s := ⟨_, rfl⟩
              have C1 := SYM.out a z b dk wr (by have := HN.out.1; omega) (by rw [hsk]; exact HN.out.1.symm) S1.out Q (isort (ltOf cf) X) (isort (ltOf cf) Y) q2 (by rw [hl, e4]; simp) hQ (by rw [isort_len, e2]; exact hz) (by rw [isort_len, e3]; omega) nX nY (isort_srt SO X) (isort_srt SO Y)
              rw [hsk, mrg_isort SO] at C1
              have HJ : Hid (Q.length = a ∧ (X ++ Y).length = 2 * s ∧ Blk (ltOf cf) s (l0.drop b) q2 ∧ ∀ r, Blk (ltOf cf) (2 * s) (l0.drop b) r → Blk (ltOf cf) (2 * s) l0 (Q ++ isort (ltOf cf) (X ++ Y) ++ r)) := by
                have e6 : (X ++ Y).length = 2 * s := by rw [List.length_append]; omega
                refine ⟨hQ, e6, by rw [eZ]; exact e5, fun r h => ?_⟩
                rw [eZ] at h
                rw [List.append_assoc]
                refine hq _ ?_
                rw [e1]
                exact Blk.more _ _ _ e6 h
              have eas : (a : Int) + (s : Int) = (z : Int) := by omega
              clear hQ hl hbq hq e1 e2 e3 e4 e5 eZ nX nY HI S1 hz
              go_wp2_with fail
              refine C1.mono ?_
              clear C1
              rintro e w4 ⟨rfl, d1, hl1, hz1, S2⟩
              have HL := Lib.hid hl1
              have HZ : Hid (d1.size = n) := hz1
              have S2 : Aside (SWK enc k w blk off d1 w4) := S2
              clear hl1 hz1 eas
              go_wp2_with fail
              go_roundg (n - b)
              case measure => omega
              case rel => exact ⟨b, b + 2 * s, d1, rfl, by go_num, by omega, by omega, by omega, Nat.le_refl _, HZ.out, S2, ⟨Q ++ isort (ltOf cf) (X ++ Y), q2, by rw [List.length_append, isort_len, HJ.out.1, HJ.out.2.1]; omega, HL.out, HJ.out.2.2.1, HJ.out.2.2.2⟩⟩
            · by_cases hm : (a : Int) + (s : Int) < (n : Int)
              · obtain ⟨Q, q, hQ, hl, hbq, hq⟩ := HI.out
                have ld : (l0.drop a).length = n - a := by rw [List.length_drop, HN.out.2.2]
                obtain ⟨X, Y, e1, e2, e3⟩ := Blk.rest hs0 hbq (by omega) (by omega)
                have lY : X.length + Y.length = n - a := by rw [← ld, e1, List.length_append]
                have nX : isort (ltOf cf) X ≠ [] := by intro h; have := congrArg List.length h; rw [isort_len, e2] at this; simp at this; omega
                have nY : isort (ltOf cf) Y ≠ [] := by intro h; have := congrArg List.length h; rw [isort_len] at this; simp at this; rw [this] at lY; simp at lY; omega
                obtain ⟨z, hz⟩ : ∃ z, z = a + s := ⟨_, rfl⟩
                have C1 := SYM.out a z n dk wr (by have := HN.out.1; omega) (by rw [hsk]; exact HN.out.1.symm) S1.out Q (isort (ltOf cf) X) (isort (ltOf cf) Y) [] (by rw [hl, e3]; simp) hQ (by rw [isort_len, e2]; exact hz) (by rw [isort_len]; omega) nX nY (isort_srt SO X) (isort_srt SO Y)
                rw [hsk, mrg_isort SO] at C1
                have HJ : Hid (Blk (ltOf cf) (2 * s) l0 (Q ++ isort (ltOf cf) (X ++ Y))) := by
                  refine hq _ ?_
                  rw [e1]
                  exact Blk.last _ (by rw [List.length_append]; omega)
                have eas : (a : Int) + (s : Int) = (z : Int) := by omega
                have hm2 : (z : Int) < (n : Int) := by omega
                clear hQ hl hbq hq e1 e2 e3 lY ld nX nY HI S1 hz
                go_wp2_with fail
                refine C1.mono ?_
                clear C1
                rintro e w4 ⟨rfl, d1, hl1, hz1, S2⟩
                have HL : Hid (Blk (ltOf cf) (2 * s) l0 d1.toList) := by show Blk _ _ _ _; rw [hl1, List.append_nil]; exact HJ.out
                have HZ : Hid (d1.size = n) := hz1
                have S2 : Aside (SWK enc k w blk off d1 w4) := S2
                clear hl1 hz1 eas
                go_wp2_with fail
                go_roundg (n + 1 - 2 * s)
                case measure => omega
                case rel => exact ⟨2 * s, d1, by go_num, by omega, by omega, Nat.le_refl _, HZ.out, S2, HL⟩
              · have HL : Hid (Blk (ltOf cf) (2 * s) l0 dk.toList) := by
                  obtain ⟨Q, q, hQ, hl, hbq, hq⟩ := HI.out
                  have ld : (l0.drop a).length = n - a := by rw [List.length_drop, HN.out.2.2]
                  show Blk _ _ _ _
                  rw [hl, Blk.only hs0 hbq (by omega)]
                  exact hq _ (Blk.last _ (by omega))
                clear HI
                go_wp2_with fail
                go_roundg (n + 1 - 2 * s)
                case measure => omega
                case rel => exact ⟨2 * s, dk, by go_num, by omega, by omega, Nat.le_refl _, hsk, S1, HL⟩
        · have HL : Hid (dk.toList = isort (ltOf cf) l0) := Blk.only hs0 HB.out (by rw [HN.out.2.2]; omega)
          clear HB
          go_wp2_with fail
          go_end0
          exact ⟨rfl, dk, HL.out, hsk, S1.out⟩
set_option maxHeartbeats 4000000 in
theorem sortStable {P : Program} {k : Nat} (B : Bas P k) (F : Bod P) (enc : α → List Value) (cf : α → α → Int) (g : Nat) (cb : Array Value) (blk off cap : Nat) (d : Array α) (w : World) (e29 : ∀ args w, (callFunc 72 args).run P w = .ok (.enter 72 args) w)
    (eg : ∀ args w, (callFunc g args).run P w = .ok (.enter g args) w) (hcmp : CmpLays P g cb enc k cf blk off d.size w) (SO : SWO (ltOf cf)) (R : RowK enc k w blk off d) (INS : InsSays P enc k cf g cb blk off cap w d.size) (hsz : d.size < 1000000000000000000) :
    Calls P 46 #[.slice (some ⟨blk, off, none⟩) d.size cap, .func (.func g) #[] cb] w fun e w' => e = .returned (.tuple #[]) ∧ ∃ d' : Array α, d'.toList = isort (ltOf cf) d.toList ∧ d'.size = d.size ∧ SWK enc k w blk off d' w' := by
  have C1 := stable B F enc cf g cb blk off cap d w e29 eg hcmp SO R INS hsz
  have mixed := B.mixed; have t0 := B.t0; have a0 := B.a0; have z0 := B.z0; have v0 := B.v0; have t3 := B.t3; have a3 := B.a3; have z3 := B.z3; have v3 := B.v3; have t24 := B.t24; have a24 := B.a24; have z24 := B.z24; have v24 := B.v24
  have E25 : ∀ args w, (callFunc 59 args).run P w = .ok (.enter 59 args) w := enters_of F.f25 (by kernel_rfl) rfl
  clear INS hcmp R
  go_enter F.f16, Tryd.ntmps46
  go_wp2_with fail
  refine C1.mono ?_
  clear C1
  rintro e w1 ⟨rfl, d1, hl1, hz1, S2⟩
  have HH : Hid (∃ d' : Array α, d'.toList = isort (ltOf cf) d.toList ∧ d'.size = d.size ∧ SWK enc k w blk off d' w1) := ⟨d1, hl1, hz1, S2⟩
  clear hl1 hz1 S2
  go_wp2_with fail
  go_end0
  exact ⟨rfl, HH.out⟩
end Go.Proofs.YtjbckpoepfbgbaaDoor.Srt
end
section
/- The order of members, as the program's closures tell it: the later edited first, then the greater number. -/
set_option linter.unusedVariables false
set_option maxRecDepth 20000
set_option linter.unusedSectionVars false
namespace Go.Proofs.YtjbckpoepfbgbaaDoor.Srt
open Go.Shelf Go.RowKit Go.Lib Go.Sort
/-- A member's cells. -/
structure Cel where
  num : Int
  ed : Int
  v2 : Value
  v3 : Value
  v4 : Value
  v5 : Value
  v6 : Value
  v7 : Value
  v8 : Value
  one : ∀ v ∈ [v2, v3, v4, v5, v6, v7, v8], v.oneCell' = true
instance : Inhabited Cel := ⟨⟨0, 0, .bool false, .bool false, .bool false, .bool false, .bool false, .bool false, .bool false, by decide⟩⟩
def Cel.enc (x : Cel) : List Value := [.int .i64 x.num, .int .i64 x.ed, x.v2, x.v3, x.v4, x.v5, x.v6, x.v7, x.v8]
theorem Cel.len (x : Cel) : x.enc.length = 9 := rfl
theorem Cel.h1 (x : Cel) : ∀ v ∈ x.enc, v.oneCell' = true := by
  intro v hv
  unfold Cel.enc at hv
  rcases List.mem_cons.1 hv with rfl | hv
  · rfl
  rcases List.mem_cons.1 hv with rfl | hv
  · rfl
  exact x.one v hv
def cmpInt (x y : Int) : Int := if x < y then -1 else if y < x then 1 else 0
def cmpCel (a b : Cel) : Int := if cmpInt b.ed a.ed = 0 then cmpInt b.num a.num else cmpInt b.ed a.ed
set_option maxHeartbeats 1000000 in
theorem isNaN (x : Int) (w : World) : Calls Tryd.prog 74 #[.int .i64 x] w fun e w' => e = .returned (.bool false) ∧ w' = w := by
  go_enter Tryd.func74, Tryd.ntmps74
  go_wp2
  go_ret
  exact ⟨by simp, rfl⟩
set_option maxHeartbeats 1000000 in
theorem compare (x y : Int) (w : World) : Calls Tryd.prog 61 #[.int .i64 x, .int .i64 y] w fun e w' => e = .returned (.int .i64 (cmpInt x y)) ∧ w' = w := by
  unfold cmpInt
  by_cases h1 : x < y
  · rw [if_pos h1]
    go_enter Tryd.func61, Tryd.ntmps61
    go_wp2_with (first | (go_at_call 74; refine (isNaN _ _).mono ?_; rintro e w' ⟨rfl, rfl⟩))
    go_ret
    exact ⟨rfl, rfl⟩
  · by_cases h2 : y < x
    · rw [if_neg h1, if_pos h2]
      go_enter Tryd.func61, Tryd.ntmps61
      go_wp2_with (first | (go_at_call 74; refine (isNaN _ _).mono ?_; rintro e w' ⟨rfl, rfl⟩))
      go_ret
      exact ⟨rfl, rfl⟩
    · rw [if_neg h1, if_neg h2]
      go_enter Tryd.func61, Tryd.ntmps61
      go_wp2_with (first | (go_at_call 74; refine (isNaN _ _).mono ?_; rintro e w' ⟨rfl, rfl⟩))
      go_ret
      exact ⟨rfl, rfl⟩
set_option maxHeartbeats 1000000 in
theorem edited (x : Cel) (w : World) : Calls Tryd.prog 48 #[.agg x.enc.toArray] w fun e w' => e = .returned (.int .i64 x.ed) ∧ ∃ os, w' = grow w os := by
  unfold Cel.enc
  go_enter Tryd.func48, Tryd.ntmps48
  go_wp2
  go_ret
  exact ⟨rfl, _, (alloc_eq_grow _ _)⟩
set_option maxHeartbeats 1000000 in
theorem number (x : Cel) (w : World) : Calls Tryd.prog 49 #[.agg x.enc.toArray] w fun e w' => e = .returned (.int .i64 x.num) ∧ ∃ os, w' = grow w os := by
  unfold Cel.enc
  go_enter Tryd.func49, Tryd.ntmps49
  go_wp2
  go_ret
  exact ⟨rfl, _, (alloc_eq_grow _ _)⟩
/-- A cell of an old block that is not the row's, in a world of the sort's. -/
theorem old_cell {α : Type} [Inhabited α] (enc : α → List Value) (k : Nat) (W : World) (blk off n : Nat) (dk : Array α) (os : Array Obj) (a : Addr) (h1 : a.block ≠ blk) (h2 : a.block < W.heap.size) : (sortWorldK enc k W blk off n dk os).cell? a = W.cell? a := by
  unfold sortWorldK
  rw [cell?_grow _ _ _ (by rw [size_putRowK]; exact h2), cell?_putRowK_other enc k _ blk off dk a h1]
  rfl
/-- What lies in a block is read behind draws and new blocks. -/
theorem box_in {W : World} {b : Nat} {cs : Array Value} {T : TypeId} (h : W.heap[b]? = some (.cells cs T (0, 0))) (n : Nat) (os : Array Obj) (j : Nat) (v : Value) (hv : cs[j]? = some v) : (grow (W.drewN n) os).cell? ⟨b, j, none⟩ = some v := by
  have hb : b < W.heap.size := by
    rcases Nat.lt_or_ge b W.heap.size with h1 | h1
    · exact h1
    · rw [Array.getElem?_eq_none h1] at h; cases h
  rw [cell?_grow _ _ _ hb]
  show (W.drewN n).cell? _ = _
  rw [World.cell?_drewN]
  simp [World.cell?, h, hv]
theorem blk_grow {W : World} {b : Nat} {o : Obj} (h : W.heap[b]? = some o) (n : Nat) (os : Array Obj) : (grow (W.drewN n) os).heap[b]? = some o := by
  have hb : b < W.heap.size := by
    rcases Nat.lt_or_ge b W.heap.size with h1 | h1
    · exact h1
    · rw [Array.getElem?_eq_none h1] at h; cases h
  rw [heap_grow_old _ _ (by exact hb)]
  exact h
theorem alloc_new (w : World) (o : Obj) : (w.alloc o).heap[w.heap.size]? = some o := by
  show (w.heap.push o)[w.heap.size]? = some o
  simp
theorem alloc_old (w : World) (o o' : Obj) (b : Nat) (h : w.heap[b]? = some o') : (w.alloc o).heap[b]? = some o' := by rw [alloc_eq_grow]; exact blk_grow (W := w) h 0 #[o]
theorem edited' (x : Cel) (w : World) (n : Nat) (os : Array Obj) : Calls Tryd.prog 48 #[.agg #[.int .i64 x.num, .int .i64 x.ed, x.v2, x.v3, x.v4, x.v5, x.v6, x.v7, x.v8]] (grow (w.drewN n) os) fun e w' => e = .returned (.int .i64 x.ed) ∧ ∃ q os', w' = grow ((grow (w.drewN n) os).drewN q) os' :=
  (edited x _).mono fun e w' ⟨he, os', hw⟩ => ⟨he, 0, os', hw⟩
theorem number' (x : Cel) (w : World) (n : Nat) (os : Array Obj) : Calls Tryd.prog 49 #[.agg #[.int .i64 x.num, .int .i64 x.ed, x.v2, x.v3, x.v4, x.v5, x.v6, x.v7, x.v8]] (grow (w.drewN n) os) fun e w' => e = .returned (.int .i64 x.num) ∧ ∃ q os', w' = grow ((grow (w.drewN n) os).drewN q) os' :=
  (number x _).mono fun e w' ⟨he, os', hw⟩ => ⟨he, 0, os', hw⟩
theorem compare' (x y : Int) (w : World) (n : Nat) (os : Array Obj) : Calls Tryd.prog 61 #[.int .i64 x, .int .i64 y] (grow (w.drewN n) os) fun e w' => e = .returned (.int .i64 (cmpInt x y)) ∧ ∃ q os', w' = grow ((grow (w.drewN n) os).drewN q) os' :=
  (compare x y _).mono fun e w' ⟨he, hw⟩ => ⟨he, 0, #[], by rw [hw, grow_empty]; rfl⟩
def Grn (w W : World) : Prop := ∃ q os, W = grow (w.drewN q) os
theorem Grn.step {w W : World} (h : Grn w W) (n : Nat) (os : Array Obj) : Grn w (grow (W.drewN n) os) := by
  obtain ⟨q, os0, rfl⟩ := h
  exact ⟨q + n, os0 ++ os, by show grow (grow ((w.drewN q).drewN n) os0) os = _; rw [grow_grow, World.drewN_drewN]⟩
theorem Grn.cell {w W : World} (h : Grn w W) {a : Addr} {v : Value} (hc : w.cell? a = some v) : W.cell? a = some v := by
  obtain ⟨q, os, rfl⟩ := h
  exact cell_grown (World.block_lt_of_cell? w _ hc) hc q os
theorem Grn.blk {w W : World} (h : Grn w W) {b : Nat} {o : Obj} (hb : w.heap[b]? = some o) : W.heap[b]? = some o := by
  obtain ⟨q, os, rfl⟩ := h
  exact blk_grow hb q os
theorem Grn.refl (w : World) : Grn w w := ⟨0, #[], by rw [grow_empty]; rfl⟩
theorem Grn.alloc {w W : World} (h : Grn w W) (o : Obj) : Grn w (W.alloc o) := by
  have := h.step 0 #[o]
  rw [alloc_eq_grow]; exact this
set_option maxHeartbeats 4000000 in
/-- The order's closure: pb: where its functions' slice lies. -/
theorem falls (x y : Cel) (pb fb : Nat) (c : Nat) (w : World) (h1 : w.cell? ⟨pb, 0, none⟩ = some (.slice (some ⟨fb, 0, none⟩) 2 c)) (h2 : w.cell? ⟨fb, 0, none⟩ = some (.func (.func 48) #[] #[])) (h3 : w.cell? ⟨fb, 1, none⟩ = some (.func (.func 49) #[] #[])) :
    Calls Tryd.prog 60 #[.agg x.enc.toArray, .agg y.enc.toArray, .pointer (some ⟨pb, 0, none⟩)] w fun e w' => e = .returned (.int .i64 (cmpCel x y)) ∧ Grn w w' := by
  have hp : pb < w.heap.size := World.block_lt_of_cell? w _ h1
  have hf : fb < w.heap.size := World.block_lt_of_cell? w _ h2
  obtain ⟨bx, hbx⟩ : ∃ b, b = w.heap.size := ⟨_, rfl⟩
  have HF : Hid (w.cell? ⟨fb, 0, none⟩ = some (.func (.func 48) #[] #[]) ∧ w.cell? ⟨fb, 1, none⟩ = some (.func (.func 49) #[] #[])) := ⟨h2, h3⟩
  have mixed : Tryd.prog.follows .mixedOrders = true := by kernel_rfl
  go_enter Tryd.func60, Tryd.ntmps60
  go_wp2_with fail
  have HX : Hid ((((w.alloc (Obj.cells x.enc.toArray 40)).alloc (Obj.cells y.enc.toArray 40))).heap[bx]? = some (.cells x.enc.toArray 40 (0, 0))) := by show _ = _; rw [hbx]; exact alloc_old _ _ _ _ (alloc_new w _)
  have HY : Hid ((((w.alloc (Obj.cells x.enc.toArray 40)).alloc (Obj.cells y.enc.toArray 40))).heap[bx + 1]? = some (.cells y.enc.toArray 40 (0, 0))) := by
    have h := alloc_new (w.alloc (Obj.cells x.enc.toArray 40)) (Obj.cells y.enc.toArray 40)
    have e : (w.alloc (Obj.cells x.enc.toArray 40)).heap.size = w.heap.size + 1 := by simp
    rw [e] at h
    show _ = _; rw [hbx]; exact h
  have HG : Hid (Grn w ((w.alloc (Obj.cells x.enc.toArray 40)).alloc (Obj.cells y.enc.toArray 40))) := ((Grn.refl w).alloc _).alloc _
  rw [← hbx]
  clear h1 h2 h3 hp hf hbx
  go_loopg [7, 8, 11] 2 (fun kx s7 s8 s11 wr => ∃ i : Nat, s11 = .int .i64 i ∧ i ≤ 2 ∧ 2 - i ≤ kx ∧ Hid (Grn w wr ∧ wr.heap[bx]? = some (.cells x.enc.toArray 40 (0, 0)) ∧ wr.heap[bx + 1]? = some (.cells y.enc.toArray 40 (0, 0))) ∧ Hid ((0 < i → cmpInt y.ed x.ed = 0) ∧ (1 < i → cmpInt y.num x.num = 0)))
  case atStart => exact ⟨0, rfl, by omega, by omega, ⟨HG.out, HX.out, HY.out⟩, ⟨fun h => by omega, fun h => by omega⟩⟩
  case round =>
    clear HX HY HG
    obtain ⟨i, rfl, hi, hk, HW, HC⟩ := hrel
    by_cases hi2 : i = 2
    · subst hi2
      have HR : Hid (cmpCel x y = 0) := by show _ = _; unfold cmpCel; rw [if_pos (HC.out.1 (by omega)), HC.out.2 (by omega)]
      go_wp2_with fail
      go_ret
      exact ⟨by rw [HR.out]; rfl, HW.out.1⟩
    · have hi3 : i = 0 ∨ i = 1 := by omega
      obtain ⟨W, hW⟩ : ∃ W, W = wr := ⟨_, rfl⟩
      rw [← hW] at HW ⊢
      have Hx : Hid (∀ n os j v, x.enc.toArray[j]? = some v → (grow (W.drewN n) os).cell? ⟨bx, j, none⟩ = some v) := fun n os j v h => box_in HW.out.2.1 n os j v h
      have Hy : Hid (∀ n os j v, y.enc.toArray[j]? = some v → (grow (W.drewN n) os).cell? ⟨bx + 1, j, none⟩ = some v) := fun n os j v h => box_in HW.out.2.2 n os j v h
      clear hW hi2
      rcases hi3 with rfl | rfl
      · have g0 : W.cell? ⟨fb, 0, none⟩ = some (.func (.func 48) #[] #[]) := HW.out.1.cell HF.out.1
        by_cases hz : cmpInt y.ed x.ed = 0
        · have hz2 : (cmpInt y.ed x.ed == 0) = true := by simp [hz]
          have cx0 : ∀ (n : Nat) (os : Array Obj), (grow (W.drewN n) os).cell? ⟨bx, 0, none⟩ = some (.int .i64 x.num) := fun n os => Hx.out n os 0 (.int .i64 x.num) rfl
          have cx1 : ∀ (n : Nat) (os : Array Obj), (grow (W.drewN n) os).cell? ⟨bx, 1, none⟩ = some (.int .i64 x.ed) := fun n os => Hx.out n os 1 (.int .i64 x.ed) rfl
          have cx2 : ∀ (n : Nat) (os : Array Obj), (grow (W.drewN n) os).cell? ⟨bx, 2, none⟩ = some (x.v2) := fun n os => Hx.out n os 2 (x.v2) rfl
          have cx3 : ∀ (n : Nat) (os : Array Obj), (grow (W.drewN n) os).cell? ⟨bx, 3, none⟩ = some (x.v3) := fun n os => Hx.out n os 3 (x.v3) rfl
          have cx4 : ∀ (n : Nat) (os : Array Obj), (grow (W.drewN n) os).cell? ⟨bx, 4, none⟩ = some (x.v4) := fun n os => Hx.out n os 4 (x.v4) rfl
          have cx5 : ∀ (n : Nat) (os : Array Obj), (grow (W.drewN n) os).cell? ⟨bx, 5, none⟩ = some (x.v5) := fun n os => Hx.out n os 5 (x.v5) rfl
          have cx6 : ∀ (n : Nat) (os : Array Obj), (grow (W.drewN n) os).cell? ⟨bx, 6, none⟩ = some (x.v6) := fun n os => Hx.out n os 6 (x.v6) rfl
          have cx7 : ∀ (n : Nat) (os : Array Obj), (grow (W.drewN n) os).cell? ⟨bx, 7, none⟩ = some (x.v7) := fun n os => Hx.out n os 7 (x.v7) rfl
          have cx8 : ∀ (n : Nat) (os : Array Obj), (grow (W.drewN n) os).cell? ⟨bx, 8, none⟩ = some (x.v8) := fun n os => Hx.out n os 8 (x.v8) rfl
          have cy0 : ∀ (n : Nat) (os : Array Obj), (grow (W.drewN n) os).cell? ⟨bx + 1, 0, none⟩ = some (.int .i64 y.num) := fun n os => Hy.out n os 0 (.int .i64 y.num) rfl
          have cy1 : ∀ (n : Nat) (os : Array Obj), (grow (W.drewN n) os).cell? ⟨bx + 1, 1, none⟩ = some (.int .i64 y.ed) := fun n os => Hy.out n os 1 (.int .i64 y.ed) rfl
          have cy2 : ∀ (n : Nat) (os : Array Obj), (grow (W.drewN n) os).cell? ⟨bx + 1, 2, none⟩ = some (y.v2) := fun n os => Hy.out n os 2 (y.v2) rfl
          have cy3 : ∀ (n : Nat) (os : Array Obj), (grow (W.drewN n) os).cell? ⟨bx + 1, 3, none⟩ = some (y.v3) := fun n os => Hy.out n os 3 (y.v3) rfl
          have cy4 : ∀ (n : Nat) (os : Array Obj), (grow (W.drewN n) os).cell? ⟨bx + 1, 4, none⟩ = some (y.v4) := fun n os => Hy.out n os 4 (y.v4) rfl
          have cy5 : ∀ (n : Nat) (os : Array Obj), (grow (W.drewN n) os).cell? ⟨bx + 1, 5, none⟩ = some (y.v5) := fun n os => Hy.out n os 5 (y.v5) rfl
          have cy6 : ∀ (n : Nat) (os : Array Obj), (grow (W.drewN n) os).cell? ⟨bx + 1, 6, none⟩ = some (y.v6) := fun n os => Hy.out n os 6 (y.v6) rfl
          have cy7 : ∀ (n : Nat) (os : Array Obj), (grow (W.drewN n) os).cell? ⟨bx + 1, 7, none⟩ = some (y.v7) := fun n os => Hy.out n os 7 (y.v7) rfl
          have cy8 : ∀ (n : Nat) (os : Array Obj), (grow (W.drewN n) os).cell? ⟨bx + 1, 8, none⟩ = some (y.v8) := fun n os => Hy.out n os 8 (y.v8) rfl
          have HZ := Lib.hid hz
          clear hz
          have hz3 : (cmpInt y.ed x.ed != 0) = false := by rw [bne, hz2]; rfl
          generalize hq : cmpInt y.ed x.ed = q at hz2 hz3
          have HQ := Lib.hid hq
          clear hq
          have CC : ∀ n os, Calls Tryd.prog 61 #[.int .i64 y.ed, .int .i64 x.ed] (grow (W.drewN n) os) fun e w' => e = .returned (.int .i64 q) ∧ ∃ q os', w' = grow ((grow (W.drewN n) os).drewN q) os' := fun n os => by rw [← HQ.out]; exact compare' _ _ W n os
          go_wp2_with fail
          go_quiet_grown (first | (go_at_call 61; refine Calls.grown_of (CC _ _)) | (refine Calls.grown_of (edited' y W _ _)) | (refine Calls.grown_of (edited' x W _ _)))
          have HS : Hid (Grn w (grow (W.drewN nq) osq) ∧ (grow (W.drewN nq) osq).heap[bx]? = some (.cells x.enc.toArray 40 (0, 0)) ∧ (grow (W.drewN nq) osq).heap[bx + 1]? = some (.cells y.enc.toArray 40 (0, 0))) := ⟨HW.out.1.step _ _, blk_grow HW.out.2.1 _ _, blk_grow HW.out.2.2 _ _⟩
          clear CC g0 cx0 cx1 cx2 cx3 cx4 cx5 cx6 cx7 cx8 cy0 cy1 cy2 cy3 cy4 cy5 cy6 cy7 cy8
          generalize grow (W.drewN nq) osq = w2 at HS ⊢
          go_wp2_with fail
          go_roundg 1
          case measure => omega
          case rel => exact ⟨1, rfl, by omega, by omega, HS.out, ⟨fun _ => HZ.out, fun h => by omega⟩⟩
        · have hz2 : (cmpInt y.ed x.ed == 0) = false := by simp [hz]
          have cx0 : ∀ (n : Nat) (os : Array Obj), (grow (W.drewN n) os).cell? ⟨bx, 0, none⟩ = some (.int .i64 x.num) := fun n os => Hx.out n os 0 (.int .i64 x.num) rfl
          have cx1 : ∀ (n : Nat) (os : Array Obj), (grow (W.drewN n) os).cell? ⟨bx, 1, none⟩ = some (.int .i64 x.ed) := fun n os => Hx.out n os 1 (.int .i64 x.ed) rfl
          have cx2 : ∀ (n : Nat) (os : Array Obj), (grow (W.drewN n) os).cell? ⟨bx, 2, none⟩ = some (x.v2) := fun n os => Hx.out n os 2 (x.v2) rfl
          have cx3 : ∀ (n : Nat) (os : Array Obj), (grow (W.drewN n) os).cell? ⟨bx, 3, none⟩ = some (x.v3) := fun n os => Hx.out n os 3 (x.v3) rfl
          have cx4 : ∀ (n : Nat) (os : Array Obj), (grow (W.drewN n) os).cell? ⟨bx, 4, none⟩ = some (x.v4) := fun n os => Hx.out n os 4 (x.v4) rfl
          have cx5 : ∀ (n : Nat) (os : Array Obj), (grow (W.drewN n) os).cell? ⟨bx, 5, none⟩ = some (x.v5) := fun n os => Hx.out n os 5 (x.v5) rfl
          have cx6 : ∀ (n : Nat) (os : Array Obj), (grow (W.drewN n) os).cell? ⟨bx, 6, none⟩ = some (x.v6) := fun n os => Hx.out n os 6 (x.v6) rfl
          have cx7 : ∀ (n : Nat) (os : Array Obj), (grow (W.drewN n) os).cell? ⟨bx, 7, none⟩ = some (x.v7) := fun n os => Hx.out n os 7 (x.v7) rfl
          have cx8 : ∀ (n : Nat) (os : Array Obj), (grow (W.drewN n) os).cell? ⟨bx, 8, none⟩ = some (x.v8) := fun n os => Hx.out n os 8 (x.v8) rfl
          have cy0 : ∀ (n : Nat) (os : Array Obj), (grow (W.drewN n) os).cell? ⟨bx + 1, 0, none⟩ = some (.int .i64 y.num) := fun n os => Hy.out n os 0 (.int .i64 y.num) rfl
          have cy1 : ∀ (n : Nat) (os : Array Obj), (grow (W.drewN n) os).cell? ⟨bx + 1, 1, none⟩ = some (.int .i64 y.ed) := fun n os => Hy.out n os 1 (.int .i64 y.ed) rfl
          have cy2 : ∀ (n : Nat) (os : Array Obj), (grow (W.drewN n) os).cell? ⟨bx + 1, 2, none⟩ = some (y.v2) := fun n os => Hy.out n os 2 (y.v2) rfl
          have cy3 : ∀ (n : Nat) (os : Array Obj), (grow (W.drewN n) os).cell? ⟨bx + 1, 3, none⟩ = some (y.v3) := fun n os => Hy.out n os 3 (y.v3) rfl
          have cy4 : ∀ (n : Nat) (os : Array Obj), (grow (W.drewN n) os).cell? ⟨bx + 1, 4, none⟩ = some (y.v4) := fun n os => Hy.out n os 4 (y.v4) rfl
          have cy5 : ∀ (n : Nat) (os : Array Obj), (grow (W.drewN n) os).cell? ⟨bx + 1, 5, none⟩ = some (y.v5) := fun n os => Hy.out n os 5 (y.v5) rfl
          have cy6 : ∀ (n : Nat) (os : Array Obj), (grow (W.drewN n) os).cell? ⟨bx + 1, 6, none⟩ = some (y.v6) := fun n os => Hy.out n os 6 (y.v6) rfl
          have cy7 : ∀ (n : Nat) (os : Array Obj), (grow (W.drewN n) os).cell? ⟨bx + 1, 7, none⟩ = some (y.v7) := fun n os => Hy.out n os 7 (y.v7) rfl
          have cy8 : ∀ (n : Nat) (os : Array Obj), (grow (W.drewN n) os).cell? ⟨bx + 1, 8, none⟩ = some (y.v8) := fun n os => Hy.out n os 8 (y.v8) rfl
          have HZ := Lib.hid hz
          clear hz
          have hz3 : (cmpInt y.ed x.ed != 0) = true := by rw [bne, hz2]; rfl
          generalize hq : cmpInt y.ed x.ed = q at hz2 hz3
          have HQ := Lib.hid hq
          clear hq
          have CC : ∀ n os, Calls Tryd.prog 61 #[.int .i64 y.ed, .int .i64 x.ed] (grow (W.drewN n) os) fun e w' => e = .returned (.int .i64 q) ∧ ∃ q os', w' = grow ((grow (W.drewN n) os).drewN q) os' := fun n os => by rw [← HQ.out]; exact compare' _ _ W n os
          go_wp2_with fail
          go_quiet_grown (first | (go_at_call 61; refine Calls.grown_of (CC _ _)) | (refine Calls.grown_of (edited' y W _ _)) | (refine Calls.grown_of (edited' x W _ _)))
          have HS : Hid (Grn w (grow (W.drewN nq) osq) ∧ (grow (W.drewN nq) osq).heap[bx]? = some (.cells x.enc.toArray 40 (0, 0)) ∧ (grow (W.drewN nq) osq).heap[bx + 1]? = some (.cells y.enc.toArray 40 (0, 0))) := ⟨HW.out.1.step _ _, blk_grow HW.out.2.1 _ _, blk_grow HW.out.2.2 _ _⟩
          clear CC g0 cx0 cx1 cx2 cx3 cx4 cx5 cx6 cx7 cx8 cy0 cy1 cy2 cy3 cy4 cy5 cy6 cy7 cy8
          generalize grow (W.drewN nq) osq = w2 at HS ⊢
          go_wp2_with fail
          go_ret
          have HR : cmpCel x y = q := by unfold cmpCel; rw [if_neg HZ.out]; exact HQ.out
          exact ⟨by rw [HR]; rfl, HS.out.1⟩
      · have g0 : W.cell? ⟨fb, 1, none⟩ = some (.func (.func 49) #[] #[]) := HW.out.1.cell HF.out.2
        by_cases hz : cmpInt y.num x.num = 0
        · have hz2 : (cmpInt y.num x.num == 0) = true := by simp [hz]
          have cx0 : ∀ (n : Nat) (os : Array Obj), (grow (W.drewN n) os).cell? ⟨bx, 0, none⟩ = some (.int .i64 x.num) := fun n os => Hx.out n os 0 (.int .i64 x.num) rfl
          have cx1 : ∀ (n : Nat) (os : Array Obj), (grow (W.drewN n) os).cell? ⟨bx, 1, none⟩ = some (.int .i64 x.ed) := fun n os => Hx.out n os 1 (.int .i64 x.ed) rfl
          have cx2 : ∀ (n : Nat) (os : Array Obj), (grow (W.drewN n) os).cell? ⟨bx, 2, none⟩ = some (x.v2) := fun n os => Hx.out n os 2 (x.v2) rfl
          have cx3 : ∀ (n : Nat) (os : Array Obj), (grow (W.drewN n) os).cell? ⟨bx, 3, none⟩ = some (x.v3) := fun n os => Hx.out n os 3 (x.v3) rfl
          have cx4 : ∀ (n : Nat) (os : Array Obj), (grow (W.drewN n) os).cell? ⟨bx, 4, none⟩ = some (x.v4) := fun n os => Hx.out n os 4 (x.v4) rfl
          have cx5 : ∀ (n : Nat) (os : Array Obj), (grow (W.drewN n) os).cell? ⟨bx, 5, none⟩ = some (x.v5) := fun n os => Hx.out n os 5 (x.v5) rfl
          have cx6 : ∀ (n : Nat) (os : Array Obj), (grow (W.drewN n) os).cell? ⟨bx, 6, none⟩ = some (x.v6) := fun n os => Hx.out n os 6 (x.v6) rfl
          have cx7 : ∀ (n : Nat) (os : Array Obj), (grow (W.drewN n) os).cell? ⟨bx, 7, none⟩ = some (x.v7) := fun n os => Hx.out n os 7 (x.v7) rfl
          have cx8 : ∀ (n : Nat) (os : Array Obj), (grow (W.drewN n) os).cell? ⟨bx, 8, none⟩ = some (x.v8) := fun n os => Hx.out n os 8 (x.v8) rfl
          have cy0 : ∀ (n : Nat) (os : Array Obj), (grow (W.drewN n) os).cell? ⟨bx + 1, 0, none⟩ = some (.int .i64 y.num) := fun n os => Hy.out n os 0 (.int .i64 y.num) rfl
          have cy1 : ∀ (n : Nat) (os : Array Obj), (grow (W.drewN n) os).cell? ⟨bx + 1, 1, none⟩ = some (.int .i64 y.ed) := fun n os => Hy.out n os 1 (.int .i64 y.ed) rfl
          have cy2 : ∀ (n : Nat) (os : Array Obj), (grow (W.drewN n) os).cell? ⟨bx + 1, 2, none⟩ = some (y.v2) := fun n os => Hy.out n os 2 (y.v2) rfl
          have cy3 : ∀ (n : Nat) (os : Array Obj), (grow (W.drewN n) os).cell? ⟨bx + 1, 3, none⟩ = some (y.v3) := fun n os => Hy.out n os 3 (y.v3) rfl
          have cy4 : ∀ (n : Nat) (os : Array Obj), (grow (W.drewN n) os).cell? ⟨bx + 1, 4, none⟩ = some (y.v4) := fun n os => Hy.out n os 4 (y.v4) rfl
          have cy5 : ∀ (n : Nat) (os : Array Obj), (grow (W.drewN n) os).cell? ⟨bx + 1, 5, none⟩ = some (y.v5) := fun n os => Hy.out n os 5 (y.v5) rfl
          have cy6 : ∀ (n : Nat) (os : Array Obj), (grow (W.drewN n) os).cell? ⟨bx + 1, 6, none⟩ = some (y.v6) := fun n os => Hy.out n os 6 (y.v6) rfl
          have cy7 : ∀ (n : Nat) (os : Array Obj), (grow (W.drewN n) os).cell? ⟨bx + 1, 7, none⟩ = some (y.v7) := fun n os => Hy.out n os 7 (y.v7) rfl
          have cy8 : ∀ (n : Nat) (os : Array Obj), (grow (W.drewN n) os).cell? ⟨bx + 1, 8, none⟩ = some (y.v8) := fun n os => Hy.out n os 8 (y.v8) rfl
          have HZ := Lib.hid hz
          clear hz
          have hz3 : (cmpInt y.num x.num != 0) = false := by rw [bne, hz2]; rfl
          generalize hq : cmpInt y.num x.num = q at hz2 hz3
          have HQ := Lib.hid hq
          clear hq
          have CC : ∀ n os, Calls Tryd.prog 61 #[.int .i64 y.num, .int .i64 x.num] (grow (W.drewN n) os) fun e w' => e = .returned (.int .i64 q) ∧ ∃ q os', w' = grow ((grow (W.drewN n) os).drewN q) os' := fun n os => by rw [← HQ.out]; exact compare' _ _ W n os
          go_wp2_with fail
          go_quiet_grown (first | (go_at_call 61; refine Calls.grown_of (CC _ _)) | (refine Calls.grown_of (number' y W _ _)) | (refine Calls.grown_of (number' x W _ _)))
          have HS : Hid (Grn w (grow (W.drewN nq) osq) ∧ (grow (W.drewN nq) osq).heap[bx]? = some (.cells x.enc.toArray 40 (0, 0)) ∧ (grow (W.drewN nq) osq).heap[bx + 1]? = some (.cells y.enc.toArray 40 (0, 0))) := ⟨HW.out.1.step _ _, blk_grow HW.out.2.1 _ _, blk_grow HW.out.2.2 _ _⟩
          clear CC g0 cx0 cx1 cx2 cx3 cx4 cx5 cx6 cx7 cx8 cy0 cy1 cy2 cy3 cy4 cy5 cy6 cy7 cy8
          generalize grow (W.drewN nq) osq = w2 at HS ⊢
          go_wp2_with fail
          go_roundg 0
          case measure => omega
          case rel => exact ⟨2, rfl, by omega, by omega, HS.out, ⟨fun _ => HC.out.1 (by omega), fun _ => HZ.out⟩⟩
        · have hz2 : (cmpInt y.num x.num == 0) = false := by simp [hz]
          have cx0 : ∀ (n : Nat) (os : Array Obj), (grow (W.drewN n) os).cell? ⟨bx, 0, none⟩ = some (.int .i64 x.num) := fun n os => Hx.out n os 0 (.int .i64 x.num) rfl
          have cx1 : ∀ (n : Nat) (os : Array Obj), (grow (W.drewN n) os).cell? ⟨bx, 1, none⟩ = some (.int .i64 x.ed) := fun n os => Hx.out n os 1 (.int .i64 x.ed) rfl
          have cx2 : ∀ (n : Nat) (os : Array Obj), (grow (W.drewN n) os).cell? ⟨bx, 2, none⟩ = some (x.v2) := fun n os => Hx.out n os 2 (x.v2) rfl
          have cx3 : ∀ (n : Nat) (os : Array Obj), (grow (W.drewN n) os).cell? ⟨bx, 3, none⟩ = some (x.v3) := fun n os => Hx.out n os 3 (x.v3) rfl
          have cx4 : ∀ (n : Nat) (os : Array Obj), (grow (W.drewN n) os).cell? ⟨bx, 4, none⟩ = some (x.v4) := fun n os => Hx.out n os 4 (x.v4) rfl
          have cx5 : ∀ (n : Nat) (os : Array Obj), (grow (W.drewN n) os).cell? ⟨bx, 5, none⟩ = some (x.v5) := fun n os => Hx.out n os 5 (x.v5) rfl
          have cx6 : ∀ (n : Nat) (os : Array Obj), (grow (W.drewN n) os).cell? ⟨bx, 6, none⟩ = some (x.v6) := fun n os => Hx.out n os 6 (x.v6) rfl
          have cx7 : ∀ (n : Nat) (os : Array Obj), (grow (W.drewN n) os).cell? ⟨bx, 7, none⟩ = some (x.v7) := fun n os => Hx.out n os 7 (x.v7) rfl
          have cx8 : ∀ (n : Nat) (os : Array Obj), (grow (W.drewN n) os).cell? ⟨bx, 8, none⟩ = some (x.v8) := fun n os => Hx.out n os 8 (x.v8) rfl
          have cy0 : ∀ (n : Nat) (os : Array Obj), (grow (W.drewN n) os).cell? ⟨bx + 1, 0, none⟩ = some (.int .i64 y.num) := fun n os => Hy.out n os 0 (.int .i64 y.num) rfl
          have cy1 : ∀ (n : Nat) (os : Array Obj), (grow (W.drewN n) os).cell? ⟨bx + 1, 1, none⟩ = some (.int .i64 y.ed) := fun n os => Hy.out n os 1 (.int .i64 y.ed) rfl
          have cy2 : ∀ (n : Nat) (os : Array Obj), (grow (W.drewN n) os).cell? ⟨bx + 1, 2, none⟩ = some (y.v2) := fun n os => Hy.out n os 2 (y.v2) rfl
          have cy3 : ∀ (n : Nat) (os : Array Obj), (grow (W.drewN n) os).cell? ⟨bx + 1, 3, none⟩ = some (y.v3) := fun n os => Hy.out n os 3 (y.v3) rfl
          have cy4 : ∀ (n : Nat) (os : Array Obj), (grow (W.drewN n) os).cell? ⟨bx + 1, 4, none⟩ = some (y.v4) := fun n os => Hy.out n os 4 (y.v4) rfl
          have cy5 : ∀ (n : Nat) (os : Array Obj), (grow (W.drewN n) os).cell? ⟨bx + 1, 5, none⟩ = some (y.v5) := fun n os => Hy.out n os 5 (y.v5) rfl
          have cy6 : ∀ (n : Nat) (os : Array Obj), (grow (W.drewN n) os).cell? ⟨bx + 1, 6, none⟩ = some (y.v6) := fun n os => Hy.out n os 6 (y.v6) rfl
          have cy7 : ∀ (n : Nat) (os : Array Obj), (grow (W.drewN n) os).cell? ⟨bx + 1, 7, none⟩ = some (y.v7) := fun n os => Hy.out n os 7 (y.v7) rfl
          have cy8 : ∀ (n : Nat) (os : Array Obj), (grow (W.drewN n) os).cell? ⟨bx + 1, 8, none⟩ = some (y.v8) := fun n os => Hy.out n os 8 (y.v8) rfl
          have HZ := Lib.hid hz
          clear hz
          have hz3 : (cmpInt y.num x.num != 0) = true := by rw [bne, hz2]; rfl
          generalize hq : cmpInt y.num x.num = q at hz2 hz3
          have HQ := Lib.hid hq
          clear hq
          have CC : ∀ n os, Calls Tryd.prog 61 #[.int .i64 y.num, .int .i64 x.num] (grow (W.drewN n) os) fun e w' => e = .returned (.int .i64 q) ∧ ∃ q os', w' = grow ((grow (W.drewN n) os).drewN q) os' := fun n os => by rw [← HQ.out]; exact compare' _ _ W n os
          go_wp2_with fail
          go_quiet_grown (first | (go_at_call 61; refine Calls.grown_of (CC _ _)) | (refine Calls.grown_of (number' y W _ _)) | (refine Calls.grown_of (number' x W _ _)))
          have HS : Hid (Grn w (grow (W.drewN nq) osq) ∧ (grow (W.drewN nq) osq).heap[bx]? = some (.cells x.enc.toArray 40 (0, 0)) ∧ (grow (W.drewN nq) osq).heap[bx + 1]? = some (.cells y.enc.toArray 40 (0, 0))) := ⟨HW.out.1.step _ _, blk_grow HW.out.2.1 _ _, blk_grow HW.out.2.2 _ _⟩
          clear CC g0 cx0 cx1 cx2 cx3 cx4 cx5 cx6 cx7 cx8 cy0 cy1 cy2 cy3 cy4 cy5 cy6 cy7 cy8
          generalize grow (W.drewN nq) osq = w2 at HS ⊢
          go_wp2_with fail
          go_ret
          have HR : cmpCel x y = q := by unfold cmpCel; rw [if_pos (HC.out.1 (by omega))]; exact HQ.out
          exact ⟨by rw [HR]; rfl, HS.out.1⟩
/-- The closure, in every world that the sort passes through. -/
theorem fallsLays (pb fb c blk off size : Nat) (w : World) (h1 : w.cell? ⟨pb, 0, none⟩ = some (.slice (some ⟨fb, 0, none⟩) 2 c)) (h2 : w.cell? ⟨fb, 0, none⟩ = some (.func (.func 48) #[] #[])) (h3 : w.cell? ⟨fb, 1, none⟩ = some (.func (.func 49) #[] #[])) (n1 : pb ≠ blk) (n2 : fb ≠ blk) :
    CmpLays Tryd.prog 60 #[.pointer (some ⟨pb, 0, none⟩)] Cel.enc 9 cmpCel blk off size w := by
  intro m os dk _ x y
  have hp : pb < w.heap.size := World.block_lt_of_cell? w _ h1
  have hf : fb < w.heap.size := World.block_lt_of_cell? w _ h2
  have g1 := (old_cell Cel.enc 9 w blk off m dk os ⟨pb, 0, none⟩ n1 hp).trans h1
  have g2 := (old_cell Cel.enc 9 w blk off m dk os ⟨fb, 0, none⟩ n2 hf).trans h2
  have g3 := (old_cell Cel.enc 9 w blk off m dk os ⟨fb, 1, none⟩ n2 hf).trans h3
  exact falls x y pb fb c _ g1 g2 g3
end Go.Proofs.YtjbckpoepfbgbaaDoor.Srt
end
section
/- The program's order of members: a new row of the same members, sorted ('isort' by the later edited, then the greater number). -/
set_option linter.unusedVariables false
set_option maxRecDepth 20000
set_option linter.unusedSectionVars false
namespace Go.Proofs.YtjbckpoepfbgbaaDoor.Srt
open Go.Shelf Go.RowKit Go.Lib Go.Sort Go.Proofs.YtjbckpoepfbgbaaDoor.Mrg Go.Proofs.YtjbckpoepfbgbaaDoorW.PrintWords
/-- Members' cells, as a kind. -/
def kCel : Kd Cel where
  sz := 9
  E := []
  K := fun _ x cs => cs = x.enc
  M := fun _ _ _ x cs => cs = x.enc
  K_len := fun h => by rw [h]; rfl
  K_one := fun {w x cs} h u hu => by rw [h] at hu; exact x.h1 u hu
  K_below := fun _ h => h
  K_of_M := fun h => h
  M_mono := fun _ h => h
  M_bound := fun h => h
  M_move := fun _ h => h
  M_lower := fun _ h => h
theorem ltOf_cel (a b : Cel) : ltOf cmpCel a b = decide (b.ed < a.ed ∨ b.ed = a.ed ∧ b.num < a.num) := by
  unfold ltOf cmpCel cmpInt
  rcases Int.lt_trichotomy b.ed a.ed with h | h | h
  · simp [h]
  · rcases Int.lt_trichotomy b.num a.num with g | g | g
    · simp [h, g]
    · simp [h, g]
    · simp [h, g, show ¬ b.num < a.num by omega]
  · simp [h, show ¬ b.ed < a.ed by omega, show ¬ b.ed = a.ed by omega]
theorem swoCel : SWO (ltOf cmpCel) := by
  constructor
  all_goals simp only [ltOf_cel, decide_eq_true_eq, decide_eq_false_iff_not]
  · intro x; omega
  · intro x y z h1 h2; omega
  · intro x y z h1 h2; omega
/-- The library's sort by insertion at members. -/
def ins_ren : Go.Shelf.Ren := ⟨fun | 20 => 72 | n => n, fun | 0 => 0 | 3 => 3 | 4 => 4 | 22 => 22 | 24 => 40 | 25 => 75 | n => n, fun n => n⟩
theorem insLays : SlLaysF0.n20 Tryd.prog ins_ren where
  mixed := by kernel_rfl
  f20 := ⟨Tryd.f72.name, by kernel_rfl, Tryd.func72.trans (congrArg some (by kernel_rfl))⟩
  t0 := Tryd.underlying0
  a0 := Tryd.isAgg0
  z0 := Tryd.sizeOf0
  v0 := Tryd.zeroValue0
  t3 := Tryd.underlying3
  a3 := Tryd.isAgg3
  z3 := Tryd.sizeOf3
  v3 := Tryd.zeroValue3
  t4 := Tryd.underlying4
  a4 := Tryd.isAgg4
  z4 := Tryd.sizeOf4
  v4 := Tryd.zeroValue4
  t22 := Tryd.underlying22
  a22 := Tryd.isAgg22
  z22 := Tryd.sizeOf22
  v22 := Tryd.zeroValue22
  t25 := Tryd.underlying75
  a25 := Tryd.isAgg75
  z25 := Tryd.sizeOf75
  v25 := Tryd.zeroValue75
theorem info40 : (Tryd.prog.info? 40).map (fun i => (i.zero, i.size, i.bytes)) = some (some (.agg #[(.int .i64 0), (.int .i64 0), (.string ⟨#[]⟩), (.int .i64 0), (.string ⟨#[]⟩), (.string ⟨#[]⟩), (.slice none 0 0), (.slice none 0 0), (.string ⟨#[]⟩)]), 9, 136) := by kernel_rfl
theorem bod : Bod Tryd.prog := ⟨Tryd.func46, Tryd.func59, Tryd.func73, Tryd.func87, Tryd.func100⟩
theorem insSays (g : Nat) (cb : Array Value) (blk off cap : Nat) (d0 : Array Cel) (w0 : World) (eg : ∀ args w, (callFunc g args).run Tryd.prog w = .ok (.enter g args) w) (hcmp : CmpLays Tryd.prog g cb Cel.enc 9 cmpCel blk off d0.size w0)
    (R : RowK Cel.enc 9 w0 blk off d0) (hsz : d0.size < 4611686018427387904) : InsSays Tryd.prog Cel.enc 9 cmpCel g cb blk off cap w0 d0.size := by
  intro a b d w A X C hn S hd hA hb
  have hlen : d.size = A.length + X.length + C.length := by rw [← Array.length_toList, hd]; simp; omega
  have hC : CmpLays Tryd.prog g cb Cel.enc 9 cmpCel blk off d.size w := fun m os dk hdk x y => by
    obtain ⟨n0, os0, rfl⟩ := S
    rw [sortWorldK_on Cel.enc 9 w0 blk off n0 m d dk os0 os R.hblk hdk]
    exact hcmp _ _ dk (by omega) x y
  have h1 := insertion_list swoCel d A X C hd
  rw [hA, ← hb] at h1
  have hs' : (Sort.insertionSort (ltOf cmpCel) d a b).size = d.size := by rw [← Array.length_toList, h1, hlen]; simp [isort_len]; omega
  refine (AnyQ.insertionSortCmpFunc insLays 9 Tryd.isAgg40 Tryd.sizeOf40 Cel.enc R.hk R.h1 cmpCel g cb blk off cap a b d w eg hC (S.holds R.hblk R.hH hn.symm) (S.lt R.hblk) (by omega) (by omega) (by omega)).mono ?_
  rintro e w' ⟨rfl, n, os, rfl⟩
  exact ⟨rfl, _, h1, hs', S.on R.hblk n _ os hs'⟩
/-- The library's clone of a row of members. -/
theorem clone (A : Option Addr) (cc : Nat) (cs : List Cel) (w : World) (hr : Kd.C kCel w A cs.length cs) (hl : cs.length ≤ 1034834473200) :
    Calls Tryd.prog 45 #[.slice A cs.length cc] w fun e w' => ∃ v' : Value, e = .returned v' ∧ Kd.R kCel 40 w' w.heap.size (fun _ => True) v' cs ∧ Below w.heap.size w w' := by
  have q24 : ∀ (w : World) (a : Option Addr) (n c n' c' : Nat), (binOp .eql 22 (.slice a n c) (.slice none n' c')).run Tryd.prog w = .ok (.bool a.isNone) w := fun w a n c n' c' => Lib.run_eql_slice_nil w _ _ a n c n' c' Tryd.underlying22
  have HR := Lib.hid hr
  clear hr
  cases A with
  | none =>
    have h0 : cs = [] := by
      rcases Nat.eq_zero_or_pos cs.length with h0 | h0
      · exact List.eq_nil_of_length_eq_zero h0
      · obtain ⟨ad, h, _⟩ := HR.out.2.2 h0
        cases h
    subst h0
    go_enter Tryd.func45, Tryd.ntmps45
    go_wp2
    go_ret
    exact ⟨_, rfl, Kd.R_nil _ _ _ _ _, Below.refl _ _⟩
  | some ad =>
    have HO : Kd.R kCel 40 (w.alloc (.cells #[] 40)) w.heap.size (fun _ => True) (.slice (some ⟨w.heap.size, 0, none⟩) 0 0) [] := ⟨fun _ _ => trivial, [], World.ownsRow_made w #[] 0 (Nat.le_refl _) (Nat.zero_le _) (by simp), Reps.none _ _⟩
    have HB : Below w.heap.size w (w.alloc (.cells #[] 40)) := (Below.refl _ _).alloc (Nat.le_refl _) _
    have HR2 : Kd.C kCel (w.alloc (.cells #[] 40)) (some ad) cs.length cs := Kd.C_below HR.out HB
    have HH := Lib.hid (And.intro HO (And.intro HB HR2))
    clear HO HB HR2
    go_enter Tryd.func45, Tryd.ntmps45
    go_wp2_with (at_builtin; refine Kd.R_append_rows kCel w.heap.size rfl _ _ 22 40 _ 136 rfl Tryd.underlying22 info40 (by rfl) (by decide) (by decide) _ [] cs (some ad) cs.length cc (fun _ => True) (fun _ => False) rfl rfl HH.out.1 HH.out.2.2 (fun _ _ h => h) (fun _ h => h.elim) (fun _ _ => trivial) HH.out.2.1 (by simp) (by simp; omega) ?_)
    intro v1 w1 hr hb hg hat
    have HF := Lib.hid (And.intro hr hb)
    clear hr hb hg hat
    go_wp2
    go_ret
    exact ⟨_, rfl, HF.out.1, HF.out.2⟩
/-- The row of cells, flat, as a list of elements' cells. -/
theorem flat_reps (d : Array Cel) : Reps (fun x c => c = Cel.enc x) 9 d.toList (flatK Cel.enc 9 d).toList := by
  have hl : (flatK Cel.enc 9 d).toList.length = d.toList.length * 9 := by simp
  refine ⟨hl, fun j p hj => ?_⟩
  have hjl : j < d.size := by have := (List.getElem?_eq_some_iff.1 hj).1; simpa using this
  have hp : d[j]! = p := by rw [Array.getElem?_toList] at hj; rw [Array.getElem!_eq_getD, Array.getD_eq_getD_getElem?, hj]; rfl
  apply List.ext_getElem?
  intro i
  by_cases hi : i < 9
  · have h1 : ((flatK Cel.enc 9 d).toList.drop (j * 9))[i]? = (flatK Cel.enc 9 d).toList[j * 9 + i]? := by rw [List.getElem?_drop]
    rw [List.getElem?_take_of_lt hi, h1, Array.getElem?_toList]
    have ht : j * 9 + i < d.size * 9 := by omega
    have h2 := get_flatK Cel.enc 9 d (j * 9 + i) ht
    rw [show (j * 9 + i) / 9 = j by omega, show (j * 9 + i) % 9 = i by omega, hp] at h2
    rw [Array.getElem?_eq_getElem (by simpa using ht)]
    rw [getElem!_pos _ _ (by simpa using ht)] at h2
    rw [h2, List.getElem?_eq_getElem (by rw [Cel.len]; exact hi), List.getElem!_eq_getElem?_getD, List.getElem?_eq_getElem (by rw [Cel.len]; exact hi)]
    rfl
  · rw [List.getElem?_eq_none (by rw [List.length_take]; omega), List.getElem?_eq_none (by rw [Cel.len]; omega)]
set_option maxHeartbeats 1000000 in
theorem ins_nil (f : Value) (w : World) : Calls Tryd.prog 72 #[.slice none 0 0, .int .i64 0, .int .i64 0, f] w fun e w' => e = .returned (.tuple #[]) ∧ w' = w := by
  go_enter Tryd.func72, Tryd.ntmps72
  go_wp2_with fail
  go_loopg [8] 0 (fun kx s8 wr => s8 = .int .i64 1 ∧ wr = w)
  case atStart => exact ⟨rfl, rfl⟩
  case round =>
    obtain ⟨rfl, rfl⟩ := hrel
    go_wp2_with fail
    go_end0
    exact ⟨rfl, rfl⟩
set_option maxHeartbeats 1000000 in
theorem stable_nil (f : Value) (w : World) : Calls Tryd.prog 59 #[.slice none 0 0, .int .i64 0, f] w fun e w' => e = .returned (.tuple #[]) ∧ w' = w := by
  go_enter Tryd.func59, Tryd.ntmps59
  go_wp2_with fail
  go_loopg [7, 8] 0 (fun kx s7 s8 wr => s7 = .int .i64 0 ∧ s8 = .int .i64 20 ∧ wr = w)
  case atStart => exact ⟨rfl, rfl, rfl⟩
  case round =>
    obtain ⟨rfl, rfl, rfl⟩ := hrel
    go_wp2_with (go_at_call 72; refine (ins_nil _ _).mono ?_; rintro e w' ⟨rfl, rfl⟩)
    go_loopg [6, 7, 8, 9] 0 (fun kx s6 s7 s8 s9 wr2 => s6 = .int .i64 20 ∧ wr2 = w')
    case atStart => exact ⟨rfl, rfl⟩
    case round =>
      obtain ⟨rfl, rfl⟩ := hrel
      go_wp2_with fail
      go_end0
      exact ⟨rfl, rfl⟩
set_option maxHeartbeats 1000000 in
theorem sort_nil (f : Value) (w : World) : Calls Tryd.prog 46 #[.slice none 0 0, f] w fun e w' => e = .returned (.tuple #[]) ∧ w' = w := by
  go_enter Tryd.func46, Tryd.ntmps46
  go_wp2_with (go_at_call 59; refine (stable_nil _ _).mono ?_; rintro e w' ⟨rfl, rfl⟩)
  go_end0
  exact ⟨rfl, rfl⟩
set_option maxHeartbeats 1000000 in
theorem falling (A : Option Addr) (n c : Nat) (w : World) : Calls Tryd.prog 47 #[.slice A n c] w fun e w' => e = .returned (.func (.func 60) #[] #[.pointer (some ⟨w.heap.size, 0, none⟩)]) ∧ w' = w.alloc (.cells #[.slice A n c] 88) := by
  go_enter Tryd.func47, Tryd.ntmps47
  go_wp2
  go_ret
  exact ⟨rfl, rfl⟩
/-- The row's block, behind the sort. -/
theorem sorted_block {W : World} {g : Nat} {cur : Array Value} {T : TypeId} (h : W.heap[g]? = some (.cells cur T (0, 0))) (n : Nat) (d : Array Cel) (os : Array Obj) (hs : (flatK Cel.enc 9 d).size ≤ cur.size) :
    ∃ cur' : Array Value, (sortWorldK Cel.enc 9 W g 0 n d os).heap[g]? = some (.cells cur' T (0, 0)) ∧ cur'.size = cur.size ∧ cur'.toList.take (flatK Cel.enc 9 d).size = (flatK Cel.enc 9 d).toList := by
  have hg : g < W.heap.size := by
    rcases Nat.lt_or_ge g W.heap.size with h1 | h1
    · exact h1
    · rw [Array.getElem?_eq_none h1] at h; cases h
  generalize hF : flatK Cel.enc 9 d = F at hs ⊢
  refine ⟨putCells id 0 F cur, ?_, by simp [putCells], ?_⟩
  · unfold sortWorldK
    rw [heap_grow_old _ _ (by rw [size_putRowK]; exact hg)]
    unfold putRowK putRow
    rw [hF]
    unfold mapBlock
    simp only [Array.getElem?_modify, if_true]
    show Option.map _ (W.heap[g]?) = _
    rw [h]; rfl
  · apply List.ext_getElem?
    intro i
    by_cases hi : i < F.size
    · rw [List.getElem?_take_of_lt hi, Array.getElem?_toList, Array.getElem?_toList, Array.getElem?_eq_getElem (by simp [putCells]; omega), Array.getElem?_eq_getElem hi]
      unfold putCells
      simp [hi]
    · rw [List.getElem?_eq_none (by rw [List.length_take]; omega), List.getElem?_eq_none (by simp; omega)]
theorem sorted_below {w W : World} (hb : Below w.heap.size w W) {g : Nat} (hg : w.heap.size ≤ g) (n : Nat) (d : Array Cel) (os : Array Obj) : Below w.heap.size w (sortWorldK Cel.enc 9 W g 0 n d os) := by
  refine ⟨hb.os, hb.tape, hb.output, ?_, ?_⟩
  · exact Nat.le_trans hb.size (size_sortWorldK_c Cel.enc 9 W g 0 n d os)
  · intro k hk
    have h1 : k < W.heap.size := Nat.lt_of_lt_of_le hk hb.size
    unfold sortWorldK
    rw [heap_grow_old _ _ (by rw [size_putRowK]; exact h1)]
    unfold putRowK putRow mapBlock
    simp only [Array.getElem?_modify]
    rw [if_neg (by omega)]
    exact hb.block k hk
theorem holds_of {W : World} {g : Nat} {cur : Array Value} {T : TypeId} (h : W.heap[g]? = some (.cells cur T (0, 0))) (d : Array Cel) (hs : (flatK Cel.enc 9 d).size ≤ cur.size) (ht : cur.toList.take (flatK Cel.enc 9 d).size = (flatK Cel.enc 9 d).toList) : HoldsK Cel.enc 9 W g 0 d := by
  intro j hj
  rw [Nat.zero_add]
  have h1 : cur.toList[j]? = (flatK Cel.enc 9 d).toList[j]? := by rw [← ht, List.getElem?_take_of_lt hj]
  rw [Array.getElem?_toList, Array.getElem?_toList, Array.getElem?_eq_getElem hj] at h1
  constructor
  · have h2 : (flatK Cel.enc 9 d)[j]! = (flatK Cel.enc 9 d)[j] := getElem!_pos (flatK Cel.enc 9 d) j hj
    rw [h2]
    simp [World.cell?, h, h1]
  · simp [World.frozen?, h]
theorem reps_inj {f : Cel → List Value} {xs : List Cel} {l1 l2 : List Value} (h1 : Reps (fun x c => c = f x) 9 xs l1) (h2 : Reps (fun x c => c = f x) 9 xs l2) : l1 = l2 := by
  apply List.ext_getElem?
  intro i
  by_cases hi : i < xs.length * 9
  · have hj : i / 9 < xs.length := by omega
    have a := h1.2 (i / 9) xs[i / 9] (List.getElem?_eq_getElem hj)
    have b := h2.2 (i / 9) xs[i / 9] (List.getElem?_eq_getElem hj)
    have e : ((l1.drop (i / 9 * 9)).take 9)[i % 9]? = ((l2.drop (i / 9 * 9)).take 9)[i % 9]? := by rw [a, b]
    rw [List.getElem?_take_of_lt (by omega), List.getElem?_take_of_lt (by omega), List.getElem?_drop, List.getElem?_drop, show i / 9 * 9 + i % 9 = i by omega] at e
    exact e
  · rw [List.getElem?_eq_none (by rw [h1.1]; omega), List.getElem?_eq_none (by rw [h2.1]; omega)]
set_option maxHeartbeats 4000000 in
/-- The program's order. -/
theorem order (A : Option Addr) (cc : Nat) (cs : List Cel) (w : World) (hr : Kd.C kCel w A cs.length cs) (hl : cs.length ≤ 1034834473200) :
    Calls Tryd.prog 35 #[.slice A cs.length cc] w fun e w' => ∃ v' : Value, e = .returned v' ∧ Kd.R kCel 40 w' w.heap.size (fun _ => True) v' (isort (ltOf cmpCel) cs) ∧ Below w.heap.size w w' := by
  have C1 := clone A cc cs w hr hl
  clear hr
  go_enter Tryd.func35, Tryd.ntmps35
  go_wp2_with fail
  refine C1.mono ?_
  clear C1
  rintro e w1 ⟨v, rfl, hv, hb⟩
  obtain ⟨_, inner, hown, hrep⟩ := hv
  rcases hown.2 with ⟨rfl, hn⟩ | ⟨g, cap, cur, rfl, hg, hh, hnc, hcm, hcs, htk⟩
  · have h0 : cs = [] := List.eq_nil_of_length_eq_zero hn
    have HB := Lib.hid hb
    clear hb hown hrep hl hn
    go_wp2_with (first | (go_at_call 47; refine (falling _ _ _ _).mono ?_; rintro e w' ⟨rfl, rfl⟩) | (go_at_call 46; refine (sort_nil _ _).mono ?_; rintro e w' ⟨rfl, rfl⟩))
    go_ret
    refine ⟨_, rfl, ?_, ?_⟩
    · rw [h0]; exact Kd.R_nil _ _ _ _ _
    · exact (HB.out.alloc HB.out.size _).alloc (by have := HB.out.size; simp; omega) _
  · have hb2 := hb.size
    have HB := Lib.hid hb
    have HO := Lib.hid (And.intro hh (And.intro hcs (And.intro htk (And.intro hrep hown.1))))
    clear hb hown hrep htk hcs
    go_wp2_with (go_at_call 47; refine (falling _ _ _ _).mono ?_; rintro e w' ⟨rfl, rfl⟩)
    obtain ⟨W, hW⟩ : ∃ W, W = ((w1.alloc (Obj.cells #[Value.func (Fn.func 48) #[] #[], Value.func (Fn.func 49) #[] #[]] 77)).alloc (Obj.cells #[Value.slice (some { block := w1.heap.size, off := 0 }) 2 2] 88)) := ⟨_, rfl⟩
    have hgl : g < w1.heap.size := by
      rcases Nat.lt_or_ge g w1.heap.size with h1 | h1
      · exact h1
      · rw [Array.getElem?_eq_none h1] at hh; cases hh
    have hBW : Below w.heap.size w W := by rw [hW]; exact (HB.out.alloc HB.out.size _).alloc (by have := HB.out.size; simp; omega) _
    have hgW : W.heap[g]? = some (.cells cur 40 (0, 0)) := by rw [hW]; exact alloc_old _ _ _ _ (alloc_old _ _ _ _ hh)
    have hfl : inner = (flatK Cel.enc 9 cs.toArray).toList := reps_inj (f := Cel.enc) HO.out.2.2.2.1 (flat_reps cs.toArray)
    have hfs : (flatK Cel.enc 9 cs.toArray).size = cs.length * 9 := by simp
    have hsz : W.heap.size = w1.heap.size + 2 := by rw [hW]; simp
    have hHd : HoldsK Cel.enc 9 W g 0 cs.toArray := holds_of hgW cs.toArray (by rw [hfs, HO.out.2.1]; exact Nat.mul_le_mul_right _ hnc) (by rw [hfs]; exact HO.out.2.2.1.trans hfl)
    have RK : RowK Cel.enc 9 W g 0 cs.toArray := ⟨Cel.len, Cel.h1, hHd, by omega⟩
    have eg : ∀ args w, (callFunc 60 args).run Tryd.prog w = .ok (.enter 60 args) w := enters_of Tryd.func60 (by kernel_rfl) rfl
    have e29 : ∀ args w, (callFunc 72 args).run Tryd.prog w = .ok (.enter 72 args) w := enters_of Tryd.func72 (by kernel_rfl) rfl
    have HC : CmpLays Tryd.prog 60 #[.pointer (some ⟨w1.heap.size + 1, 0, none⟩)] Cel.enc 9 cmpCel g 0 cs.toArray.size W := fallsLays (w1.heap.size + 1) w1.heap.size 2 g 0 _ W (by rw [hW]; simp) (by rw [hW]; simp) (by rw [hW]; simp) (by omega) (by omega)
    have hls : cs.toArray.size < 1000000000000000000 := by simp; omega
    have C2 := sortStable (bas) bod Cel.enc cmpCel 60 #[.pointer (some ⟨w1.heap.size + 1, 0, none⟩)] g 0 cap cs.toArray W e29 eg HC swoCel RK (insSays 60 _ g 0 cap cs.toArray W eg HC RK (by omega)) hls
    rw [← hW]
    rw [List.size_toArray] at C2
    refine C2.mono ?_
    clear C2 HC RK hHd eg e29 hls
    rintro e w2 ⟨rfl, d', hl', hz', n, os, rfl⟩
    obtain ⟨cur', hk1, hk2, hk3⟩ := sorted_block hgW n d' os (by rw [size_flatK, hz', HO.out.2.1]; exact Nat.mul_le_mul_right _ hnc)
    have HF : Hid (Kd.R kCel 40 (sortWorldK Cel.enc 9 W g 0 n d' os) w.heap.size (fun _ => True) (.slice (some ⟨g, 0, none⟩) cs.length cap) (isort (ltOf cmpCel) cs)) := by
      have hll : (isort (ltOf cmpCel) cs).length = cs.length := isort_len cs
      refine ⟨fun _ _ => trivial, (flatK Cel.enc 9 d').toList, ?_, ?_⟩
      · rw [hll]
        refine ⟨by simp [hz']; rfl, Or.inr ⟨g, cap, cur', rfl, hg, hk1, hnc, hcm, by rw [hk2]; exact HO.out.2.1, ?_⟩⟩
        rw [← hk3, size_flatK, hz']
        simp [kCel]
      · have := flat_reps d'
        rw [hl'] at this
        exact this
    have HB2 : Hid (Below w.heap.size w (sortWorldK Cel.enc 9 W g 0 n d' os)) := sorted_below hBW hg n d' os
    clear hk1 hk2 hk3 hl' hz' hBW hgW hfl hfs hsz hW
    generalize sortWorldK Cel.enc 9 W g 0 n d' os = w3 at HF HB2 ⊢
    go_wp2_with fail
    go_ret
    exact ⟨_, rfl, HF.out, HB2.out⟩
end Go.Proofs.YtjbckpoepfbgbaaDoor.Srt
end
section
/- The program's order of members, told of members as values (Kd.V). -/
set_option linter.unusedVariables false
set_option maxRecDepth 20000
namespace Go.Proofs.YtjbckpoepfbgbaaDoor.Srt
open Go.Shelf Go.RowKit Go.Lib Go.Sort Go.Proofs.YtjbckpoepfbgbaaDoor.Mrg Go.Proofs.YtjbckpoepfbgbaaDoor.Pr Go.Proofs.YtjbckpoepfbgbaaDoorW.PrintWords Go.Proofs.YtjbckpoepfbgbaaDoorW.PrintMore
/-- Does a member stand ahead of another one? -/
def ltM (a b : S40) : Bool := decide (b.f1 < a.f1 ∨ b.f1 = a.f1 ∧ b.f0 < a.f0)
/-- A member and its cells. -/
structure Pm where
  x : S40
  c : Cel
  h : c.num = x.f0 ∧ c.ed = x.f1
def ltP (a b : Pm) : Bool := ltM a.x b.x
theorem ltP_cel (a b : Pm) : ltOf cmpCel a.c b.c = ltP a b := by
  rw [ltOf_cel]; unfold ltP ltM; rw [a.h.1, a.h.2, b.h.1, b.h.2]
theorem ins_map {α β : Type} (f : α → β) (lt : α → α → Bool) (lt' : β → β → Bool) (h : ∀ a b, lt' (f a) (f b) = lt a b) (x : α) (l : List α) : ins lt' (f x) (l.map f) = (ins lt x l).map f := by
  induction l with
  | nil => rfl
  | cons y l ih =>
    rw [List.map_cons, ins, ins, h, ih]
    split <;> rfl
theorem isort_map {α β : Type} (f : α → β) (lt : α → α → Bool) (lt' : β → β → Bool) (h : ∀ a b, lt' (f a) (f b) = lt a b) (l : List α) : isort lt' (l.map f) = (isort lt l).map f := by
  have H : ∀ (l s : List α), (l.map f).foldl (fun s x => ins lt' x s) (s.map f) = (l.foldl (fun s x => ins lt x s) s).map f := by
    intro l
    induction l with
    | nil => intro s; rfl
    | cons x l ih => intro s; rw [List.map_cons, List.foldl_cons, List.foldl_cons, ins_map f lt lt' h, ih]
  exact H l []
theorem isort_mem {α : Type} (lt : α → α → Bool) (l : List α) (y : α) : y ∈ isort lt l ↔ y ∈ l := by
  have H : ∀ (l s : List α), y ∈ l.foldl (fun s x => ins lt x s) s ↔ y ∈ s ∨ y ∈ l := by
    intro l
    induction l with
    | nil => intro s; simp
    | cons x l ih =>
      intro s
      rw [List.foldl_cons, ih, ins_mem, List.mem_cons]
      constructor
      · rintro ((h | h) | h)
        · exact Or.inr (Or.inl h)
        · exact Or.inl h
        · exact Or.inr (Or.inr h)
      · rintro (h | h | h)
        · exact Or.inl (Or.inr h)
        · exact Or.inl (Or.inl h)
        · exact Or.inr h
  have := H l []
  simpa [isort] using this
/-- Members that are read, each with its cells. -/
theorem pairs_of (Q : S40 → List Value → Prop) (hQ : ∀ x c, Q x c → ∃ p : Pm, p.x = x ∧ p.c.enc = c) : ∀ (xs : List S40) (cs : List (List Value)), cs.length = xs.length → (∀ (j : Nat) (x : S40) (c : List Value), xs[j]? = some x → cs[j]? = some c → Q x c) →
    ∃ Z : List Pm, Z.map (·.x) = xs ∧ Z.map (·.c.enc) = cs ∧ ∀ z ∈ Z, Q z.x z.c.enc
  | [], [], _, _ => ⟨[], rfl, rfl, fun z hz => by simp at hz⟩
  | [], _ :: _, h, _ => by simp at h
  | _ :: _, [], h, _ => by simp at h
  | x :: xs, c :: cs, h, hf => by
    obtain ⟨Z, h1, h2, h3⟩ := pairs_of Q hQ xs cs (by simpa using h) (fun j x c hx hc => hf (j + 1) x c (by simpa using hx) (by simpa using hc))
    have h0 := hf 0 x c rfl rfl
    obtain ⟨p, hp1, hp2⟩ := hQ x c h0
    refine ⟨p :: Z, by rw [List.map_cons, h1, hp1], by rw [List.map_cons, h2, hp2], fun z hz => ?_⟩
    rcases List.mem_cons.1 hz with rfl | hz
    · rw [hp1, hp2]; exact h0
    · exact h3 z hz
/-- Cells that are read as members' cells. -/
theorem cels_read {w : World} {A : Option Addr} {n : Nat} {Z : List Pm} (h : ReadsRow (fun x cs => cs = x ∧ cs.length = k40.sz ∧ ∀ u ∈ cs, u.oneCell' = true) k40.sz w A n (Z.map (·.c.enc))) : Kd.C kCel w A n (Z.map (·.c)) := by
  obtain ⟨h1, h2, h3⟩ := h
  refine ⟨by simpa using h1, h2, fun hn => ?_⟩
  obtain ⟨ad, rfl, hc⟩ := h3 hn
  refine ⟨ad, rfl, fun j p hj => ?_⟩
  have hj' : (Z.map (·.c.enc))[j]? = some p.enc := by
    rw [List.getElem?_map] at hj ⊢
    obtain ⟨z, hz, rfl⟩ := Option.map_eq_some_iff.1 hj
    rw [hz]; rfl
  obtain ⟨c, hc1, hc2, hc3⟩ := hc j _ hj'
  exact ⟨c, hc1, hc2.1, hc3⟩
end Go.Proofs.YtjbckpoepfbgbaaDoor.Srt
namespace Go.Proofs.YtjbckpoepfbgbaaDoor.Gv
open Go.RowKit Go.Sort Go.Proofs.YtjbckpoepfbgbaaDoor.Mrg Go.Proofs.YtjbckpoepfbgbaaDoor.Srt Go.Proofs.YtjbckpoepfbgbaaDoor.Pr Go.Proofs.YtjbckpoepfbgbaaDoorW.PrintWords Go.Proofs.YtjbckpoepfbgbaaDoorW.PrintMore
end Go.Proofs.YtjbckpoepfbgbaaDoor.Gv
end
