/- What the printed functions of the date package answer, in closed form. -/
import Derived.Test.YtfcmdameiabjmaaDoorPrx2
import Derived.Test.YtfcmdameiabjmaaDoorCal
namespace Go.Proofs.YtfcmdameiabjmaaDoor.Fun
open Go.RowKit Go.Proofs.YtfcmdameiabjmaaDoor.Pr Go.Proofs.YtfcmdameiabjmaaDoorW.PrintWords Go.Proofs.YtfcmdameiabjmaaDoorW.PrintLast Go.Proofs.YtfcmdameiabjmaaDoorW.PrintMore

theorem w64 {n : Int} (h : -9223372036854775808 ≤ n ∧ n ≤ 9223372036854775807) : wrap64 n = n := by unfold wrap64; omega
theorem td {a b : Int} (h : 0 ≤ a) : Int.tdiv a b = a / b := Int.tdiv_eq_ediv_of_nonneg h
theorem tm {a b : Int} (h : 0 ≤ a) : Int.tmod a b = a % b := Int.tmod_eq_emod_of_nonneg h

theorem civil_eq (n : Int) (h0 : 0 ≤ n) (h1 : n ≤ 10000000) : date_civil.f n = some (Cal.civ n) := by
  unfold date_civil.f Cal.civ Cal.doy Cal.yoe
  rw [tm h0, td h0]
  obtain ⟨D, hD⟩ : ∃ D, n % 146097 = D := ⟨_, rfl⟩
  obtain ⟨E, hE⟩ : ∃ E, n / 146097 = E := ⟨_, rfl⟩
  rw [hD, hE]
  have d0 : 0 ≤ D := by omega
  have d1 : D ≤ 146096 := by omega
  have e0 : 0 ≤ E := by omega
  have e1 : E ≤ 100 := by omega
  clear hD hE h0 h1
  rw [td d0, td d0, td d0]
  obtain ⟨q1, hq1⟩ : ∃ q, D / 1460 = q := ⟨_, rfl⟩
  obtain ⟨q2, hq2⟩ : ∃ q, D / 36524 = q := ⟨_, rfl⟩
  obtain ⟨q3, hq3⟩ : ∃ q, D / 146096 = q := ⟨_, rfl⟩
  rw [hq1, hq2, hq3, w64 (n := q1) (by omega), w64 (n := q2) (by omega), w64 (n := q3) (by omega), w64 (n := D - q1) (by omega), w64 (n := D - q1 + q2) (by omega), w64 (n := D - q1 + q2 - q3) (by omega), td (a := D - q1 + q2 - q3) (by omega)]
  have hbd := Cal.doy_bd D d0 d1
  unfold Cal.doy Cal.yoe at hbd
  rw [hq1, hq2, hq3] at hbd
  clear hq1 hq2 hq3
  obtain ⟨Y, hY⟩ : ∃ Y, (D - q1 + q2 - q3) / 365 = Y := ⟨_, rfl⟩
  rw [hY] at hbd ⊢
  obtain ⟨hy0, hy1, hdoy⟩ := hbd
  clear hY
  rw [w64 (n := Y) (by omega), td hy0, td hy0]
  obtain ⟨y4, h4⟩ : ∃ q, Y / 4 = q := ⟨_, rfl⟩
  obtain ⟨y100, h100⟩ : ∃ q, Y / 100 = q := ⟨_, rfl⟩
  rw [h4, h100] at hdoy ⊢
  have b4 : 0 ≤ y4 ∧ y4 ≤ 100 := by omega
  have b100 : 0 ≤ y100 ∧ y100 ≤ 4 := by omega
  clear h4 h100
  rw [w64 (n := 365 * Y) (by omega), w64 (n := y4) (by omega), w64 (n := y100) (by omega), w64 (n := 365 * Y + y4) (by omega), w64 (n := 365 * Y + y4 - y100) (by omega), w64 (n := D - (365 * Y + y4 - y100)) (by omega)]
  obtain ⟨Q, hQ⟩ : ∃ q, D - (365 * Y + y4 - y100) = q := ⟨_, rfl⟩
  rw [hQ] at hdoy ⊢
  clear hQ
  rw [w64 (n := 5 * Q) (by omega), w64 (n := 5 * Q + 2) (by omega), td (a := 5 * Q + 2) (by omega)]
  obtain ⟨M, hM⟩ : ∃ q, (5 * Q + 2) / 153 = q := ⟨_, rfl⟩
  rw [hM, w64 (n := M) (by omega), w64 (n := 153 * M) (by omega), w64 (n := 153 * M + 2) (by omega), td (a := 153 * M + 2) (by omega)]
  obtain ⟨R, hR⟩ : ∃ q, (153 * M + 2) / 5 = q := ⟨_, rfl⟩
  rw [hR, w64 (n := R) (by omega), w64 (n := Q - R) (by omega), w64 (n := Q - R + 1) (by omega), w64 (n := E) (by omega), w64 (n := E * 400) (by omega), w64 (n := E * 400 - 400) (by omega), w64 (n := Y + (E * 400 - 400)) (by omega), w64 (n := M + 3) (by omega), w64 (n := M - 9) (by omega), w64 (n := Y + (E * 400 - 400) + 1) (by omega)]
  split <;> rfl
theorem rs_ext (s t : ByteArray) (h : s.data.toList = t.data.toList) : s = t := by apply ByteArray.ext; apply Array.ext'; exact h
theorem toList_data (t : ByteArray) : t.toList = t.data.toList := by rw [ByteArray.toList_eq]
theorem lastD_le (y m : Int) : Cal.lastD y m ≤ 31 := by
  unfold Cal.lastD
  split
  · split <;> omega
  · omega

end Go.Proofs.YtfcmdameiabjmaaDoor.Fun
