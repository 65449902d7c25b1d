/- The reference's zone answers what date.text's does. -/
import Derived.Test.YtfcmdameiabjmaaDoorParA
set_option linter.unusedVariables false
namespace Go.Proofs.YtfcmdameiabjmaaDoor.Fun
open Go.RowKit Go.Proofs.YtfcmdameiabjmaaDoor.Pr Go.Proofs.YtfcmdameiabjmaaDoorW.PrintWords Go.Proofs.YtfcmdameiabjmaaDoorW.PrintLast Go.Proofs.YtfcmdameiabjmaaDoorW.PrintMore
open Go.Proofs.YtfcmdameiabjmaaDoor.Txt

/-- The zone's answer out of its two numbers. -/
def zG (t : ByteArray) : Bool := sigAt t 3 58 && (decide (0 ≤ numAt t 1 2) && (decide (numAt t 1 2 ≤ 23) && (decide (0 ≤ numAt t 4 2) && decide (numAt t 4 2 ≤ 59))))
/-- The zone: how far, and whether it is all there and nothing is left. -/
def zR (t : ByteArray) : Int × Bool :=
  if t.data.toList = [90] then (0, true) else
  if t.size = 6 ∧ (sigAt t 0 43 = true ∨ sigAt t 0 45 = true) ∧ zG t = true then (if sigAt t 0 45 = true then -(numAt t 1 2) * 3600 - numAt t 4 2 * 60 else numAt t 1 2 * 3600 + numAt t 4 2 * 60, true) else (0, false)

theorem numAt_ge (s : ByteArray) (a c : Nat) : -1 ≤ numAt s a c := by unfold numAt; split <;> omega
theorem numAt_two (s : ByteArray) (a : Nat) : numAt s a 2 < 100 := by have := numAt_lt s a 2; simpa using this

theorem rzone_j0 (t : ByteArray) (k : Nat) (hk : 20 < k) (hsz : t.size = 6) (x : Bool) (hx : x = !sigAt t 3 58) (hh : sigAt t 0 43 = true ∨ sigAt t 0 45 = true) :
    broadsheetref11_zone.j0 k t x = some (if zG t = true then (if sigAt t 0 45 = true then -(numAt t 1 2) * 3600 - numAt t 4 2 * 60 else numAt t 1 2 * 3600 + numAt t 4 2 * 60, true) else (0, false)) := by
  obtain ⟨k, rfl⟩ : ∃ q, k = q + 2 := ⟨k - 2, by omega⟩
  simp only [broadsheetref11_zone.j0]
  unfold zG
  cases hs : sigAt t 3 58 with
  | false =>
    rw [hs] at hx
    subst hx
    simp
  | true =>
    rw [hs] at hx
    subst hx
    have r1 : broadsheetref11_number.f (k + 1) t 1 2 = some (numAt t 1 2) := rnum_eq t (k + 1) 1 2 (by omega) (by omega) (by omega)
    have r2 : broadsheetref11_number.f (k + 1) t 4 2 = some (numAt t 4 2) := rnum_eq t (k + 1) 4 2 (by omega) (by omega) (by omega)
    rw [r1, r2, if_neg (by simp)]
    have n1 := numAt_ge t 1 2
    have n2 := numAt_ge t 4 2
    have m1 := numAt_two t 1
    have m2 := numAt_two t 4
    simp only [Option.bind_some, broadsheetref11_zone.j1]
    obtain ⟨c, hc⟩ : ∃ c, t.data.toList[0]? = some c := ⟨_, List.getElem?_eq_getElem (by have : t.data.toList.length = t.size := rfl; omega)⟩
    have hb : bt t 0 = c.toNat := bt_at t 0 c hc
    have h45 : (bt t 0 = 45) ↔ sigAt t 0 45 = true := by
      unfold sigAt
      rw [hb, hc]
      simp
      constructor
      · intro h; exact UInt8.toNat_inj.1 (by show c.toNat = 45; omega)
      · intro h; rw [h]; rfl
    generalize numAt t 1 2 = a at *
    generalize numAt t 4 2 = b at *
    by_cases a0 : a < 0
    · rw [if_pos a0, if_pos trivial]; simp; omega
    · rw [if_neg a0]
      by_cases a1 : a > 23
      · rw [if_pos a1, if_pos trivial]; simp; omega
      · rw [if_neg a1]
        by_cases b0 : b < 0
        · rw [if_pos b0, if_pos trivial]; simp; omega
        · rw [if_neg b0]
          by_cases b1 : b > 59
          · rw [if_pos (by simp; omega)]; simp; omega
          · rw [if_neg (by simp; omega), if_pos (show (0 : Int) < t.size by omega)]
            have hcond : (true && (decide (0 ≤ a) && (decide (a ≤ 23) && (decide (0 ≤ b) && decide (b ≤ 59))))) = true := by simp; omega
            rw [if_pos hcond]
            rw [w64 (n := -a) (by omega), w64 (n := -a * 3600) (by omega), w64 (n := b * 60) (by omega), w64 (n := -a * 3600 - b * 60) (by omega), w64 (n := a * 3600) (by omega), w64 (n := a * 3600 + b * 60) (by omega)]
            by_cases h : bt t 0 = 45
            · rw [if_pos h, if_pos (h45.1 h)]
            · rw [if_neg h, if_neg (fun x => h (h45.2 x))]


theorem rzone_eq (t : ByteArray) (k : Nat) (hk : 30 < k) : broadsheetref11_zone.f k t = some (zR t) := by
  have hl : t.data.toList.length = t.size := rfl
  unfold broadsheetref11_zone.f zR
  rw [toList_data]
  by_cases hz : t.data.toList = [90]
  · rw [if_pos hz, if_pos hz]
  · rw [if_neg hz, if_neg hz]
    have bad : broadsheetref11_zone.j0 k t true = some (0, false) := by
      obtain ⟨k, rfl⟩ : ∃ q, k = q + 2 := ⟨k - 2, by omega⟩
      simp [broadsheetref11_zone.j0]
    by_cases h6 : t.size = 6
    · rw [if_pos (by omega), if_pos (by omega)]
      obtain ⟨c, hc⟩ : ∃ c, t.data.toList[0]? = some c := ⟨_, List.getElem?_eq_getElem (by omega)⟩
      obtain ⟨d, hd⟩ : ∃ d, t.data.toList[3]? = some d := ⟨_, List.getElem?_eq_getElem (by omega)⟩
      have hb : bt t 0 = c.toNat := bt_at t 0 c hc
      have hb3 : bt t 3 = d.toNat := bt_at t 3 d hd
      have h58 : (bt t 3 != 58) = !sigAt t 3 58 := by
        unfold sigAt
        rw [hb3, hd, Bool.eq_iff_iff]
        simp
        have : d = 58 ↔ d.toNat = 58 := ⟨fun h => by rw [h]; rfl, fun h => UInt8.toNat_inj.1 h⟩
        rw [this]; omega
      by_cases c43 : c = 43
      · subst c43
        rw [if_pos (by rw [hb]; rfl), if_pos (by omega)]
        have hs : sigAt t 0 43 = true := by unfold sigAt; rw [hc]; simp
        rw [rzone_j0 t k (by omega) h6 _ h58 (Or.inl hs)]
        by_cases g : zG t = true
        · have hh : t.size = 6 ∧ (sigAt t 0 43 = true ∨ sigAt t 0 45 = true) ∧ zG t = true := ⟨h6, Or.inl hs, g⟩
          rw [if_pos g, if_pos hh]
        · have hh : ¬ (t.size = 6 ∧ (sigAt t 0 43 = true ∨ sigAt t 0 45 = true) ∧ zG t = true) := fun x => g x.2.2; rw [if_neg g, if_neg hh]
      · have hn : c.toNat ≠ 43 := fun h => c43 (UInt8.toNat_inj.1 h)
        rw [if_neg (by rw [hb]; omega)]
        by_cases c45 : c = 45
        · subst c45
          rw [if_pos (by rw [hb]; rfl), if_pos (by omega)]
          have hs : sigAt t 0 45 = true := by unfold sigAt; rw [hc]; simp
          rw [rzone_j0 t k (by omega) h6 _ h58 (Or.inr hs)]
          by_cases g : zG t = true
          · have hh : t.size = 6 ∧ (sigAt t 0 43 = true ∨ sigAt t 0 45 = true) ∧ zG t = true := ⟨h6, Or.inr hs, g⟩
            rw [if_pos g, if_pos hh]
          · have hh : ¬ (t.size = 6 ∧ (sigAt t 0 43 = true ∨ sigAt t 0 45 = true) ∧ zG t = true) := fun x => g x.2.2; rw [if_neg g, if_neg hh]
        · have hn2 : c.toNat ≠ 45 := fun h => c45 (UInt8.toNat_inj.1 h)
          rw [if_neg (by rw [hb]; omega), bad, if_neg]
          rintro ⟨_, h | h, _⟩
          · unfold sigAt at h; rw [hc] at h; simp at h; exact c43 h
          · unfold sigAt at h; rw [hc] at h; simp at h; exact c45 h
    · rw [if_neg (by omega), bad, if_neg (fun x => h6 x.1)]

/-- date.text's own. -/
theorem zser (t : ByteArray) (h1 : 1 ≤ t.size) : if zG t = true then ser zL (rs t 1) = (true, rs t 6, [numAt t 1 2, numAt t 4 2]) else (ser zL (rs t 1)).1 = false := by
  unfold zL
  by_cases hg : zG t = true
  · rw [if_pos hg]
    unfold zG at hg
    simp only [Bool.and_eq_true, decide_eq_true_eq] at hg
    obtain ⟨h3, h4, h5, h6, h7⟩ := hg
    rw [ser_yes0 t 1 2 23 _ h1 h4 h5, ser_yes t 3 2 58 59 _ (by decide) h3 h6 h7]
    rfl
  · rw [if_neg hg]
    by_cases a : 0 ≤ numAt t 1 2 ∧ numAt t 1 2 ≤ 23
    · rw [ser_yes0 t 1 2 23 _ h1 a.1 a.2]
      show (ser _ (rs t 3)).1 = false
      apply ser_no t 3 2 58 59 _ (by decide)
      rintro ⟨b1, b2, b3⟩
      apply hg
      unfold zG
      simp only [Bool.and_eq_true, decide_eq_true_eq]
      exact ⟨b1, a.1, a.2, b2, b3⟩
    · exact ser_no0 t 1 2 23 _ h1 a

theorem empty_iff (t : ByteArray) : t.toList.isEmpty = decide (t.size = 0) := by
  rw [toList_data, Bool.eq_iff_iff]
  have hl : t.data.toList.length = t.size := rfl
  rw [List.isEmpty_iff, decide_eq_true_eq, ← hl, List.length_eq_zero_iff]

theorem sgB_z (t : ByteArray) : sgB t zSigns = (sigAt t 0 90 || (sigAt t 0 43 || sigAt t 0 45)) := by
  unfold sgB sigAt zSigns
  cases h : t.data.toList with
  | nil => rfl
  | cons c r =>
    show decide (0 ≤ Lib.indexByte [90, 43, 45] c) = _
    unfold Lib.indexByte
    by_cases h1 : c = 90
    · subst h1; simp
    · by_cases h2 : c = 43
      · subst h2; simp [Lib.indexByte]
      · by_cases h3 : c = 45
        · subst h3; simp [Lib.indexByte]
        · simp [Lib.indexByte, h1, h2, h3, Ne.symm h1, Ne.symm h2, Ne.symm h3]
end Go.Proofs.YtfcmdameiabjmaaDoor.Fun
