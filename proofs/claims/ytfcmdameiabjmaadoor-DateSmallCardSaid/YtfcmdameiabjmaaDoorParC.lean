/- The reference's Parse answers what date.Parse does. -/
import Derived.Test.YtfcmdameiabjmaaDoorParB
set_option linter.unusedVariables false
namespace Go.Proofs.YtfcmdameiabjmaaDoor.Fun
open Go.RowKit Go.Proofs.YtfcmdameiabjmaaDoor.Pr Go.Proofs.YtfcmdameiabjmaaDoorW.PrintWords Go.Proofs.YtfcmdameiabjmaaDoorW.PrintLast Go.Proofs.YtfcmdameiabjmaaDoorW.PrintMore
open Go.Proofs.YtfcmdameiabjmaaDoor.Txt

theorem sigAt_zero (t : ByteArray) (c : UInt8) : sigAt t 0 c = true ↔ ∃ r, t.data.toList = c :: r := by
  unfold sigAt
  cases h : t.data.toList with
  | nil => simp
  | cons d r => simp

theorem sgV_z (t : ByteArray) (c : UInt8) (r : List UInt8) (h : t.data.toList = c :: r) (hs : sgB t zSigns = true) : sgV t zSigns = c.toNat := by
  unfold sgV
  rw [hs, if_pos rfl]
  have hl : t.data.toList.length = t.size := rfl
  have h1 : 0 < t.size := by rw [← hl, h]; simp
  have : t.get! 0 = c := by
    show t.data.getD 0 default = c
    have h2 : t.data[0]? = some c := by rw [← Array.getElem?_toList, h]; rfl
    rw [Array.getD_eq_getD_getElem?, h2]; rfl
  rw [this]

theorem zone_both (t : ByteArray) : (zOk t && (zT t).toList.isEmpty) = (zR t).2 ∧ ((zR t).2 = true → zV t = (zR t).1) := by
  have hl : t.data.toList.length = t.size := rfl
  have T1 : sgB t zSigns = true → sgT t zSigns = rs t 1 := by intro h; unfold sgT; rw [h]; rfl
  cases hsg : sgB t zSigns with
  | false =>
    have hz : zR t = (0, false) := by
      rw [sgB_z] at hsg
      simp only [Bool.or_eq_false_iff] at hsg
      unfold zR
      rw [if_neg, if_neg]
      · rintro ⟨_, h | h, _⟩
        · rw [hsg.2.1] at h; exact absurd h (by decide)
        · rw [hsg.2.2] at h; exact absurd h (by decide)
      · intro h
        have := (sigAt_zero t 90).2 ⟨_, h⟩
        rw [hsg.1] at this; exact absurd this (by decide)
    rw [hz]
    have : zOk t = false := by unfold zOk; rw [hsg]; rfl
    rw [this]
    exact ⟨rfl, fun h => absurd h (by decide)⟩
  | true =>
    have hne : ∃ c r, t.data.toList = c :: r := by
      cases h : t.data.toList with
      | nil => unfold sgB at hsg; rw [h] at hsg; exact absurd hsg (by decide)
      | cons c r => exact ⟨c, r, rfl⟩
    obtain ⟨c, r, hc⟩ := hne
    have hv := sgV_z t c r hc hsg
    have h1 : 1 ≤ t.size := by rw [← hl, hc]; simp
    by_cases h90 : c = 90
    · subst h90
      have hv2 : (sgV t zSigns == 90) = true := by rw [hv]; rfl
      have e1 : zOk t = true := by unfold zOk; rw [hsg, hv2]; rfl
      have e2 : zT t = rs t 1 := by unfold zT; rw [hsg, hv2, T1 hsg]; rfl
      have e3 : zV t = 0 := by unfold zV; rw [hsg, hv2]; rfl
      rw [e1, e2, e3, empty_iff, rs_size]
      unfold zR
      by_cases hr : t.data.toList = [90]
      · rw [if_pos hr]
        have : t.size = 1 := by rw [← hl, hr]; rfl
        rw [this]; exact ⟨rfl, fun _ => rfl⟩
      · rw [if_neg hr]
        have h2 : ¬ t.size - 1 = 0 := by
          intro h
          apply hr
          have : (t.data.toList).length = 1 := by omega
          rw [hc] at this ⊢
          simp at this
          rw [this]
        have h3 : ¬ (t.size = 6 ∧ (sigAt t 0 43 = true ∨ sigAt t 0 45 = true) ∧ zG t = true) := by
          rintro ⟨_, h | h, _⟩
          · rw [sigAt_zero, hc] at h; obtain ⟨_, h⟩ := h; simp at h
          · rw [sigAt_zero, hc] at h; obtain ⟨_, h⟩ := h; simp at h
        rw [if_neg h3, decide_eq_false h2]
        exact ⟨rfl, fun h => absurd h (by decide)⟩
    · have hn : c.toNat ≠ 90 := fun h => h90 (UInt8.toNat_inj.1 h)
      have hv2 : (sgV t zSigns == 90) = false := by rw [hv, beq_eq_false_iff_ne]; omega
      have hor : sigAt t 0 43 = true ∨ sigAt t 0 45 = true := by
        rw [sgB_z] at hsg
        simp only [Bool.or_eq_true] at hsg
        rcases hsg with h | h
        · rw [sigAt_zero, hc] at h; obtain ⟨_, h⟩ := h; simp at h; exact absurd h.1 h90
        · exact h
      have hnz : ¬ t.data.toList = [90] := by rw [hc]; simp [h90]
      have hz := zser t h1
      have e1 : zOk t = (ser zL (rs t 1)).1 := by unfold zOk; rw [hsg, hv2, T1 hsg]; rfl
      have e2 : zT t = (ser zL (rs t 1)).2.1 := by unfold zT; rw [hsg, hv2, T1 hsg]; rfl
      unfold zR
      rw [if_neg hnz]
      by_cases hg : zG t = true
      · rw [if_pos hg] at hz
        rw [e1, e2, hz, empty_iff, rs_size]
        have hsz : 6 ≤ t.size := by
          unfold zG at hg
          simp only [Bool.and_eq_true, decide_eq_true_eq] at hg
          exact numAt_le t 4 2 hg.2.2.2.1
        by_cases h6 : t.size = 6
        · have hh : t.size = 6 ∧ (sigAt t 0 43 = true ∨ sigAt t 0 45 = true) ∧ zG t = true := ⟨h6, hor, hg⟩
          rw [if_pos hh, h6]
          refine ⟨rfl, fun _ => ?_⟩
          have h45 : sgV t zSigns = 45 ↔ sigAt t 0 45 = true := by
            rw [hv, sigAt_zero, hc]
            constructor
            · intro h; exact ⟨r, by rw [UInt8.toNat_inj.1 (show c.toNat = (45 : UInt8).toNat by show c.toNat = 45; omega)]⟩
            · rintro ⟨r', h⟩; simp at h; rw [h.1]; rfl
          unfold zV
          rw [hsg, hv2, T1 hsg, hz]
          show (if sgV t zSigns = 45 then _ else _) = (if sigAt t 0 45 = true then _ else _)
          by_cases h : sgV t zSigns = 45
          · rw [if_pos h, if_pos (h45.1 h)]; rfl
          · rw [if_neg h, if_neg (fun x => h (h45.2 x))]; rfl
        · have hh : ¬ (t.size = 6 ∧ (sigAt t 0 43 = true ∨ sigAt t 0 45 = true) ∧ zG t = true) := fun x => h6 x.1
          rw [if_neg hh, decide_eq_false (by omega)]
          exact ⟨rfl, fun h => absurd h (by decide)⟩
      · rw [if_neg hg] at hz
        have hh : ¬ (t.size = 6 ∧ (sigAt t 0 43 = true ∨ sigAt t 0 45 = true) ∧ zG t = true) := fun x => hg x.2.2
        rw [e1, hz, if_neg hh]
        exact ⟨rfl, fun h => absurd h (by decide)⟩

/-- Are all the signs and numbers there, within their bounds? -/
def okAt (s : ByteArray) : Prop :=
  (0 ≤ numAt s 0 4) ∧ (sigAt s 4 45 = true ∧ 0 ≤ numAt s 5 2 ∧ numAt s 5 2 ≤ 12) ∧ (sigAt s 7 45 = true ∧ 0 ≤ numAt s 8 2 ∧ numAt s 8 2 ≤ 31) ∧
  (sigAt s 10 84 = true ∧ 0 ≤ numAt s 11 2 ∧ numAt s 11 2 ≤ 23) ∧ (sigAt s 13 58 = true ∧ 0 ≤ numAt s 14 2 ∧ numAt s 14 2 ≤ 59) ∧ (sigAt s 16 58 = true ∧ 0 ≤ numAt s 17 2 ∧ numAt s 17 2 ≤ 59)

theorem ser_pL_yes (s : ByteArray) (h : okAt s) : ser pL s = (true, rs s 19, [numAt s 0 4, numAt s 5 2, numAt s 8 2, numAt s 11 2, numAt s 14 2, numAt s 17 2]) := by
  obtain ⟨h0, h1, h2, h3, h4, h5⟩ := h
  have hb : numAt s 0 4 ≤ 9999 := by have := numAt_lt s 0 4; omega
  unfold pL
  conv => lhs; rw [← rs_zero s]
  rw [ser_yes0 s 0 4 9999 _ (by omega) h0 hb, ser_yes s (0 + 4) 2 45 12 _ (by decide) h1.1 h1.2.1 h1.2.2, ser_yes s (0 + 4 + 1 + 2) 2 45 31 _ (by decide) h2.1 h2.2.1 h2.2.2,
    ser_yes s (0 + 4 + 1 + 2 + 1 + 2) 2 84 23 _ (by decide) h3.1 h3.2.1 h3.2.2, ser_yes s (0 + 4 + 1 + 2 + 1 + 2 + 1 + 2) 2 58 59 _ (by decide) h4.1 h4.2.1 h4.2.2, ser_yes s (0 + 4 + 1 + 2 + 1 + 2 + 1 + 2 + 1 + 2) 2 58 59 _ (by decide) h5.1 h5.2.1 h5.2.2]
  rfl
theorem ser_fst0 (s : ByteArray) (i j n : Nat) (m : Int) (r : List (UInt8 × Nat × Int)) (hi : i ≤ s.size) (h : 0 ≤ numAt s i n ∧ numAt s i n ≤ m) (hj : i + n = j) :
    (ser ((32, n, m) :: r) (rs s i)).1 = (ser r (rs s j)).1 := by rw [ser_yes0 s i n m r hi h.1 h.2, hj]
theorem ser_fst (s : ByteArray) (i j n : Nat) (c : UInt8) (m : Int) (r : List (UInt8 × Nat × Int)) (hc : c ≠ 32) (h : sigAt s i c = true ∧ 0 ≤ numAt s (i + 1) n ∧ numAt s (i + 1) n ≤ m) (hj : i + 1 + n = j) :
    (ser ((c, n, m) :: r) (rs s i)).1 = (ser r (rs s j)).1 := by rw [ser_yes s i n c m r hc h.1 h.2.1 h.2.2, hj]
theorem ser_pL_no (s : ByteArray) (h : ¬ okAt s) : (ser pL s).1 = false := by
  have hb : numAt s 0 4 ≤ 9999 := by have := numAt_lt s 0 4; omega
  have hz : (ser pL s).1 = (ser pL (rs s 0)).1 := by rw [rs_zero]
  rw [hz]
  clear hz
  unfold okAt at h
  unfold pL
  by_cases h0 : 0 ≤ numAt s 0 4
  · rw [ser_fst0 s 0 4 4 9999 _ (by omega) ⟨h0, hb⟩ rfl]
    by_cases h1 : sigAt s 4 45 = true ∧ 0 ≤ numAt s 5 2 ∧ numAt s 5 2 ≤ 12
    · rw [ser_fst s 4 7 2 45 12 _ (by decide) h1 rfl]
      by_cases h2 : sigAt s 7 45 = true ∧ 0 ≤ numAt s 8 2 ∧ numAt s 8 2 ≤ 31
      · rw [ser_fst s 7 10 2 45 31 _ (by decide) h2 rfl]
        by_cases h3 : sigAt s 10 84 = true ∧ 0 ≤ numAt s 11 2 ∧ numAt s 11 2 ≤ 23
        · rw [ser_fst s 10 13 2 84 23 _ (by decide) h3 rfl]
          by_cases h4 : sigAt s 13 58 = true ∧ 0 ≤ numAt s 14 2 ∧ numAt s 14 2 ≤ 59
          · rw [ser_fst s 13 16 2 58 59 _ (by decide) h4 rfl]
            exact ser_no s 16 2 58 59 _ (by decide) (fun h5 => h ⟨h0, h1, h2, h3, h4, h5⟩)
          · exact ser_no s 13 2 58 59 _ (by decide) h4
        · exact ser_no s 10 2 84 23 _ (by decide) h3
      · exact ser_no s 7 2 45 31 _ (by decide) h2
    · exact ser_no s 4 2 45 12 _ (by decide) h1
  · exact ser_no0 s 0 4 9999 _ (by omega) (fun x => h0 x.1)

/-- What lies behind the seconds. -/
def tailR (s : ByteArray) : Int × Int × Int :=
  if (rfr s).2 < 0 then (0, 0, 110) else if (zR (rs s (rfr s).2.toNat)).2 = true then
    (Cal.dayF (numAt s 0 4) (numAt s 5 2) (numAt s 8 2) * 86400 + numAt s 11 2 * 3600 + numAt s 14 2 * 60 + numAt s 17 2 - (zR (rs s (rfr s).2.toNat)).1, (rfr s).1, 0) else (0, 0, 110)
open Classical in
/-- A text's instant, by places. -/
noncomputable def instR (s : ByteArray) : Int × Int × Int :=
  if okAt s ∧ 1 ≤ numAt s 5 2 ∧ 1 ≤ numAt s 8 2 ∧ numAt s 8 2 ≤ Cal.lastD (numAt s 0 4) (numAt s 5 2) then tailR s else (0, 0, 110)

theorem fr_tail (s : ByteArray) : frOk (rs s 19) = decide (¬ (rfr s).2 < 0) ∧ (¬ (rfr s).2 < 0 → frV (rs s 19) = (rfr s).1 ∧ frT (rs s 19) = rs s (rfr s).2.toNat) := by
  unfold rfr
  by_cases h : sigAt s 19 46 = true
  · obtain ⟨a, b, c⟩ := fr_yes s h
    rw [if_pos h, a, b, c]
    unfold frA
    by_cases h0 : dgs (s.data.toList.drop 20) = 0
    · rw [if_pos h0, h0]; exact ⟨rfl, fun x => absurd (by decide) x⟩
    · rw [if_neg h0]
      refine ⟨by rw [decide_eq_true (by omega), decide_eq_true (by show ¬ ((20 + dgs (s.data.toList.drop 20) : Nat) : Int) < 0; omega)], fun _ => ⟨rfl, rfl⟩⟩
  · obtain ⟨a, b, c⟩ := fr_no s h
    rw [if_neg h, a, b, c]
    exact ⟨rfl, fun _ => ⟨rfl, rfl⟩⟩

theorem dayF_same (y m d : Int) : Txt.dayF y m d = Cal.dayF y m d := rfl
theorem lastD_same (y m : Int) : Txt.lastD y m = Cal.lastD y m := rfl

theorem dpR_bad (p : Bool) (y mo d h mi se fv zv : Int) (fo zo : Bool) (t4 : ByteArray) (hb : bad p y mo d = true) : dpR p y mo d h mi se fv zv fo zo t4 = (0, 0, 110) := by
  unfold dpR; rw [hb]; rfl
theorem dpR_ok (p : Bool) (y mo d h mi se fv zv : Int) (fo zo : Bool) (t4 : ByteArray) (hb : bad p y mo d = false) : dpR p y mo d h mi se fv zv fo zo t4 = if (fo && (zo && t4.toList.isEmpty)) = true then (Cal.dayF y mo d * 86400 + h * 3600 + mi * 60 + se - zv, fv, 0) else (0, 0, 110) := by
  unfold dpR; rw [hb, if_neg (by decide), Bool.and_assoc]; rfl
theorem parseR_yes (s : ByteArray) (h : okAt s) : parseR s = dpR true (numAt s 0 4) (numAt s 5 2) (numAt s 8 2) (numAt s 11 2) (numAt s 14 2) (numAt s 17 2) (frV (rs s 19)) (zV (frT (rs s 19))) (frOk (rs s 19)) (zOk (frT (rs s 19))) (zT (frT (rs s 19))) := by
  unfold parseR
  rw [ser_pL_yes s h]
  rfl
theorem parseR_inst (s : ByteArray) : parseR s = instR s := by
  unfold instR
  by_cases hC : okAt s ∧ 1 ≤ numAt s 5 2 ∧ 1 ≤ numAt s 8 2 ∧ numAt s 8 2 ≤ Cal.lastD (numAt s 0 4) (numAt s 5 2)
  · rw [if_pos hC]
    obtain ⟨h, h1, h2, h3⟩ := hC
    have hb : bad true (numAt s 0 4) (numAt s 5 2) (numAt s 8 2) = false := by
      unfold bad
      rw [lastD_same]
      simp
      omega
    rw [parseR_yes s h, dpR_ok _ _ _ _ _ _ _ _ _ _ _ _ hb]
    obtain ⟨f1, f2⟩ := fr_tail s
    unfold tailR
    by_cases hf : (rfr s).2 < 0
    · have : frOk (rs s 19) = false := by rw [f1]; simp [hf]
      rw [if_pos hf, this]
      rfl
    · obtain ⟨f3, f4⟩ := f2 hf
      have : frOk (rs s 19) = true := by rw [f1]; simp [hf]
      rw [if_neg hf, this, f3, f4, Bool.true_and]
      obtain ⟨z1, z2⟩ := zone_both (rs s (rfr s).2.toNat)
      rw [z1]
      by_cases hz : (zR (rs s (rfr s).2.toNat)).2 = true
      · rw [if_pos hz, if_pos hz, z2 hz]
      · rw [if_neg hz, if_neg hz]
  · rw [if_neg hC]
    by_cases h : okAt s
    · have hb : bad true (numAt s 0 4) (numAt s 5 2) (numAt s 8 2) = true := by
        unfold bad
        rw [lastD_same]
        have : ¬ (1 ≤ numAt s 5 2 ∧ 1 ≤ numAt s 8 2 ∧ numAt s 8 2 ≤ Cal.lastD (numAt s 0 4) (numAt s 5 2)) := fun x => hC ⟨h, x⟩
        simp
        omega
      rw [parseR_yes s h, dpR_bad _ _ _ _ _ _ _ _ _ _ _ _ hb]
    · unfold parseR
      rw [ser_pL_no s h]
      exact dpR_bad _ _ _ _ _ _ _ _ _ _ _ _ rfl
end Go.Proofs.YtfcmdameiabjmaaDoor.Fun
