/- The reference's fraction and zone answer what date.text's do. -/
import Derived.Test.YtfcmdameiabjmaaDoorPos
set_option linter.unusedVariables false
namespace Go.Proofs.YtfcmdameiabjmaaDoor.Fun
open Go.RowKit Go.Proofs.YtfcmdameiabjmaaDoor.Pr Go.Proofs.YtfcmdameiabjmaaDoorW.PrintWords Go.Proofs.YtfcmdameiabjmaaDoorW.PrintLast Go.Proofs.YtfcmdameiabjmaaDoorW.PrintMore
open Go.Proofs.YtfcmdameiabjmaaDoor.Txt

theorem frac_l1 (d : Nat) (hd : d ≤ 1000) (q : Nat) : ∀ (k i v : Nat), 9 - i = q → q < k → i ≤ 1000 → v < 10 ^ (min i 9) →
    broadsheetref11_fraction.l1 k 19 v d i = some (((v * 10 ^ (9 - i) : Nat) : Int), ((20 + d : Nat) : Int)) := by
  induction q with
  | zero =>
    intro k i v hq hk hi hv
    obtain ⟨k, rfl⟩ : ∃ q, k = q + 1 := ⟨k - 1, by omega⟩
    simp only [broadsheetref11_fraction.l1]
    rw [if_neg (by omega), hq, w64 (n := (19 : Int) + 1) (by omega), w64 (by omega)]
    simp only [Nat.pow_zero, Nat.mul_one]
    congr 2
  | succ q ih =>
    intro k i v hq hk hi hv
    obtain ⟨k, rfl⟩ : ∃ q, k = q + 1 := ⟨k - 1, by omega⟩
    have hm : min i 9 = i := by omega
    have hm1 : min (i + 1) 9 = i + 1 := by omega
    rw [hm] at hv
    have h9 : 10 ^ i ≤ 10 ^ 9 := Nat.pow_le_pow_right (by omega) (by omega)
    have hv9 : v < 1000000000 := by omega
    have hv' : v * 10 < 10 ^ (min (i + 1) 9) := by rw [hm1, Nat.pow_succ]; omega
    have := ih k (i + 1) (v * 10) (by omega) (by omega) (by omega) hv'
    simp only [broadsheetref11_fraction.l1]
    rw [if_pos (by omega), w64 (n := (v : Int) * 10) (by omega), w64 (n := (i : Int) + 1) (by omega)]
    have e : v * 10 * 10 ^ (9 - (i + 1)) = v * 10 ^ (9 - i) := by
      rw [Nat.mul_assoc]; congr 1
      rw [show 9 - i = (9 - (i + 1)) + 1 by omega, Nat.pow_succ, Nat.mul_comm]
    rw [e] at this
    exact this

/-- Behind its sign: the fraction and the place behind it. -/
def frA (s : ByteArray) : Int × Int := if dgs (s.data.toList.drop 20) = 0 then (0, -1) else (((frN (s.data.toList.drop 20) : Nat) : Int), ((20 + dgs (s.data.toList.drop 20) : Nat) : Int))

theorem frac_loop (s : ByteArray) (hs : s.size ≤ 900) (q : Nat) : ∀ (k i : Nat), dgs (s.data.toList.drop 20) - i = q → i ≤ dgs (s.data.toList.drop 20) → 2 * q + 20 < k →
    broadsheetref11_fraction.l0 k s 19 (frK (s.data.toList.drop 20) i : Nat) i ((20 + i : Nat) : Int) = some (frA s) := by
  have hl : s.data.toList.length = s.size := rfl
  have hdl := dgs_le (s.data.toList.drop 20)
  rw [List.length_drop] at hdl
  induction q with
  | zero =>
    intro k i hq hi hk
    obtain ⟨k, rfl⟩ : ∃ q, k = q + 2 := ⟨k - 2, by omega⟩
    obtain rfl : i = dgs (s.data.toList.drop 20) := by omega
    have fin : broadsheetref11_fraction.j1 (k + 1) s 19 (frK (s.data.toList.drop 20) (dgs (s.data.toList.drop 20)) : Nat) (dgs (s.data.toList.drop 20) : Nat) ((20 + dgs (s.data.toList.drop 20) : Nat) : Int) false = some (frA s) := by
      simp only [broadsheetref11_fraction.j1]
      rw [if_neg (by simp)]
      unfold frA
      by_cases h0 : dgs (s.data.toList.drop 20) = 0
      · rw [if_pos (by omega), if_pos h0]
      · rw [if_neg (by omega), if_neg h0]
        have h1 := frK_lt (l := s.data.toList.drop 20) (Nat.le_refl _)
        rw [frac_l1 _ (by omega) (9 - dgs (s.data.toList.drop 20)) k _ _ rfl (by omega) (by omega) h1]
        rfl
    cases h : s.data.toList[20 + dgs (s.data.toList.drop 20)]? with
    | none =>
      have h1 := List.getElem?_eq_none_iff.1 h
      rw [broadsheetref11_fraction.l0, if_neg (by omega)]
      exact fin
    | some c =>
      obtain ⟨h1, _⟩ := List.getElem?_eq_some_iff.1 h
      have h2 : (s.data.toList.drop 20)[dgs (s.data.toList.drop 20)]? = some c := by rw [List.getElem?_drop]; exact h
      have h3 := dgs_no h2
      have h4 : ¬ (48 ≤ c.toNat ∧ c.toNat ≤ 57) := by rw [← isDig_iff]; simp [h3]
      rw [broadsheetref11_fraction.l0, if_pos (by omega), if_pos (by omega), bt_at s _ c h]
      by_cases h5 : (c.toNat : Int) ≥ 48
      · rw [if_pos h5, decide_eq_false (by omega)]; exact fin
      · rw [if_neg h5]; exact fin
  | succ q ih =>
    intro k i hq hi hk
    obtain ⟨k, rfl⟩ : ∃ q, k = q + 2 := ⟨k - 2, by omega⟩
    obtain ⟨c, h1, h2⟩ := dgs_yes (l := s.data.toList.drop 20) (i := i) (by omega)
    rw [isDig_iff] at h2
    have h : s.data.toList[20 + i]? = some c := by rw [← List.getElem?_drop]; exact h1
    have step := ih k (i + 1) (by omega) (by omega) (by omega)
    rw [broadsheetref11_fraction.l0, if_pos (by omega), if_pos (by omega), bt_at s _ c h, if_pos (by omega), decide_eq_true (by omega)]
    simp only [broadsheetref11_fraction.j1]
    rw [if_pos trivial, w64 (n := (i : Int) + 1) (by omega), w64 (n := ((20 + i : Nat) : Int) + 1) (by omega)]
    rw [← step]
    have e1 : ((20 + i : Nat) : Int) + 1 = ((20 + (i + 1) : Nat) : Int) := by omega
    rw [e1]
    by_cases h9 : i < 9
    · rw [if_pos (by omega), if_pos (by omega), if_pos (by omega), bt_at s _ c h, frK_succ h1 h9]
      have h3 := frK_lt hi
      have h9 : 10 ^ (min i 9) ≤ 10 ^ 9 := Nat.pow_le_pow_right (by omega) (by omega)
      generalize frK (s.data.toList.drop 20) i = v at *
      rw [w64 (n := (v : Int) * 10) (by omega), w64 (n := (c.toNat : Int)) (by omega), w64 (n := (v : Int) * 10 + c.toNat) (by omega), w64 (n := (v : Int) * 10 + c.toNat - 48) (by omega)]
      congr 1
      omega
    · rw [if_neg (by omega), frK_stay h9]
      rfl

/-- What the reference's fraction answers. -/
def rfr (s : ByteArray) : Int × Int := if sigAt s 19 46 = true then (frA s) else (0, 19)
theorem rfr_eq (s : ByteArray) (hs : s.size ≤ 900) (k : Nat) (hk : 2000 < k) : broadsheetref11_fraction.f k s 19 = some (rfr s) := by
  unfold broadsheetref11_fraction.f rfr
  have := rsign_eq s 19 46
  rw [show (((19 : Nat) : Int)) = 19 from rfl, show (((46 : UInt8).toNat : Nat) : Int) = 46 from rfl] at this
  rw [this]
  show (if sigAt s 19 46 = true then _ else _) = _
  by_cases h : sigAt s 19 46 = true
  · rw [if_pos h, if_pos h]
    have hdl := dgs_le (s.data.toList.drop 20)
    rw [List.length_drop] at hdl
    have hl : s.data.toList.length = s.size := rfl
    have := frac_loop s hs _ k 0 rfl (by omega) (by omega)
    simpa [frK, val, w64] using this
  · rw [if_neg h, if_neg h]

theorem frB_rs (s : ByteArray) : frB (rs s 19) = sigAt s 19 46 := sgB_rs s 19 46
theorem fr_yes (s : ByteArray) (h : sigAt s 19 46 = true) : frV (rs s 19) = (frN (s.data.toList.drop 20) : Nat) ∧ frOk (rs s 19) = decide (0 < dgs (s.data.toList.drop 20)) ∧ frT (rs s 19) = rs s (20 + dgs (s.data.toList.drop 20)) := by
  have hb : frB (rs s 19) = true := by rw [frB_rs]; exact h
  have he : (rs s 19).extract 1 (rs s 19).size = rs s 20 := rs_rs s 19 1
  unfold frV frOk frT
  rw [hb, he, rs_list]
  exact ⟨rfl, rfl, rs_rs s 20 _⟩
theorem fr_no (s : ByteArray) (h : ¬ sigAt s 19 46 = true) : frV (rs s 19) = 0 ∧ frOk (rs s 19) = true ∧ frT (rs s 19) = rs s 19 := by
  have hb : frB (rs s 19) = false := by rw [frB_rs]; simpa using h
  unfold frV frOk frT
  rw [hb]
  exact ⟨rfl, rfl, rfl⟩
end Go.Proofs.YtfcmdameiabjmaaDoor.Fun
