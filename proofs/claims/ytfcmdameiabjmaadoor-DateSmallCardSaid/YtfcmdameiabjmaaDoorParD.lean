/- The reference's Parse answers what date.Parse does: joined. -/
import Derived.Test.YtfcmdameiabjmaaDoorParC
import Derived.Test.YtfcmdameiabjmaaDoorPrx5
set_option linter.unusedVariables false
namespace Go.Proofs.YtfcmdameiabjmaaDoor.Fun
open Go.RowKit Go.Proofs.YtfcmdameiabjmaaDoor.Pr Go.Proofs.YtfcmdameiabjmaaDoorW.PrintWords Go.Proofs.YtfcmdameiabjmaaDoorW.PrintLast Go.Proofs.YtfcmdameiabjmaaDoorW.PrintMore
open Go.Proofs.YtfcmdameiabjmaaDoor.Txt

theorem zR_bd (t : ByteArray) : -500000 ≤ (zR t).1 ∧ (zR t).1 ≤ 500000 := by
  have a := numAt_ge t 1 2
  have b := numAt_ge t 4 2
  have c := numAt_two t 1
  have d := numAt_two t 4
  unfold zR
  generalize numAt t 1 2 = x at *
  generalize numAt t 4 2 = y at *
  split
  · exact ⟨by decide, by decide⟩
  · split
    · dsimp only
      split <;> omega
    · exact ⟨by decide, by decide⟩

theorem rfr_le (s : ByteArray) (h : 19 ≤ s.size) : (rfr s).2 ≤ s.size := by
  unfold rfr
  split
  · rename_i hs
    unfold frA
    have hdl := dgs_le (s.data.toList.drop 20)
    rw [List.length_drop] at hdl
    have hl : s.data.toList.length = s.size := rfl
    have := sigAt_lt s 19 46 hs
    split
    · show (-1 : Int) ≤ _; omega
    · show ((20 + dgs (s.data.toList.drop 20) : Nat) : Int) ≤ _; omega
  · show (19 : Int) ≤ _; omega

theorem dayF_bd (y m d : Int) (hy : 0 ≤ y) (hy2 : y ≤ 9999) (h1 : 0 ≤ m) (h2 : m ≤ 12) (hd : 0 ≤ d) (hd2 : d ≤ 31) : -10000000 ≤ Cal.dayF y m d ∧ Cal.dayF y m d ≤ 10000000 := by
  unfold Cal.dayF
  split <;> omega

theorem rparse_j1 (s : ByteArray) (hs : s.size ≤ 900) (k : Nat) (hk : 3500 ≤ k) (hz : 19 ≤ s.size)
    (h0 : 0 ≤ numAt s 0 4) (h1 : 1 ≤ numAt s 5 2) (h2 : numAt s 5 2 ≤ 12) (h3 : 1 ≤ numAt s 8 2) (h4 : numAt s 8 2 ≤ 31) (h5 : 0 ≤ numAt s 11 2) (h6 : 0 ≤ numAt s 14 2) (h7 : 0 ≤ numAt s 17 2) :
    broadsheetref11_Parse.j1 k s (numAt s 0 4) (numAt s 5 2) (numAt s 8 2) (numAt s 11 2) (numAt s 14 2) (numAt s 17 2) false = some (tailR s) := by
  obtain ⟨k, rfl⟩ : ∃ q, k = q + 1 := ⟨k - 1, by omega⟩
  have hy : numAt s 0 4 ≤ 9999 := by have := numAt_lt s 0 4; omega
  have a11 := numAt_two s 11
  have a14 := numAt_two s 14
  have a17 := numAt_two s 17
  have hle := rfr_le s hz
  have hse := since_eq k (numAt s 0 4) (numAt s 5 2) (numAt s 8 2) (by omega) h0 (by omega) h1 h2 (by omega) (by omega)
  have hdb := dayF_bd (numAt s 0 4) (numAt s 5 2) (numAt s 8 2) h0 hy (by omega) h2 (by omega) h4
  simp only [broadsheetref11_Parse.j1]
  rw [if_neg (by simp), rfr_eq s hs k (by omega)]
  unfold tailR
  simp only [Option.bind_some]
  by_cases hf : (rfr s).2 < 0
  · rw [if_pos hf, if_pos hf]
  · rw [if_neg hf, if_neg hf, if_pos (by omega), if_pos hle]
    show ((broadsheetref11_zone.f k (rs s (rfr s).2.toNat)).bind _) = _
    rw [rzone_eq _ k (by omega)]
    have hzb := zR_bd (rs s (rfr s).2.toNat)
    simp only [Option.bind_some]
    by_cases hzz : (zR (rs s (rfr s).2.toNat)).2 = true
    · rw [if_pos hzz, if_pos hzz, hse]
      simp only [Option.bind_some]
      generalize Cal.dayF (numAt s 0 4) (numAt s 5 2) (numAt s 8 2) = D at *
      generalize (zR (rs s (rfr s).2.toNat)).1 = Z at *
      generalize numAt s 11 2 = H at *
      generalize numAt s 14 2 = M at *
      generalize numAt s 17 2 = S at *
      rw [w64 (n := D * 86400) (by omega), w64 (n := H * 3600) (by omega), w64 (n := D * 86400 + H * 3600) (by omega), w64 (n := M * 60) (by omega), w64 (n := D * 86400 + H * 3600 + M * 60) (by omega), w64 (n := D * 86400 + H * 3600 + M * 60 + S) (by omega), w64 (n := D * 86400 + H * 3600 + M * 60 + S - Z) (by omega)]
    · rw [if_neg hzz, if_neg hzz]

theorem j1_bad (k : Nat) (hk : 1 ≤ k) (s : ByteArray) (a b c d e f : Int) : broadsheetref11_Parse.j1 k s a b c d e f true = some (0, 0, 110) := by
  obtain ⟨k, rfl⟩ : ∃ q, k = q + 1 := ⟨k - 1, by omega⟩
  simp only [broadsheetref11_Parse.j1]
  rw [if_pos trivial]
theorem j0_bad (k : Nat) (hk : 1 ≤ k) (s : ByteArray) (a b c d e f : Int) : broadsheetref11_Parse.j0 k s a b c d e f true = some (0, 0, 110) := by
  obtain ⟨k, rfl⟩ : ∃ q, k = q + 1 := ⟨k - 1, by omega⟩
  simp only [broadsheetref11_Parse.j0]
  rw [if_pos trivial]

theorem inst_bad (s : ByteArray) (h : ¬ (okAt s ∧ 1 ≤ numAt s 5 2 ∧ 1 ≤ numAt s 8 2 ∧ numAt s 8 2 ≤ Cal.lastD (numAt s 0 4) (numAt s 5 2))) : instR s = (0, 0, 110) := by
  unfold instR; rw [if_neg h]

theorem rparse_eq (s : ByteArray) (hs : s.size ≤ 900) (k : Nat) (hk : 4000 ≤ k) : broadsheetref11_Parse.f k s = some (parseR s) := by
  rw [parseR_inst]
  unfold broadsheetref11_Parse.f
  have n0 : broadsheetref11_number.f k s 0 4 = some (numAt s 0 4) := rnum_eq s k 0 4 (by omega) (by omega) (by omega)
  have n1 : broadsheetref11_number.f k s 5 2 = some (numAt s 5 2) := rnum_eq s k 5 2 (by omega) (by omega) (by omega)
  have n2 : broadsheetref11_number.f k s 8 2 = some (numAt s 8 2) := rnum_eq s k 8 2 (by omega) (by omega) (by omega)
  have n3 : broadsheetref11_number.f k s 11 2 = some (numAt s 11 2) := rnum_eq s k 11 2 (by omega) (by omega) (by omega)
  have n4 : broadsheetref11_number.f k s 14 2 = some (numAt s 14 2) := rnum_eq s k 14 2 (by omega) (by omega) (by omega)
  have n5 : broadsheetref11_number.f k s 17 2 = some (numAt s 17 2) := rnum_eq s k 17 2 (by omega) (by omega) (by omega)
  have s0 : broadsheetref11_sign.f s 4 45 = some (sigAt s 4 45) := rsign_eq s 4 45
  have s1 : broadsheetref11_sign.f s 7 45 = some (sigAt s 7 45) := rsign_eq s 7 45
  have s2 : broadsheetref11_sign.f s 10 84 = some (sigAt s 10 84) := rsign_eq s 10 84
  have s3 : broadsheetref11_sign.f s 13 58 = some (sigAt s 13 58) := rsign_eq s 13 58
  have s4 : broadsheetref11_sign.f s 16 58 = some (sigAt s 16 58) := rsign_eq s 16 58
  rw [n0, n1, n2, n3, n4, n5, s0, s1, s2, s3, s4]
  clear n0 n1 n2 n3 n4 n5 s0 s1 s2 s3 s4
  have b0 := numAt_le s 17 2
  simp only [Option.bind_some]
  by_cases c0 : sigAt s 4 45 = true
  case neg => rw [if_neg c0, j0_bad k (by omega), inst_bad]; intro h; unfold okAt at h; exact c0 h.1.2.1.1
  rw [if_pos c0]
  by_cases c1 : sigAt s 7 45 = true
  case neg => rw [if_neg c1, j0_bad k (by omega), inst_bad]; intro h; unfold okAt at h; exact c1 h.1.2.2.1.1
  rw [if_pos c1]
  by_cases c2 : sigAt s 10 84 = true
  case neg => rw [if_neg c2, j0_bad k (by omega), inst_bad]; intro h; unfold okAt at h; exact c2 h.1.2.2.2.1.1
  rw [if_pos c2]
  by_cases c3 : sigAt s 13 58 = true
  case neg => rw [if_neg c3, j0_bad k (by omega), inst_bad]; intro h; unfold okAt at h; exact c3 h.1.2.2.2.2.1.1
  rw [if_pos c3]
  by_cases c4 : sigAt s 16 58 = true
  case neg =>
    have : (!sigAt s 16 58) = true := by simpa using c4
    rw [this, j0_bad k (by omega), inst_bad]; intro h; unfold okAt at h; exact c4 h.1.2.2.2.2.2.1
  have c4' : (!sigAt s 16 58) = false := by simp [c4]
  rw [c4']
  obtain ⟨k, rfl⟩ : ∃ q, k = q + 1 := ⟨k - 1, by omega⟩
  simp only [broadsheetref11_Parse.j0]
  rw [if_neg (by simp)]
  by_cases d0 : numAt s 0 4 < 0
  · rw [if_pos d0, j1_bad k (by omega), inst_bad]; intro h; unfold okAt at h; omega
  rw [if_neg d0]
  by_cases d1 : numAt s 5 2 < 1
  · rw [if_pos d1, j1_bad k (by omega), inst_bad]; intro h; omega
  rw [if_neg d1]
  by_cases d2 : numAt s 5 2 > 12
  · rw [if_pos d2, j1_bad k (by omega), inst_bad]; intro h; unfold okAt at h; omega
  rw [if_neg d2]
  by_cases d3 : numAt s 8 2 < 1
  · rw [if_pos d3, j1_bad k (by omega), inst_bad]; intro h; omega
  rw [if_neg d3, days_eq k _ _ (by omega) (by omega) (by omega) (by omega)]
  simp only [Option.bind_some]
  by_cases d4 : numAt s 8 2 > Cal.lastD (numAt s 0 4) (numAt s 5 2)
  · rw [if_pos d4, j1_bad k (by omega), inst_bad]; intro h; omega
  rw [if_neg d4]
  by_cases d5 : numAt s 11 2 < 0
  · rw [if_pos d5, j1_bad k (by omega), inst_bad]; intro h; unfold okAt at h; omega
  rw [if_neg d5]
  by_cases d6 : numAt s 11 2 > 23
  · rw [if_pos d6, j1_bad k (by omega), inst_bad]; intro h; unfold okAt at h; omega
  rw [if_neg d6]
  by_cases d7 : numAt s 14 2 < 0
  · rw [if_pos d7, j1_bad k (by omega), inst_bad]; intro h; unfold okAt at h; omega
  rw [if_neg d7]
  by_cases d8 : numAt s 14 2 > 59
  · rw [if_pos d8, j1_bad k (by omega), inst_bad]; intro h; unfold okAt at h; omega
  rw [if_neg d8]
  by_cases d9 : numAt s 17 2 < 0
  · rw [if_pos d9, j1_bad k (by omega), inst_bad]; intro h; unfold okAt at h; omega
  rw [if_neg d9]
  by_cases d10 : numAt s 17 2 > 59
  · rw [decide_eq_true d10, j1_bad k (by omega), inst_bad]; intro h; unfold okAt at h; omega
  rw [decide_eq_false d10]
  have hl := lastD_le (numAt s 0 4) (numAt s 5 2)
  rw [rparse_j1 s hs k (by omega) (by omega) (by omega) (by omega) (by omega) (by omega) (by omega) (by omega) (by omega) (by omega)]
  unfold instR
  have hC : okAt s ∧ 1 ≤ numAt s 5 2 ∧ 1 ≤ numAt s 8 2 ∧ numAt s 8 2 ≤ Cal.lastD (numAt s 0 4) (numAt s 5 2) := by
    unfold okAt
    exact ⟨⟨by omega, ⟨c0, by omega, by omega⟩, ⟨c1, by omega, by omega⟩, ⟨c2, by omega, by omega⟩, ⟨c3, by omega, by omega⟩, ⟨c4, by omega, by omega⟩⟩, by omega, by omega, by omega⟩
  rw [if_pos hC]
end Go.Proofs.YtfcmdameiabjmaaDoor.Fun
