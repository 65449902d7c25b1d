/- What date.Print writes. -/
import Derived.Test.YtfcmdameiabjmaaDoorNum
set_option linter.unusedVariables false
namespace Go.Proofs.YtfcmdameiabjmaaDoor.Fun
open Go.RowKit Go.Proofs.YtfcmdameiabjmaaDoor.Pr Go.Proofs.YtfcmdameiabjmaaDoorW.PrintWords Go.Proofs.YtfcmdameiabjmaaDoorW.PrintLast Go.Proofs.YtfcmdameiabjmaaDoorW.PrintMore
open Go.Proofs.YtfcmdameiabjmaaDoor.Txt

/-- The day (counted from 1970) and the second in it. -/
def dayN (s : Int) : Int := (s + 62167219200) / 86400 - 719528
def secN (s : Int) : Int := (s + 62167219200) % 86400
def civN (s : Int) : Int × Int × Int := Cal.civ (dayN s + 719468 + 146097)

def headB (y m d h mi se : ByteArray) : ByteArray :=
  (((((((((y ++ (⟨#[45]⟩ : ByteArray)) ++ m) ++ (⟨#[45]⟩ : ByteArray)) ++ d) ++ (⟨#[84]⟩ : ByteArray)) ++ h) ++ (⟨#[58]⟩ : ByteArray)) ++ mi) ++ (⟨#[58]⟩ : ByteArray)) ++ se
/-- The text ahead of the fraction. -/
def headT (s : Int) : ByteArray :=
  headB (mk (padL (civN s).1 4)) (mk (padL (civN s).2.1 2)) (mk (padL (civN s).2.2 2)) (mk (padL (secN s / 3600) 2)) (mk (padL (secN s / 60 % 60) 2)) (mk (padL (secN s % 60) 2))
/-- The whole text. -/
def printT (s n : Int) : ByteArray :=
  if n > 0 then (headT s ++ ((⟨#[46]⟩ : ByteArray) ++ mk (Lib.trimRightB (padL n 9) 48))) ++ (⟨#[90]⟩ : ByteArray) else headT s ++ (⟨#[90]⟩ : ByteArray)
/-- May an instant be written? -/
def inR (s n : Int) : Prop := -62167219200 ≤ s ∧ s ≤ 253402300799 ∧ 0 ≤ n ∧ n ≤ 999999999

theorem headB_size (y m d h mi se : ByteArray) : (headB y m d h mi se).size = y.size + m.size + d.size + h.size + mi.size + se.size + 5 := by
  unfold headB
  simp only [ByteArray.size_append]
  have : (⟨#[45]⟩ : ByteArray).size = 1 ∧ (⟨#[84]⟩ : ByteArray).size = 1 ∧ (⟨#[58]⟩ : ByteArray).size = 1 := ⟨rfl, rfl, rfl⟩
  omega

theorem year_mono (a b : Int) (h : a ≤ b) : Cal.dayF a 1 1 ≤ Cal.dayF b 1 1 := by
  unfold Cal.dayF; simp only [show ((1 : Int) < 3) = True by decide, if_true]; omega
theorem month_mono (y a b : Int) (h0 : 1 ≤ a) (h : a ≤ b) (h1 : b ≤ 12) : Cal.dayF y a 1 ≤ Cal.dayF y b 1 := by
  unfold Cal.dayF
  split <;> split <;> omega

/-- The civil day of a second that may be written. -/
theorem civN_facts (s : Int) (h0 : -62167219200 ≤ s) (h1 : s ≤ 253402300799) :
    0 ≤ (civN s).1 ∧ (civN s).1 ≤ 9999 ∧ Cal.vld (civN s).1 (civN s).2.1 (civN s).2.2 ∧ Cal.dayF (civN s).1 (civN s).2.1 (civN s).2.2 = dayN s ∧
    Cal.dayF (civN s).1 (civN s).2.1 1 ≤ dayN s ∧ Cal.dayF (civN s).1 1 1 ≤ dayN s ∧ dayN s < Cal.dayF ((civN s).1 + 1) 1 1 ∧ ((civN s).2.1 < 12 → dayN s < Cal.dayF (civN s).1 ((civN s).2.1 + 1) 1) := by
  obtain ⟨v, e⟩ := Cal.civ_spec (dayN s + 719468 + 146097)
  change Cal.vld (civN s).1 (civN s).2.1 (civN s).2.2 at v
  change Cal.dayF (civN s).1 (civN s).2.1 (civN s).2.2 = _ at e
  generalize (civN s).1 = y at *
  generalize (civN s).2.1 = m at *
  generalize (civN s).2.2 = d at *
  obtain ⟨v1, v2, v3, v4⟩ := v
  have e' : Cal.dayF y m d = dayN s := by omega
  have hd := Cal.dayF_d y m d
  have hm := month_mono y 1 m (by omega) v1 v2
  have hl := Cal.lastD_pos y m v1 v2
  have a1 : Cal.dayF y m 1 ≤ dayN s := by omega
  have a2 : Cal.dayF y 1 1 ≤ dayN s := by omega
  have a3 : m < 12 → dayN s < Cal.dayF y (m + 1) 1 := by
    intro h
    have := Cal.dayF_month y m v1 (by omega)
    omega
  have a4 : dayN s < Cal.dayF (y + 1) 1 1 := by
    by_cases h : m < 12
    · have h1 := a3 h
      have h2 := month_mono y (m + 1) 12 (by omega) (by omega) (by omega)
      have h3 := Cal.dayF_year y
      omega
    · have : m = 12 := by omega
      subst this
      have h3 := Cal.dayF_year y
      have : Cal.lastD y 12 = 31 := by unfold Cal.lastD; simp
      omega
  have b0 : -719528 ≤ dayN s := by unfold dayN; omega
  have b1 : dayN s ≤ 2932896 := by unfold dayN; omega
  have c0 : Cal.dayF 0 1 1 = -719528 := by decide
  have c1 : Cal.dayF 10000 1 1 = 2932897 := by decide
  have d0 : 0 ≤ y := by
    by_cases h : 0 ≤ y
    · exact h
    · have := year_mono (y + 1) 0 (by omega); omega
  have d1 : y ≤ 9999 := by
    by_cases h : y ≤ 9999
    · exact h
    · have := year_mono 10000 y (by omega); omega
  exact ⟨d0, d1, ⟨v1, v2, v3, v4⟩, e', a1, a2, a4, a3⟩

theorem trim_len (l : List UInt8) : (Lib.trimRightB l 48).length ≤ l.length := by
  unfold Lib.trimRightB
  rw [List.length_reverse]
  refine Nat.le_trans (List.dropWhile_suffix _).length_le ?_
  simp

theorem trim_split_aux (r : List UInt8) : ∃ a, r.reverse = (r.dropWhile (· == 48)).reverse ++ List.replicate a 48 := by
  induction r with
  | nil => exact ⟨0, rfl⟩
  | cons c r ih =>
    obtain ⟨a, e⟩ := ih
    rw [List.dropWhile_cons]
    by_cases h : c = 48
    · subst h
      rw [if_pos (by simp)]
      exact ⟨a + 1, by rw [List.reverse_cons, e, List.append_assoc, ← List.replicate_succ']⟩
    · rw [if_neg (by simpa using h)]
      exact ⟨0, by simp⟩
theorem trim_split (l : List UInt8) : ∃ a, l = Lib.trimRightB l 48 ++ List.replicate a 48 := by
  obtain ⟨a, e⟩ := trim_split_aux l.reverse
  rw [List.reverse_reverse] at e
  exact ⟨a, e⟩
theorem val_noughts_behind (l : List UInt8) (a : Nat) : val (l ++ List.replicate a 48) = val l * 10 ^ a := by
  induction a with
  | zero => simp
  | succ a ih => rw [List.replicate_succ', ← List.append_assoc, val_snoc, ih, Nat.pow_succ, Nat.mul_assoc]; rfl
theorem trim_ne (n : Int) (h0 : 0 < n) (h1 : n ≤ 999999999) : Lib.trimRightB (padL n 9) 48 ≠ [] := by
  intro h
  obtain ⟨a, e⟩ := trim_split (padL n 9)
  have hv := (padL_facts n 9 (by omega) (by omega) (by simp; omega)).2.2
  rw [h, List.nil_append] at e
  have : val (padL n 9) = 0 := by
    rw [e]
    have := val_noughts_behind [] a
    rw [List.nil_append] at this
    rw [this]
    simp [val]
  omega

theorem print_fields (s : Int) (h0 : -62167219200 ≤ s) (h1 : s ≤ 253402300799) : 0 ≤ secN s ∧ secN s < 86400 ∧ (mk (padL (civN s).1 4)).size = 4 ∧ (mk (padL (civN s).2.1 2)).size = 2 ∧ (mk (padL (civN s).2.2 2)).size = 2 ∧ (mk (padL (secN s / 3600) 2)).size = 2 ∧ (mk (padL (secN s / 60 % 60) 2)).size = 2 ∧ (mk (padL (secN s % 60) 2)).size = 2 := by
  obtain ⟨f0, f1, ⟨v1, v2, v3, v4⟩, _⟩ := civN_facts s h0 h1
  have hl := lastD_le (civN s).1 (civN s).2.1
  have s0 : 0 ≤ secN s := by unfold secN; omega
  have s1 : secN s < 86400 := by unfold secN; omega
  refine ⟨s0, s1, ?_, ?_, ?_, ?_, ?_, ?_⟩ <;> rw [mk_size]
  · exact (padL_facts _ 4 (by omega) f0 (by simp; omega)).1
  · exact (padL_facts _ 2 (by omega) (by omega) (by simp; omega)).1
  · exact (padL_facts _ 2 (by omega) (by omega) (by simp; omega)).1
  · exact (padL_facts _ 2 (by omega) (by omega) (by simp; omega)).1
  · exact (padL_facts _ 2 (by omega) (by omega) (by simp; omega)).1
  · exact (padL_facts _ 2 (by omega) (by omega) (by simp; omega)).1

theorem print_bad (k : Nat) (hk : 1 ≤ k) (s n : Int) (h : ¬ inR s n) : date_Print.f k s n = some (⟨#[]⟩, 110) := by
  obtain ⟨k, rfl⟩ : ∃ q, k = q + 1 := ⟨k - 1, by omega⟩
  have hb : date_Print.j0 (k + 1) true s n = some (⟨#[]⟩, 110) := by simp only [date_Print.j0]; rw [if_pos trivial]
  unfold date_Print.f
  unfold inR at h
  by_cases a : s < -62167219200
  · rw [if_pos a]; exact hb
  rw [if_neg a]
  by_cases b : s > 253402300799
  · rw [if_pos b]; exact hb
  rw [if_neg b]
  by_cases c : n < 0
  · rw [if_pos c]; exact hb
  rw [if_neg c, decide_eq_true (by omega)]; exact hb

theorem print_ok (k : Nat) (hk : 1 ≤ k) (s n : Int) (h : inR s n) : date_Print.f k s n = some (printT s n, 0) := by
  obtain ⟨k, rfl⟩ : ∃ q, k = q + 1 := ⟨k - 1, by omega⟩
  obtain ⟨h0, h1, h2, h3⟩ := h
  unfold date_Print.f
  rw [if_neg (by omega), if_neg (by omega), if_neg (by omega), decide_eq_false (by omega)]
  simp only [date_Print.j0]
  rw [if_neg (by simp)]
  obtain ⟨s0, s1, z1, z2, z3, z4, z5, z6⟩ := print_fields s h0 h1
  obtain ⟨f0, f1, ⟨v1, v2, v3, v4⟩, _⟩ := civN_facts s h0 h1
  have hl := lastD_le (civN s).1 (civN s).2.1
  have e1 : Int.tmod (wrap64 (s + 62167219200)) 86400 = secN s := by rw [w64 (by omega), tm (by omega)]; rfl
  have e2 : wrap64 (wrap64 (wrap64 (Int.tdiv (wrap64 (s - secN s)) 86400) + 719468) + 146097) = dayN s + 719468 + 146097 := by
    have : s - secN s = 86400 * dayN s := by unfold secN dayN; omega
    have b0 : -719528 ≤ dayN s := by unfold dayN; omega
    have b1 : dayN s ≤ 2932896 := by unfold dayN; omega
    rw [w64 (n := s - secN s) (by omega), this, Int.mul_comm, Int.mul_tdiv_cancel _ (by decide), w64 (n := dayN s) (by omega), w64 (n := dayN s + 719468) (by omega), w64 (by omega)]
  have b0 : -719528 ≤ dayN s := by unfold dayN; omega
  have b1 : dayN s ≤ 2932896 := by unfold dayN; omega
  have hc : date_civil.f (dayN s + 719468 + 146097) = some (civN s) := civil_eq _ (by omega) (by omega)
  rw [e1, e2, hc]
  have p1 : date_pad.f (civN s).1 4 = some (mk (padL (civN s).1 4)) := date_pad_eq _ 4 (by omega) f0 (by omega)
  have p2 : date_pad.f (civN s).2.1 2 = some (mk (padL (civN s).2.1 2)) := date_pad_eq _ 2 (by omega) (by omega) (by omega)
  have p3 : date_pad.f (civN s).2.2 2 = some (mk (padL (civN s).2.2 2)) := date_pad_eq _ 2 (by omega) (by omega) (by omega)
  have p4 : date_pad.f (wrap64 (Int.tdiv (secN s) 3600)) 2 = some (mk (padL (secN s / 3600) 2)) := by rw [td s0, w64 (by omega)]; exact date_pad_eq _ 2 (by omega) (by omega) (by omega)
  have p5 : date_pad.f (Int.tmod (wrap64 (Int.tdiv (secN s) 60)) 60) 2 = some (mk (padL (secN s / 60 % 60) 2)) := by rw [td s0, w64 (by omega), tm (by omega)]; exact date_pad_eq _ 2 (by omega) (by omega) (by omega)
  have p6 : date_pad.f (Int.tmod (secN s) 60) 2 = some (mk (padL (secN s % 60) 2)) := by rw [tm s0]; exact date_pad_eq _ 2 (by omega) (by omega) (by omega)
  have p9 : date_pad.f n 9 = some (mk (padL n 9)) := date_pad_eq _ 9 (by omega) (by omega) (by omega)
  have l9 := (padL_facts n 9 (by omega) h2 (by simp; omega)).1
  have p10 : strings_TrimRight.f (mk (padL n 9)) ⟨#[48]⟩ = some (mk (Lib.trimRightB (padL n 9) 48)) := by
    unfold strings_TrimRight.f
    rw [if_pos rfl, if_pos (by rw [mk_size, l9]; decide)]
    rfl
  have t10 := trim_len (padL n 9)
  rw [l9] at t10
  have t10' : (mk (Lib.trimRightB (padL n 9) 48)).size ≤ 9 := by rw [mk_size]; exact t10
  simp only [Option.bind_some]
  rw [p1, p2, p3, p4, p5, p6, p9]
  simp only [Option.bind_some]
  rw [p10]
  simp only [Option.bind_some]
  clear p1 p2 p3 p4 p5 p6 p9 p10 hc e1 e2 b0 b1 l9 t10
  unfold printT headT headB
  generalize mk (padL (civN s).1 4) = T1 at *
  generalize mk (padL (civN s).2.1 2) = T2 at *
  generalize mk (padL (civN s).2.2 2) = T3 at *
  generalize mk (padL (secN s / 3600) 2) = T4 at *
  generalize mk (padL (secN s / 60 % 60) 2) = T5 at *
  generalize mk (padL (secN s % 60) 2) = T6 at *
  generalize mk (Lib.trimRightB (padL n 9) 48) = T9 at *
  have l1 : (⟨#[45]⟩ : ByteArray).size = 1 := rfl
  have l2 : (⟨#[84]⟩ : ByteArray).size = 1 := rfl
  have l3 : (⟨#[58]⟩ : ByteArray).size = 1 := rfl
  have l4 : (⟨#[46]⟩ : ByteArray).size = 1 := rfl
  rw [if_pos (by omega), if_pos (by simp only [ByteArray.size_append]; omega), if_pos (by simp only [ByteArray.size_append]; omega), if_pos (by simp only [ByteArray.size_append]; omega), if_pos (by simp only [ByteArray.size_append]; omega), if_pos (by simp only [ByteArray.size_append]; omega), if_pos (by simp only [ByteArray.size_append]; omega), if_pos (by simp only [ByteArray.size_append]; omega), if_pos (by simp only [ByteArray.size_append]; omega), if_pos (by simp only [ByteArray.size_append]; omega)]
  by_cases hn : n > 0
  · rw [if_pos hn, if_pos hn, if_pos (by omega), if_pos (by simp only [ByteArray.size_append]; omega), if_pos (by simp only [ByteArray.size_append]; omega)]
  · rw [if_neg hn, if_neg hn, if_pos (by simp only [ByteArray.size_append]; omega)]
end Go.Proofs.YtfcmdameiabjmaaDoor.Fun
