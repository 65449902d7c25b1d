/- A text read by places: what the methods of date.text take, and what the reference's numbers and signs are. -/
import Derived.Test.YtfcmdameiabjmaaDoorSince
set_option linter.unusedVariables false
namespace Go.Proofs.YtfcmdameiabjmaaDoor.Fun
open Go.RowKit Go.Proofs.YtfcmdameiabjmaaDoor.Pr Go.Proofs.YtfcmdameiabjmaaDoorW.PrintWords Go.Proofs.YtfcmdameiabjmaaDoorW.PrintLast Go.Proofs.YtfcmdameiabjmaaDoorW.PrintMore
open Go.Proofs.YtfcmdameiabjmaaDoor.Txt

/-- The text from a place on. -/
def rs (s : ByteArray) (i : Nat) : ByteArray := s.extract i s.size
theorem rs_list (s : ByteArray) (i : Nat) : (rs s i).data.toList = s.data.toList.drop i := ext_list s i
theorem rs_size (s : ByteArray) (i : Nat) : (rs s i).size = s.size - i := by unfold rs; rw [ByteArray.size_extract]; omega
theorem rs_rs (s : ByteArray) (i j : Nat) : (rs s i).extract j (rs s i).size = rs s (i + j) := by
  apply rs_ext
  rw [ext_list, rs_list, rs_list, List.drop_drop]
theorem rs_zero (s : ByteArray) : rs s 0 = s := ext_zero s

def numAt (s : ByteArray) (a c : Nat) : Int := if a + c ≤ s.size ∧ allDig ((s.data.toList.drop a).take c) = true then (val ((s.data.toList.drop a).take c) : Nat) else -1
def sigAt (s : ByteArray) (a : Nat) (c : UInt8) : Bool := decide (s.data.toList[a]? = some c)

theorem numAt_lt (s : ByteArray) (a c : Nat) : numAt s a c < 10 ^ c := by
  unfold numAt
  split
  · rename_i h
    have := val_lt _ h.2
    have h2 : 10 ^ ((s.data.toList.drop a).take c).length ≤ 10 ^ c := Nat.pow_le_pow_right (by omega) (List.length_take_le _ _)
    have h3 : ((val ((s.data.toList.drop a).take c) : Nat) : Int) < ((10 ^ c : Nat) : Int) := by omega
    simpa using h3
  · have : (0 : Int) < 10 ^ c := Int.pow_pos (by omega)
    omega

theorem ext0_list (t : ByteArray) (n : Nat) : (t.extract 0 n).data.toList = t.data.toList.take n := by
  rw [ByteArray.data_extract, Array.toList_extract, List.extract_eq_take_drop]
  simp

theorem nB_rs (s : ByteArray) (i c : Nat) (hi : i ≤ s.size) : nB (rs s i) c = decide (0 ≤ numAt s i c) := by
  unfold nB
  by_cases h : i + c ≤ s.size
  · have h0 : decide ((rs s i).size < c) = false := decide_eq_false (by rw [rs_size]; omega)
    rw [h0]
    show dB _ = _
    unfold dB
    rw [ext0_list, rs_list]
    by_cases hd : allDig ((s.data.toList.drop i).take c) = true
    · have h1 : numAt s i c = (val ((s.data.toList.drop i).take c) : Nat) := by unfold numAt; rw [if_pos ⟨h, hd⟩]
      rw [h1, hd]
      exact (decide_eq_true (by omega)).symm
    · have h1 : numAt s i c = -1 := by unfold numAt; rw [if_neg (fun x => hd x.2)]
      simp only [Bool.not_eq_true] at hd
      rw [h1, hd]; rfl
  · have h0 : decide ((rs s i).size < c) = true := decide_eq_true (by rw [rs_size]; omega)
    have h1 : numAt s i c = -1 := by unfold numAt; rw [if_neg (fun x => h x.1)]
    rw [h0, h1]
    rfl
theorem nV_rs (s : ByteArray) (i c : Nat) (hi : i ≤ s.size) (h : 0 ≤ numAt s i c) : nV (rs s i) c = numAt s i c := by
  have hb := nB_rs s i c hi
  rw [decide_eq_true h] at hb
  unfold nB at hb
  unfold nV
  unfold numAt at h ⊢
  split at h
  · rename_i hc
    rw [if_pos hc]
    have : decide ((rs s i).size < c) = false := decide_eq_false (by rw [rs_size]; omega)
    rw [this]
    show ((dV _ : Nat) : Int) = _
    unfold dV
    rw [ext0_list, rs_list, hc.2]
    rfl
  · omega
theorem nT_rs (s : ByteArray) (i c : Nat) (hi : i ≤ s.size) (h : 0 ≤ numAt s i c) : nT (rs s i) c = rs s (i + c) := by
  unfold numAt at h
  split at h
  · rename_i hc
    unfold nT
    have : decide ((rs s i).size < c) = false := decide_eq_false (by rw [rs_size]; omega)
    rw [this]
    show dT _ _ _ = _
    unfold dT
    rw [ext0_list, rs_list, hc.2]
    exact rs_rs s i c
  · omega
theorem numAt_le (s : ByteArray) (i c : Nat) (h : 0 ≤ numAt s i c) : i + c ≤ s.size := by
  unfold numAt at h
  split at h
  · rename_i hc; exact hc.1
  · omega

theorem indexByte_one (c d : UInt8) : decide (0 ≤ Lib.indexByte [c] d) = decide (d = c) := by
  unfold Lib.indexByte
  by_cases h : c = d
  · simp [h]
  · have h2 : ¬ d = c := fun e => h e.symm
    simp [h, h2, Lib.indexByte]

theorem sgB_rs (s : ByteArray) (i : Nat) (c : UInt8) : sgB (rs s i) ⟨#[c]⟩ = sigAt s i c := by
  unfold sgB sigAt
  rw [rs_list]
  cases h : s.data.toList[i]? with
  | none =>
    rw [List.drop_of_length_le (List.getElem?_eq_none_iff.1 h)]
    simp
  | some d =>
    rw [drop_cons h]
    show decide (0 ≤ Lib.indexByte [c] d) = _
    rw [indexByte_one]
    by_cases e : d = c <;> simp [e]
theorem sgT_rs (s : ByteArray) (i : Nat) (c : UInt8) (h : sigAt s i c = true) : sgT (rs s i) ⟨#[c]⟩ = rs s (i + 1) := by
  unfold sgT
  rw [sgB_rs, h]
  exact rs_rs s i 1
theorem sigAt_lt (s : ByteArray) (i : Nat) (c : UInt8) (h : sigAt s i c = true) : i + 1 ≤ s.size := by
  unfold sigAt at h
  have h' := of_decide_eq_true h
  obtain ⟨hl, _⟩ := List.getElem?_eq_some_iff.1 h'
  have : s.data.toList.length = s.size := rfl
  omega

/-- One more number of a series, with a sign ahead. -/
theorem ser_yes (s : ByteArray) (i n : Nat) (c : UInt8) (m : Int) (r : List (UInt8 × Nat × Int)) (hc : c ≠ 32) (h1 : sigAt s i c = true) (h2 : 0 ≤ numAt s (i + 1) n) (h3 : numAt s (i + 1) n ≤ m) :
    ser ((c, n, m) :: r) (rs s i) = ((ser r (rs s (i + 1 + n))).1, (ser r (rs s (i + 1 + n))).2.1, numAt s (i + 1) n :: (ser r (rs s (i + 1 + n))).2.2) := by
  have hi := sigAt_lt s i c h1
  have hb : sgB (rs s i) ⟨#[c]⟩ = true := by rw [sgB_rs]; exact h1
  have hw : wB (rs s (i + 1)) n m = true := by
    unfold wB
    rw [nB_rs s _ _ hi, decide_eq_true h2, nV_rs s _ _ hi h2, decide_eq_true h3]; rfl
  rw [ser, if_neg hc, if_pos hb, sgT_rs s i c h1, if_pos hw, nV_rs s _ _ hi h2, nT_rs s _ _ hi h2]
theorem ser_no (s : ByteArray) (i n : Nat) (c : UInt8) (m : Int) (r : List (UInt8 × Nat × Int)) (hc : c ≠ 32) (h : ¬ (sigAt s i c = true ∧ 0 ≤ numAt s (i + 1) n ∧ numAt s (i + 1) n ≤ m)) :
    (ser ((c, n, m) :: r) (rs s i)).1 = false := by
  rw [ser, if_neg hc]
  by_cases h1 : sigAt s i c = true
  · have hi := sigAt_lt s i c h1
    rw [if_pos (by rw [sgB_rs]; exact h1), sgT_rs s i c h1]
    have hw : wB (rs s (i + 1)) n m = false := by
      unfold wB
      rw [nB_rs s _ _ hi]
      by_cases h2 : 0 ≤ numAt s (i + 1) n
      · rw [nV_rs s _ _ hi h2, decide_eq_true h2, decide_eq_false (fun h3 => h ⟨h1, h2, h3⟩)]; rfl
      · rw [decide_eq_false h2]; rfl
    rw [hw]; rfl
  · rw [if_neg (by rw [sgB_rs]; exact h1)]

/-- The first number has no sign ahead. -/
theorem ser_yes0 (s : ByteArray) (i n : Nat) (m : Int) (r : List (UInt8 × Nat × Int)) (hi : i ≤ s.size) (h2 : 0 ≤ numAt s i n) (h3 : numAt s i n ≤ m) :
    ser ((32, n, m) :: r) (rs s i) = ((ser r (rs s (i + n))).1, (ser r (rs s (i + n))).2.1, numAt s i n :: (ser r (rs s (i + n))).2.2) := by
  have hw : wB (rs s i) n m = true := by
    unfold wB
    rw [nB_rs s _ _ hi, decide_eq_true h2, nV_rs s _ _ hi h2, decide_eq_true h3]; rfl
  rw [ser, if_pos rfl, if_pos hw, nV_rs s _ _ hi h2, nT_rs s _ _ hi h2]
theorem ser_no0 (s : ByteArray) (i n : Nat) (m : Int) (r : List (UInt8 × Nat × Int)) (hi : i ≤ s.size) (h : ¬ (0 ≤ numAt s i n ∧ numAt s i n ≤ m)) :
    (ser ((32, n, m) :: r) (rs s i)).1 = false := by
  rw [ser, if_pos rfl]
  have hw : wB (rs s i) n m = false := by
    unfold wB
    rw [nB_rs s _ _ hi]
    by_cases h2 : 0 ≤ numAt s i n
    · rw [nV_rs s _ _ hi h2, decide_eq_true h2, decide_eq_false (fun h3 => h ⟨h2, h3⟩)]; rfl
    · rw [decide_eq_false h2]; rfl
  rw [hw]; rfl

/-! ### The reference's -/
theorem bt_at (s : ByteArray) (i : Nat) (c : UInt8) (h : s.data.toList[i]? = some c) : bt s (i : Int) = c.toNat := by
  obtain ⟨hl, he⟩ := List.getElem?_eq_some_iff.1 h
  have hs : s.data.toList.length = s.size := rfl
  unfold bt
  rw [dif_pos (by simp; omega)]
  have : s[((i : Int)).toNat]'(by simp; omega) = c := by
    rw [← he]; rfl
  rw [this]

theorem rsign_eq (s : ByteArray) (a : Nat) (c : UInt8) : broadsheetref11_sign.f s a c.toNat = some (sigAt s a c) := by
  unfold broadsheetref11_sign.f sigAt
  have hs : s.data.toList.length = s.size := rfl
  cases h : s.data.toList[a]? with
  | none =>
    have := List.getElem?_eq_none_iff.1 h
    rw [if_neg (by omega)]; simp
  | some d =>
    obtain ⟨hl, _⟩ := List.getElem?_eq_some_iff.1 h
    rw [if_pos (by omega), if_pos (by omega), bt_at s a d h]
    congr 1
    rw [Bool.eq_iff_iff]
    simp
    constructor
    · intro h; exact UInt8.toNat_inj.1 (by omega)
    · intro h; rw [h]

theorem take_drop_succ (l : List UInt8) (a i : Nat) (c : UInt8) (h : l[a + i]? = some c) : (l.drop a).take (i + 1) = (l.drop a).take i ++ [c] := by
  have h2 : (l.drop a)[i]? = some c := by rw [List.getElem?_drop]; exact h
  obtain ⟨hl, he⟩ := List.getElem?_eq_some_iff.1 h2
  rw [List.take_succ_eq_append_getElem hl, he]
theorem allDig_take (l : List UInt8) (i c : Nat) (hic : i ≤ c) (h : allDig (l.take c) = true) : allDig (l.take i) = true := by
  unfold allDig at *
  rw [List.all_eq_true] at *
  intro x hx
  apply h x
  have : l.take i = (l.take c).take i := by rw [List.take_take]; congr 1; omega
  rw [this] at hx
  exact List.mem_of_mem_take hx

theorem num_loop (s : ByteArray) (a c : Nat) (hc : c ≤ 9) (ha : a ≤ 1000) (hs : a + c ≤ s.size) (q : Nat) : ∀ (k i : Nat), i ≤ c → c - i = q → q < k → allDig ((s.data.toList.drop a).take i) = true →
    broadsheetref11_number.l0 k s a c (val ((s.data.toList.drop a).take i) : Nat) ((a + i : Nat) : Int) = some (numAt s a c) := by
  induction q with
  | zero =>
    intro k i hi hq hk hd
    obtain ⟨k, rfl⟩ : ∃ q, k = q + 1 := ⟨k - 1, by omega⟩
    obtain rfl : i = c := by omega
    simp only [broadsheetref11_number.l0]
    rw [w64 (n := (a : Int) + i) (by omega), if_neg (by omega)]
    unfold numAt
    rw [if_pos ⟨hs, hd⟩]
  | succ q ih =>
    intro k i hi hq hk hd
    obtain ⟨k, rfl⟩ : ∃ q, k = q + 1 := ⟨k - 1, by omega⟩
    have hl : s.data.toList.length = s.size := rfl
    obtain ⟨d, hdd⟩ : ∃ d, s.data.toList[a + i]? = some d := ⟨_, List.getElem?_eq_getElem (by omega)⟩
    have hb := bt_at s (a + i) d hdd
    simp only [broadsheetref11_number.l0]
    rw [w64 (n := (a : Int) + c) (by omega), if_pos (by omega), if_pos (by omega), if_pos (by omega), hb]
    have hts := take_drop_succ _ _ _ _ hdd
    have no : ¬ isDig d = true → numAt s a c = -1 := by
      intro hn
      unfold numAt
      rw [if_neg]
      rintro ⟨_, h⟩
      have := allDig_take _ (i + 1) c (by omega) h
      rw [hts] at this
      simp only [allDig, List.all_append, List.all_cons, List.all_nil, Bool.and_true, Bool.and_eq_true] at this
      exact hn this.2
    by_cases h48 : (d.toNat : Int) < 48
    · rw [if_pos h48, no (by rw [isDig_iff]; omega)]
    · rw [if_neg h48]
      by_cases h57 : (d.toNat : Int) > 57
      · rw [if_pos h57, no (by rw [isDig_iff]; omega)]
      · rw [if_neg h57]
        have hv := val_lt _ hd
        have hp : 10 ^ ((s.data.toList.drop a).take i).length ≤ 10 ^ 9 := Nat.pow_le_pow_right (by omega) (by have := List.length_take_le i (s.data.toList.drop a); omega)
        have hd' : allDig ((s.data.toList.drop a).take (i + 1)) = true := by rw [hts]; exact allDig_snoc hd (by omega) (by omega)
        have hva : val ((s.data.toList.drop a).take (i + 1)) = val ((s.data.toList.drop a).take i) * 10 + (d.toNat - 48) := by rw [hts, val_snoc]
        have := ih k (i + 1) (by omega) (by omega) (by omega) hd'
        rw [← this, hva]
        generalize val ((s.data.toList.drop a).take i) = v at *
        rw [w64 (n := (d.toNat : Int)) (by omega), w64 (n := (v : Int) * 10) (by omega), w64 (n := (v : Int) * 10 + d.toNat) (by omega), w64 (n := (v : Int) * 10 + d.toNat - 48) (by omega), w64 (n := ((a + i : Nat) : Int) + 1) (by omega)]
        congr 1
        omega

theorem rnum_eq (s : ByteArray) (k a c : Nat) (hk : c + 1 < k) (hc : c ≤ 9) (ha : a ≤ 1000) : broadsheetref11_number.f k s a c = some (numAt s a c) := by
  unfold broadsheetref11_number.f
  rw [w64 (n := (a : Int) + c) (by omega)]
  by_cases hs : a + c ≤ s.size
  · rw [if_neg (by omega)]
    have := num_loop s a c hc ha hs c k 0 (by omega) (by omega) (by omega) (by simp [allDig])
    simpa [val] using this
  · rw [if_pos (by omega)]
    unfold numAt
    rw [if_neg (fun h => hs h.1)]
end Go.Proofs.YtfcmdameiabjmaaDoor.Fun
