/- The reference's Print writes what date.Print writes. -/
import Derived.Test.YtfcmdameiabjmaaDoorPri
import Derived.Test.YtfcmdameiabjmaaDoorSince
import Derived.Test.YtfcmdameiabjmaaDoorPos
import Derived.Test.YtfcmdameiabjmaaDoorPrx7
set_option linter.unusedVariables false
namespace Go.Proofs.YtfcmdameiabjmaaDoor.Fun
open Go.RowKit Go.Proofs.YtfcmdameiabjmaaDoor.Pr Go.Proofs.YtfcmdameiabjmaaDoorW.PrintWords Go.Proofs.YtfcmdameiabjmaaDoorW.PrintLast Go.Proofs.YtfcmdameiabjmaaDoorW.PrintMore
open Go.Proofs.YtfcmdameiabjmaaDoor.Txt

theorem so_eq (x : Int) (h0 : 0 ≤ x) (h9 : x ≤ 9) : strOfNums ([] ++ [(wrap64 (48 + x)) % 256]) = mk [UInt8.ofNat (48 + x.toNat)] := by
  rw [w64 (by omega)]
  have : (48 + x) % 256 = ((48 + x.toNat : Nat) : Int) := by omega
  rw [this]
  rfl

theorem ref_digits (j : Nat) : ∀ (k u : Nat) (acc : List UInt8), j < k → acc.length + j ≤ 1000 → u < 10 ^ (j + 1) → u ≤ 999999999999 → broadsheetref03_digits.l0 k (u : Int) (mk acc) = some (mk (Lib.decDigits u ++ acc)) := by
  induction j with
  | zero =>
    intro k u acc hk hl hu hb
    obtain ⟨k, rfl⟩ : ∃ q, k = q + 1 := ⟨k - 1, by omega⟩
    simp only [broadsheetref03_digits.l0]
    have h : u < 10 := by simpa using hu
    rw [if_neg (by omega), if_pos (by simp)]
    simp only [Option.bind_some]
    rw [so_eq u (by omega) (by omega), if_pos (by rw [mk_size, mk_size]; simp; omega), mk_app, Lib.decDigits, dif_pos h]
    rfl
  | succ j ih =>
    intro k u acc hk hl hu hb
    obtain ⟨k, rfl⟩ : ∃ q, k = q + 1 := ⟨k - 1, by omega⟩
    simp only [broadsheetref03_digits.l0]
    by_cases h : u < 10
    · rw [if_neg (by omega), if_pos (by simp)]
      simp only [Option.bind_some]
      rw [so_eq u (by omega) (by omega), if_pos (by rw [mk_size, mk_size]; simp; omega), mk_app, Lib.decDigits, dif_pos h]
      rfl
    · rw [if_pos (by omega), if_pos (by simp)]
      simp only [Option.bind_some]
      rw [tm (by omega), so_eq ((u : Int) % 10) (by omega) (by omega), if_pos (by rw [mk_size, mk_size]; simp; omega), mk_app, td (by omega), w64 (by omega)]
      have := ih k (u / 10) ([UInt8.ofNat (48 + ((u : Int) % 10).toNat)] ++ acc) (by omega) (by simp; omega) (by rw [Nat.pow_succ] at hu; omega) (by omega)
      rw [show ((u : Int) / 10) = ((u / 10 : Nat) : Int) by omega, this]
      congr 1
      conv => rhs; rw [Lib.decDigits, dif_neg h]
      rw [List.append_assoc]
      have : ((u : Int) % 10).toNat = u % 10 := by omega
      rw [this]

theorem ref_Digits (k : Nat) (hk : 20 ≤ k) (n : Int) (h0 : 0 ≤ n) (h1 : n ≤ 999999999999) : broadsheetref03_Digits.f k n = some (mk (Lib.itoa n)) := by
  unfold broadsheetref03_Digits.f broadsheetref03_digits.f
  obtain ⟨u, rfl⟩ : ∃ u : Nat, n = u := ⟨n.toNat, by omega⟩
  rw [if_neg (by omega)]
  have := ref_digits 15 k u [] (by omega) (by simp) (by omega) (by omega)
  rw [List.append_nil] at this
  show (broadsheetref03_digits.l0 k (u : Int) (mk [])).bind _ = _
  rw [this, Lib.itoa_nonneg]
  rfl

theorem ref_padl (c : Nat) (q : Nat) (hc : c ≤ 100) : ∀ (k : Nat) (l : List UInt8), c - l.length = q → q < k → broadsheetref11_pad.l0 k (c : Int) (mk l) = some (mk (List.replicate (c - l.length) 48 ++ l)) := by
  induction q with
  | zero =>
    intro k l hq hk
    obtain ⟨k, rfl⟩ : ∃ q, k = q + 1 := ⟨k - 1, by omega⟩
    simp only [broadsheetref11_pad.l0]
    rw [mk_size, if_neg (by omega), hq]
    rfl
  | succ q ih =>
    intro k l hq hk
    obtain ⟨k, rfl⟩ : ∃ q, k = q + 1 := ⟨k - 1, by omega⟩
    simp only [broadsheetref11_pad.l0]
    rw [mk_size, if_pos (by omega), if_pos (by omega)]
    have := ih k ([48] ++ l) (by simp; omega) (by omega)
    rw [← mk_app] at this
    show broadsheetref11_pad.l0 k (c : Int) (mk [48] ++ mk l) = _
    rw [this]
    congr 2
    rw [show c - l.length = (c - ([48] ++ l).length) + 1 by simp; omega, List.replicate_succ', List.append_assoc]

theorem ref_pad (k : Nat) (hk : 200 ≤ k) (n : Int) (c : Nat) (hc : c ≤ 100) (h0 : 0 ≤ n) (h1 : n ≤ 999999999999) : broadsheetref11_pad.f k n c = some (mk (padL n c)) := by
  unfold broadsheetref11_pad.f
  rw [ref_Digits k (by omega) n h0 h1]
  simp only [Option.bind_some]
  rw [ref_padl c _ hc k _ rfl (by omega)]
  rfl
/-! ### The noughts behind -/
theorem trim_snoc_nought (l : List UInt8) : Lib.trimRightB (l ++ [48]) 48 = Lib.trimRightB l 48 := by
  unfold Lib.trimRightB
  rw [List.reverse_append]
  rfl
theorem trim_snoc_other (l : List UInt8) (c : UInt8) (h : c ≠ 48) : Lib.trimRightB (l ++ [c]) 48 = l ++ [c] := by
  unfold Lib.trimRightB
  rw [List.reverse_append]
  show ((List.dropWhile (· == 48) (c :: l.reverse))).reverse = _
  rw [List.dropWhile_cons, if_neg (by simpa using h), List.reverse_cons, List.reverse_reverse]
theorem ref_l3 (q : Nat) (x9 : ByteArray) (hx : x9.size ≤ 1000) : ∀ (k : Nat) (l : List UInt8), l.length = q → q < k → q ≤ 1000 → Lib.trimRightB l 48 ≠ [] →
    broadsheetref11_Print.l3 k x9 (mk l) = some (((x9 ++ (⟨#[46]⟩ : ByteArray)) ++ mk (Lib.trimRightB l 48)) ++ (⟨#[90]⟩ : ByteArray), 0) := by
  induction q with
  | zero =>
    intro k l hl hk hq hn
    exfalso
    apply hn
    rw [List.length_eq_zero_iff.1 hl]
    rfl
  | succ q ih =>
    intro k l hl hk hq hn
    obtain ⟨k, rfl⟩ : ∃ q, k = q + 1 := ⟨k - 1, by omega⟩
    have hne : l ≠ [] := by intro h; rw [h] at hl; simp at hl
    obtain ⟨l', c, rfl⟩ : ∃ l' c, l = l' ++ [c] := ⟨l.dropLast, l.getLast hne, (List.dropLast_concat_getLast hne).symm⟩
    have hl' : l'.length = q := by simpa using hl
    have hs : (mk (l' ++ [c])).size = q + 1 := by rw [mk_size, hl]
    have hw : wrap64 (((mk (l' ++ [c])).size : Int) - 1) = (q : Int) := by rw [hs, w64 (by omega)]; omega
    have hg : (mk (l' ++ [c])).data.toList[q]? = some c := by rw [mk_list, ← hl']; simp
    have hb := bt_at _ q c hg
    simp only [broadsheetref11_Print.l3]
    rw [hw, if_pos (by omega), if_pos (by rw [hs]; omega), hb]
    by_cases h48 : c = 48
    · subst h48
      rw [if_pos (show (((48 : UInt8).toNat : Nat) : Int) = 48 from rfl), if_pos (by rw [hs]; omega)]
      rw [trim_snoc_nought] at hn ⊢
      have he : (mk (l' ++ [48])).extract 0 (q : Int).toNat = mk l' := by
        apply rs_ext
        rw [ext0_list, mk_list, mk_list, ← hl']
        simp
      rw [he]
      exact ih k l' hl' (by omega) (by omega) hn
    · have hc : ¬ ((c.toNat : Int) = 48) := fun h => h48 (UInt8.toNat_inj.1 (by show c.toNat = 48; omega))
      have l4 : (⟨#[46]⟩ : ByteArray).size = 1 := rfl
      rw [if_neg hc, trim_snoc_other _ _ h48, if_pos (by omega), if_pos (by simp only [ByteArray.size_append]; omega), if_pos (by simp only [ByteArray.size_append]; omega)]

/-! ### The day looked for -/
theorem ref_j4 (s n : Int) (h : inR s n) (k : Nat) (hk : 3100 ≤ k) : broadsheetref11_Print.j4 k (dayN s) (civN s).1 (civN s).2.1 s n = some (printT s n, 0) := by
  obtain ⟨k, rfl⟩ : ∃ q, k = q + 1 := ⟨k - 1, by omega⟩
  obtain ⟨h0, h1, h2, h3⟩ := h
  obtain ⟨s0, s1, z1, z2, z3, z4, z5, z6⟩ := print_fields s h0 h1
  obtain ⟨f0, f1, ⟨v1, v2, v3, v4⟩, f2, _⟩ := civN_facts s h0 h1
  have hl := lastD_le (civN s).1 (civN s).2.1
  have hd := Cal.dayF_d (civN s).1 (civN s).2.1 (civN s).2.2
  have b0 : -719528 ≤ dayN s := by unfold dayN; omega
  have b1 : dayN s ≤ 2932896 := by unfold dayN; omega
  have e1 : Int.tmod (wrap64 (s + 62167219200)) 86400 = secN s := by rw [w64 (by omega), tm (by omega)]; rfl
  simp only [broadsheetref11_Print.j4]
  rw [since_eq k (civN s).1 (civN s).2.1 1 (by omega) f0 (by omega) v1 v2 (by omega) (by omega)]
  simp only [Option.bind_some]
  rw [e1]
  have ed : wrap64 (wrap64 (dayN s - Cal.dayF (civN s).1 (civN s).2.1 1) + 1) = (civN s).2.2 := by
    rw [w64 (n := dayN s - _) (by omega), w64 (by omega)]; omega
  rw [ed]
  have p1 : broadsheetref11_pad.f k (civN s).1 4 = some (mk (padL (civN s).1 4)) := ref_pad k (by omega) _ 4 (by omega) f0 (by omega)
  have p2 : broadsheetref11_pad.f k (civN s).2.1 2 = some (mk (padL (civN s).2.1 2)) := ref_pad k (by omega) _ 2 (by omega) (by omega) (by omega)
  have p3 : broadsheetref11_pad.f k (civN s).2.2 2 = some (mk (padL (civN s).2.2 2)) := ref_pad k (by omega) _ 2 (by omega) (by omega) (by omega)
  have p4 : broadsheetref11_pad.f k (wrap64 (Int.tdiv (secN s) 3600)) 2 = some (mk (padL (secN s / 3600) 2)) := by rw [td s0, w64 (by omega)]; exact ref_pad k (by omega) _ 2 (by omega) (by omega) (by omega)
  have p5 : broadsheetref11_pad.f k (Int.tmod (wrap64 (Int.tdiv (secN s) 60)) 60) 2 = some (mk (padL (secN s / 60 % 60) 2)) := by rw [td s0, w64 (by omega), tm (by omega)]; exact ref_pad k (by omega) _ 2 (by omega) (by omega) (by omega)
  have p6 : broadsheetref11_pad.f k (Int.tmod (secN s) 60) 2 = some (mk (padL (secN s % 60) 2)) := by rw [tm s0]; exact ref_pad k (by omega) _ 2 (by omega) (by omega) (by omega)
  have p9 : broadsheetref11_pad.f k n 9 = some (mk (padL n 9)) := ref_pad k (by omega) _ 9 (by omega) (by omega) (by omega)
  have l9 := (padL_facts n 9 (by omega) h2 (by simp; omega)).1
  rw [p1, p2, p3, p4, p5, p6, p9]
  simp only [Option.bind_some]
  have L3 := fun (hn : 0 < n) (x9 : ByteArray) (hx : x9.size ≤ 1000) => ref_l3 9 x9 hx k (padL n 9) l9 (by omega) (by omega) (trim_ne n hn h3)
  clear p1 p2 p3 p4 p5 p6 p9 e1 ed b0 b1 l9 f2 hd
  unfold printT headT headB
  generalize mk (padL (civN s).1 4) = T1 at *
  generalize mk (padL (civN s).2.1 2) = T2 at *
  generalize mk (padL (civN s).2.2 2) = T3 at *
  generalize mk (padL (secN s / 3600) 2) = T4 at *
  generalize mk (padL (secN s / 60 % 60) 2) = T5 at *
  generalize mk (padL (secN s % 60) 2) = T6 at *
  generalize mk (Lib.trimRightB (padL n 9) 48) = T9 at *
  have l1 : (⟨#[45]⟩ : ByteArray).size = 1 := rfl
  have l2 : (⟨#[84]⟩ : ByteArray).size = 1 := rfl
  have l3 : (⟨#[58]⟩ : ByteArray).size = 1 := rfl
  have l4 : (⟨#[46]⟩ : ByteArray).size = 1 := rfl
  rw [if_pos (by omega), if_pos (by simp only [ByteArray.size_append]; omega), if_pos (by simp only [ByteArray.size_append]; omega), if_pos (by simp only [ByteArray.size_append]; omega), if_pos (by simp only [ByteArray.size_append]; omega), if_pos (by simp only [ByteArray.size_append]; omega), if_pos (by simp only [ByteArray.size_append]; omega), if_pos (by simp only [ByteArray.size_append]; omega), if_pos (by simp only [ByteArray.size_append]; omega), if_pos (by simp only [ByteArray.size_append]; omega)]
  by_cases hn : n > 0
  · rw [if_pos hn, if_pos hn, L3 hn _ (by simp only [ByteArray.size_append]; omega)]
    simp only [ByteArray.append_assoc]
  · rw [if_neg hn, if_neg hn, if_pos (by simp only [ByteArray.size_append]; omega)]

theorem ref_l2 (s n : Int) (h : inR s n) (q : Nat) : ∀ (k : Nat) (j : Int), 1 ≤ j → j ≤ (civN s).2.1 → ((civN s).2.1 - j).toNat = q → q + 3200 ≤ k → broadsheetref11_Print.l2 k (dayN s) (civN s).1 j s n = some (printT s n, 0) := by
  obtain ⟨f0, f1, ⟨v1, v2, v3, v4⟩, f2, f3, f4, f5, f6⟩ := civN_facts s h.1 h.2.1
  induction q with
  | zero =>
    intro k j h1 h2 hq hk
    obtain ⟨k, rfl⟩ : ∃ q, k = q + 1 := ⟨k - 1, by omega⟩
    obtain rfl : j = (civN s).2.1 := by omega
    have J := ref_j4 s n h k (by omega)
    simp only [broadsheetref11_Print.l2]
    by_cases h12 : (civN s).2.1 < 12
    · rw [if_pos h12, w64 (by omega), since_eq k _ _ 1 (by omega) f0 (by omega) (by omega) (by omega) (by omega) (by omega)]
      simp only [Option.bind_some]
      have := f6 h12
      rw [if_neg (by omega)]
      exact J
    · rw [if_neg h12]; exact J
  | succ q ih =>
    intro k j h1 h2 hq hk
    obtain ⟨k, rfl⟩ : ∃ q, k = q + 1 := ⟨k - 1, by omega⟩
    simp only [broadsheetref11_Print.l2]
    rw [if_pos (by omega), w64 (by omega), since_eq k _ _ 1 (by omega) f0 (by omega) (by omega) (by omega) (by omega) (by omega)]
    simp only [Option.bind_some]
    have := month_mono (civN s).1 (j + 1) (civN s).2.1 (by omega) (by omega) v2
    rw [if_pos (by omega)]
    exact ih k (j + 1) (by omega) (by omega) (by omega) (by omega)

theorem ref_l1 (s n : Int) (h : inR s n) (q : Nat) : ∀ (k : Nat) (j : Int), 0 ≤ j → j ≤ (civN s).1 → ((civN s).1 - j).toNat = q → q + 3300 ≤ k → broadsheetref11_Print.l1 k (dayN s) j s n = some (printT s n, 0) := by
  obtain ⟨f0, f1, ⟨v1, v2, v3, v4⟩, f2, f3, f4, f5, f6⟩ := civN_facts s h.1 h.2.1
  induction q with
  | zero =>
    intro k j h1 h2 hq hk
    obtain ⟨k, rfl⟩ : ∃ q, k = q + 1 := ⟨k - 1, by omega⟩
    obtain rfl : j = (civN s).1 := by omega
    simp only [broadsheetref11_Print.l1]
    rw [w64 (by omega), since_eq k _ _ 1 (by omega) (by omega) (by omega) (by omega) (by omega) (by omega) (by omega)]
    simp only [Option.bind_some]
    rw [if_neg (by omega)]
    exact ref_l2 s n h _ k 1 (by omega) v1 rfl (by omega)
  | succ q ih =>
    intro k j h1 h2 hq hk
    obtain ⟨k, rfl⟩ : ∃ q, k = q + 1 := ⟨k - 1, by omega⟩
    simp only [broadsheetref11_Print.l1]
    rw [w64 (by omega), since_eq k _ _ 1 (by omega) (by omega) (by omega) (by omega) (by omega) (by omega) (by omega)]
    simp only [Option.bind_some]
    have := year_mono (j + 1) (civN s).1 (by omega)
    rw [if_pos (by omega)]
    exact ih k (j + 1) (by omega) (by omega) (by omega) (by omega)

theorem ref_l0 (s n : Int) (h : inR s n) (q : Nat) : ∀ (k : Nat) (j : Int), 0 ≤ j → j ≤ (civN s).1 → ((civN s).1 - j).toNat / 400 = q → q + 3800 ≤ k → broadsheetref11_Print.l0 k (dayN s) j s n = some (printT s n, 0) := by
  obtain ⟨f0, f1, ⟨v1, v2, v3, v4⟩, f2, f3, f4, f5, f6⟩ := civN_facts s h.1 h.2.1
  induction q with
  | zero =>
    intro k j h1 h2 hq hk
    obtain ⟨k, rfl⟩ : ∃ q, k = q + 1 := ⟨k - 1, by omega⟩
    simp only [broadsheetref11_Print.l0]
    rw [w64 (by omega), since_eq k _ _ 1 (by omega) (by omega) (by omega) (by omega) (by omega) (by omega) (by omega)]
    simp only [Option.bind_some]
    have := year_mono ((civN s).1 + 1) (j + 400) (by omega)
    rw [if_neg (by omega)]
    exact ref_l1 s n h _ k j h1 h2 rfl (by omega)
  | succ q ih =>
    intro k j h1 h2 hq hk
    obtain ⟨k, rfl⟩ : ∃ q, k = q + 1 := ⟨k - 1, by omega⟩
    simp only [broadsheetref11_Print.l0]
    rw [w64 (by omega), since_eq k _ _ 1 (by omega) (by omega) (by omega) (by omega) (by omega) (by omega) (by omega)]
    simp only [Option.bind_some]
    have := year_mono (j + 400) (civN s).1 (by omega)
    rw [if_pos (by omega)]
    exact ih k (j + 400) (by omega) (by omega) (by omega) (by omega)

theorem rprint_ok (k : Nat) (hk : 5000 ≤ k) (s n : Int) (h : inR s n) : broadsheetref11_Print.f k s n = some (printT s n, 0) := by
  obtain ⟨k, rfl⟩ : ∃ q, k = q + 1 := ⟨k - 1, by omega⟩
  obtain ⟨f0, f1, _⟩ := civN_facts s h.1 h.2.1
  have L := ref_l0 s n h _ k 0 (by omega) f0 rfl (by omega)
  obtain ⟨h0, h1, h2, h3⟩ := h
  unfold broadsheetref11_Print.f
  rw [if_neg (by omega), if_neg (by omega), if_neg (by omega), decide_eq_false (by omega)]
  simp only [broadsheetref11_Print.j0]
  rw [if_neg (by simp), w64 (n := s + 62167219200) (by omega), td (by omega), w64 (n := (s + 62167219200) / 86400) (by omega), w64 (n := (s + 62167219200) / 86400 - 719528) (by omega)]
  exact L
theorem rprint_bad (k : Nat) (hk : 1 ≤ k) (s n : Int) (h : ¬ inR s n) : broadsheetref11_Print.f k s n = some (⟨#[]⟩, 110) := by
  obtain ⟨k, rfl⟩ : ∃ q, k = q + 1 := ⟨k - 1, by omega⟩
  have hb : broadsheetref11_Print.j0 (k + 1) true s n = some (⟨#[]⟩, 110) := by simp only [broadsheetref11_Print.j0]; rw [if_pos trivial]
  unfold broadsheetref11_Print.f
  unfold inR at h
  by_cases a : s < -62167219200
  · rw [if_pos a]; exact hb
  rw [if_neg a]
  by_cases b : s > 253402300799
  · rw [if_pos b]; exact hb
  rw [if_neg b]
  by_cases c : n < 0
  · rw [if_pos c]; exact hb
  rw [if_neg c, decide_eq_true (by omega)]; exact hb
end Go.Proofs.YtfcmdameiabjmaaDoor.Fun
