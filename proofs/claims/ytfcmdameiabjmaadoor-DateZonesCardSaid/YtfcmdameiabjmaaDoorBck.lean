/- A text of an instant's form, read back. -/
import Derived.Test.YtfcmdameiabjmaaDoorForm
import Derived.Test.YtfcmdameiabjmaaDoorParC
set_option linter.unusedVariables false
namespace Go.Proofs.YtfcmdameiabjmaaDoor.Fun
open Go.RowKit Go.Proofs.YtfcmdameiabjmaaDoor.Pr Go.Proofs.YtfcmdameiabjmaaDoorW.PrintWords Go.Proofs.YtfcmdameiabjmaaDoorW.PrintLast Go.Proofs.YtfcmdameiabjmaaDoorW.PrintMore
open Go.Proofs.YtfcmdameiabjmaaDoor.Txt

theorem len4 (l : List UInt8) (h : l.length = 4) : ∃ a b c d, l = [a, b, c, d] := by
  match l, h with
  | [a, b, c, d], _ => exact ⟨a, b, c, d, rfl⟩
theorem len2 (l : List UInt8) (h : l.length = 2) : ∃ a b, l = [a, b] := by
  match l, h with
  | [a, b], _ => exact ⟨a, b, rfl⟩

theorem num_of (s : ByteArray) (a c : Nat) (l : List UInt8) (h : (s.data.toList.drop a).take c = l) (hl : l.length = c) (hc : 0 < c) (hd : allDig l = true) : numAt s a c = (val l : Nat) := by
  unfold numAt
  rw [h, if_pos]
  refine ⟨?_, hd⟩
  have h2 := congrArg List.length h
  rw [List.length_take, List.length_drop, hl] at h2
  have : s.data.toList.length = s.size := rfl
  omega

/-- What is read off a text of the form: its fields, and what lies behind. -/
theorem form_read (s : ByteArray) (Y M D H I S R : List UInt8) (hs : s.data.toList = formL Y M D H I S R) (hY : Y.length = 4) (hM : M.length = 2) (hD : D.length = 2) (hH : H.length = 2) (hI : I.length = 2) (hS : S.length = 2)
    (dY : allDig Y = true) (dM : allDig M = true) (dD : allDig D = true) (dH : allDig H = true) (dI : allDig I = true) (dS : allDig S = true) :
    numAt s 0 4 = (val Y : Nat) ∧ numAt s 5 2 = (val M : Nat) ∧ numAt s 8 2 = (val D : Nat) ∧ numAt s 11 2 = (val H : Nat) ∧ numAt s 14 2 = (val I : Nat) ∧ numAt s 17 2 = (val S : Nat) ∧
    sigAt s 4 45 = true ∧ sigAt s 7 45 = true ∧ sigAt s 10 84 = true ∧ sigAt s 13 58 = true ∧ sigAt s 16 58 = true ∧ s.data.toList.drop 19 = R := by
  obtain ⟨y0, y1, y2, y3, rfl⟩ := len4 Y hY
  obtain ⟨m0, m1, rfl⟩ := len2 M hM
  obtain ⟨d0, d1, rfl⟩ := len2 D hD
  obtain ⟨h0, h1, rfl⟩ := len2 H hH
  obtain ⟨i0, i1, rfl⟩ := len2 I hI
  obtain ⟨s0, s1, rfl⟩ := len2 S hS
  unfold formL at hs
  refine ⟨num_of s 0 4 _ (by rw [hs]; rfl) rfl (by decide) dY, num_of s 5 2 _ (by rw [hs]; rfl) rfl (by decide) dM, num_of s 8 2 _ (by rw [hs]; rfl) rfl (by decide) dD, num_of s 11 2 _ (by rw [hs]; rfl) rfl (by decide) dH, num_of s 14 2 _ (by rw [hs]; rfl) rfl (by decide) dI, num_of s 17 2 _ (by rw [hs]; rfl) rfl (by decide) dS, ?_, ?_, ?_, ?_, ?_, by rw [hs]; rfl⟩
  all_goals (unfold sigAt; rw [hs]; rfl)

/-- The digits of a fraction. -/
theorem trim_facts (n : Int) (h0 : 0 < n) (h1 : n ≤ 999999999) : 0 < (Lib.trimRightB (padL n 9) 48).length ∧ (Lib.trimRightB (padL n 9) 48).length ≤ 9 ∧ allDig (Lib.trimRightB (padL n 9) 48) = true ∧
    ((val (Lib.trimRightB (padL n 9) 48) * 10 ^ (9 - (Lib.trimRightB (padL n 9) 48).length) : Nat) : Int) = n := by
  obtain ⟨p1, p2, p3⟩ := padL_facts n 9 (by omega) (by omega) (by simp; omega)
  obtain ⟨a, e⟩ := trim_split (padL n 9)
  have hne := trim_ne n h0 h1
  generalize Lib.trimRightB (padL n 9) 48 = t at *
  have hl := congrArg List.length e
  rw [p1, List.length_append, List.length_replicate] at hl
  have hp : 0 < t.length := List.length_pos_iff.2 hne
  have hd : allDig t = true := by
    rw [e] at p2
    unfold allDig at p2 ⊢
    rw [List.all_append, Bool.and_eq_true] at p2
    exact p2.1
  refine ⟨hp, by omega, hd, ?_⟩
  rw [e, val_noughts_behind] at p3
  rw [show 9 - t.length = a by omega]
  exact p3
theorem dgs_app (t : List UInt8) (c : UInt8) (r : List UInt8) (h : allDig t = true) (hc : isDig c = false) : dgs (t ++ c :: r) = t.length := by
  unfold dgs
  induction t with
  | nil => rw [List.nil_append, List.takeWhile_cons, hc]; rfl
  | cons d t ih =>
    unfold allDig at h ih
    rw [List.all_cons, Bool.and_eq_true] at h
    rw [List.cons_append, List.takeWhile_cons, h.1]
    simp only [if_true, List.length_cons]
    rw [ih h.2]

/-- The fraction read back. -/
theorem frac_read (s : ByteArray) (n : Int) (h0 : 0 ≤ n) (h1 : n ≤ 999999999) (c : UInt8) (r : List UInt8) (hc : isDig c = false) (h46 : c ≠ 46) (hs : s.data.toList.drop 19 = fracL n ++ c :: r) :
    ¬ (rfr s).2 < 0 ∧ (rfr s).1 = n ∧ (rs s (rfr s).2.toNat).data.toList = c :: r := by
  have hd : s.data.toList[19]? = (fracL n ++ c :: r)[0]? := by rw [← hs, List.getElem?_drop]
  unfold fracL at hs hd
  by_cases hn : n > 0
  · obtain ⟨t1, t2, t3, t4⟩ := trim_facts n (by omega) h1
    rw [if_pos hn] at hs hd
    have hsig : sigAt s 19 46 = true := by
      unfold sigAt
      rw [hd]; rfl
    have h20 : s.data.toList.drop 20 = Lib.trimRightB (padL n 9) 48 ++ c :: r := by
      have : s.data.toList.drop 20 = (s.data.toList.drop 19).drop 1 := by rw [List.drop_drop]
      rw [this, hs]; rfl
    generalize Lib.trimRightB (padL n 9) 48 = t at *
    have hdg : dgs (s.data.toList.drop 20) = t.length := by rw [h20]; exact dgs_app t c r t3 hc
    have e2 : rfr s = (n, ((20 + t.length : Nat) : Int)) := by
      unfold rfr
      rw [if_pos hsig]
      unfold frA
      rw [hdg, if_neg (by omega)]
      have : frN (s.data.toList.drop 20) = val t * 10 ^ (9 - t.length) := by
        unfold frN frK
        rw [hdg, h20, show min t.length 9 = t.length by omega, List.take_left' rfl]
      rw [this, t4]
    rw [e2]
    refine ⟨by show ¬ ((20 + t.length : Nat) : Int) < 0; omega, rfl, ?_⟩
    show (rs s (((20 + t.length : Nat) : Int)).toNat).data.toList = _
    rw [rs_list, show (((20 + t.length : Nat) : Int)).toNat = 20 + t.length by omega, ← List.drop_drop, h20, List.drop_left' rfl]
  · rw [if_neg hn] at hs hd
    have hsig : ¬ sigAt s 19 46 = true := by
      unfold sigAt
      rw [hd]
      simpa using h46
    have e2 : rfr s = (0, 19) := by unfold rfr; rw [if_neg hsig]
    rw [e2]
    refine ⟨by decide, by show (0 : Int) = n; omega, ?_⟩
    show (rs s 19).data.toList = _
    rw [rs_list, hs]; rfl

/-- The date and the second of the day of a text that date.Print wrote, with any zone behind it. -/
theorem form_parse (s a n : Int) (h : inR a n) (t : ByteArray) (c : UInt8) (r : List UInt8) (hc : isDig c = false) (h46 : c ≠ 46)
    (ht : t.data.toList = formL (padL (civN a).1 4) (padL (civN a).2.1 2) (padL (civN a).2.2 2) (padL (secN a / 3600) 2) (padL (secN a / 60 % 60) 2) (padL (secN a % 60) 2) (fracL n ++ c :: r)) (hz : zR (mk (c :: r)) = (s, true)) :
    parseR t = (a - s, n, 0) := by
  obtain ⟨h0, h1, h2, h3⟩ := h
  obtain ⟨f0, f1, ⟨v1, v2, v3, v4⟩, f2, _⟩ := civN_facts a h0 h1
  have hl := lastD_le (civN a).1 (civN a).2.1
  obtain ⟨s0, s1, _⟩ := print_fields a h0 h1
  obtain ⟨q1, q2, q3⟩ := padL_facts (civN a).1 4 (by omega) f0 (by simp; omega)
  obtain ⟨u1, u2, u3⟩ := padL_facts (civN a).2.1 2 (by omega) (by omega) (by simp; omega)
  obtain ⟨w1, w2, w3⟩ := padL_facts (civN a).2.2 2 (by omega) (by omega) (by simp; omega)
  obtain ⟨x1, x2, x3⟩ := padL_facts (secN a / 3600) 2 (by omega) (by omega) (by simp; omega)
  obtain ⟨y1, y2, y3⟩ := padL_facts (secN a / 60 % 60) 2 (by omega) (by omega) (by simp; omega)
  obtain ⟨z1, z2, z3⟩ := padL_facts (secN a % 60) 2 (by omega) (by omega) (by simp; omega)
  obtain ⟨n0, n1, n2, n3, n4, n5, g0, g1, g2, g3, g4, g5⟩ := form_read t _ _ _ _ _ _ _ ht q1 u1 w1 x1 y1 z1 q2 u2 w2 x2 y2 z2
  rw [q3] at n0
  rw [u3] at n1
  rw [w3] at n2
  rw [x3] at n3
  rw [y3] at n4
  rw [z3] at n5
  obtain ⟨r1, r2, r3⟩ := frac_read t n h2 h3 c r hc h46 g5
  rw [parseR_inst]
  unfold instR
  have hC : okAt t ∧ 1 ≤ numAt t 5 2 ∧ 1 ≤ numAt t 8 2 ∧ numAt t 8 2 ≤ Cal.lastD (numAt t 0 4) (numAt t 5 2) := by
    unfold okAt
    rw [n0, n1, n2, n3, n4, n5]
    exact ⟨⟨by omega, ⟨g0, by omega, by omega⟩, ⟨g1, by omega, by omega⟩, ⟨g2, by omega, by omega⟩, ⟨g3, by omega, by omega⟩, ⟨g4, by omega, by omega⟩⟩, v1, v3, v4⟩
  rw [if_pos hC]
  unfold tailR
  have he : rs t (rfr t).2.toNat = mk (c :: r) := rs_ext _ _ r3
  rw [if_neg r1, he, hz, if_pos rfl, r2, n0, n1, n2, n3, n4, n5, f2]
  have : dayN a * 86400 + secN a / 3600 * 3600 + secN a / 60 % 60 * 60 + secN a % 60 - s = a - s := by unfold dayN secN; omega
  rw [this]

theorem zR_z : zR (mk [90]) = (0, true) := by unfold zR; rw [if_pos (show (mk [90]).data.toList = [90] from rfl)]
/-- An instant written and read is itself. -/
theorem parse_print (a n : Int) (h : inR a n) : parseR (printT a n) = (a, n, 0) := by
  have := form_parse 0 a n h (printT a n) 90 [] rfl (by decide) (printT_list a n) zR_z
  rw [this]
  congr 1
  omega
theorem printT_size (a n : Int) (h : inR a n) : (printT a n).size ≤ 40 := by
  obtain ⟨s0, s1, z1, z2, z3, z4, z5, z6⟩ := print_fields a h.1 h.2.1
  have l4 : (⟨#[46]⟩ : ByteArray).size = 1 := rfl
  have l5 : (⟨#[90]⟩ : ByteArray).size = 1 := rfl
  have hh : (headT a).size = 19 := by unfold headT; rw [headB_size]; omega
  unfold printT
  by_cases hn : n > 0
  · obtain ⟨t1, t2, _⟩ := trim_facts n (by omega) h.2.2.2
    rw [if_pos hn]
    simp only [ByteArray.size_append, mk_size]
    omega
  · rw [if_neg hn]
    simp only [ByteArray.size_append]
    omega
theorem parse_bad0 : parseR (⟨#[]⟩ : ByteArray) = (0, 0, 110) := by decide +kernel
end Go.Proofs.YtfcmdameiabjmaaDoor.Fun
