/- DateOrder: what the law's function answers, in plain Lean. -/
import Derived.Test.YtfcmdameiabjmaaDoorAwk
import Derived.Test.YtfcmdameiabjmaaDoorForm
import Derived.Test.YtfcmdameiabjmaaDoorPrx11
set_option linter.unusedVariables false
namespace Go.Proofs.YtfcmdameiabjmaaDoor.Pure
open Go.RowKit Go.Proofs.YtfcmdameiabjmaaDoor.Pr Go.Proofs.YtfcmdameiabjmaaDoorW.PrintWords Go.Proofs.YtfcmdameiabjmaaDoorW.PrintLast Go.Proofs.YtfcmdameiabjmaaDoor.Fun Go.Proofs.YtfcmdameiabjmaaDoor.Txt
/-- One number of a lexicographic order. -/
def lexI (p q : Int) (b : Bool) : Bool := if p < q then true else if p = q then b else false
theorem lex_true {p q : Int} {b : Bool} (h : p < q) : lexI p q b = true := by unfold lexI; rw [if_pos h]
theorem lex_same {p q : Int} {b : Bool} (h : p = q) : lexI p q b = b := by unfold lexI; rw [if_neg (by omega), if_pos h]
theorem lex_false {p q : Int} {b : Bool} (h : q < p) : lexI p q b = false := by unfold lexI; rw [if_neg (by omega), if_neg (by omega)]
theorem val_fold (l : List UInt8) : ∀ a, l.foldl (fun k c => k * 10 + (c.toNat - 48)) a = a * 10 ^ l.length + val l := by
  induction l with
  | nil => intro a; simp [val]
  | cons c l ih =>
    intro a
    have hv : val (c :: l) = (0 * 10 + (c.toNat - 48)) * 10 ^ l.length + val l := ih _
    rw [List.foldl_cons, ih, hv, List.length_cons, Nat.pow_succ, Nat.add_mul, Nat.mul_assoc a, Nat.mul_comm 10 (10 ^ l.length)]
    simp only [Nat.zero_mul, Nat.zero_add]
    omega
theorem val_cons (c : UInt8) (l : List UInt8) : val (c :: l) = (c.toNat - 48) * 10 ^ l.length + val l := by
  show (c :: l).foldl _ 0 = _
  rw [List.foldl_cons, val_fold]
  simp
theorem less_digs (x y : List UInt8) : ∀ (A B : List UInt8), A.length = B.length → allDig A = true → allDig B = true → Op.bytesLess (A ++ x) (B ++ y) = lexI (val A : Nat) (val B : Nat) (Op.bytesLess x y)
  | [], [], _, _, _ => by simp [lexI]
  | a :: A, b :: B, hl, ha, hb => by
    have ha' : isDig a = true ∧ allDig A = true := by unfold allDig at ha ⊢; simpa [Bool.and_eq_true] using ha
    have hb' : isDig b = true ∧ allDig B = true := by unfold allDig at hb ⊢; simpa [Bool.and_eq_true] using hb
    have hl' : A.length = B.length := by simpa using hl
    have ih := less_digs x y A B hl' ha'.2 hb'.2
    have va := val_lt A ha'.2
    have vb := val_lt B hb'.2
    have da := (isDig_iff a).1 ha'.1
    have db := (isDig_iff b).1 hb'.1
    rw [List.cons_append, List.cons_append]
    show (decide (a < b) || (a == b && Op.bytesLess (A ++ x) (B ++ y))) = _
    rw [ih, val_cons, val_cons]
    rw [← hl'] at vb ⊢
    generalize 10 ^ A.length = P at *
    by_cases h : a = b
    · subst h
      have : decide (a < a) = false := by simp
      rw [this]
      simp only [beq_self_eq_true, Bool.true_and, Bool.false_or]
      generalize (a.toNat - 48) * P = X
      rcases Nat.lt_trichotomy (val A) (val B) with h1 | h1 | h1
      · rw [lex_true (show ((val A : Nat) : Int) < (val B : Nat) by omega), lex_true (by omega)]
      · rw [lex_same (show ((val A : Nat) : Int) = (val B : Nat) by omega), lex_same (by omega)]
      · rw [lex_false (show ((val B : Nat) : Int) < (val A : Nat) by omega), lex_false (by omega)]
    · have hn : a.toNat ≠ b.toNat := fun e => h (UInt8.toNat_inj.1 e)
      have hbeq : (a == b) = false := by simpa using h
      rw [hbeq, Bool.false_and, Bool.or_false]
      by_cases h1 : a.toNat < b.toNat
      · have : (a.toNat - 48) * P + P ≤ (b.toNat - 48) * P := by
          rw [← Nat.succ_mul]; exact Nat.mul_le_mul_right _ (by omega)
        rw [lex_true (by omega)]
        exact decide_eq_true (UInt8.lt_iff_toNat_lt.2 h1)
      · have : (b.toNat - 48) * P + P ≤ (a.toNat - 48) * P := by
          rw [← Nat.succ_mul]; exact Nat.mul_le_mul_right _ (by omega)
        rw [lex_false (by omega)]
        exact decide_eq_false (fun h2 => h1 (UInt8.lt_iff_toNat_lt.1 h2))
theorem less_same (c : UInt8) (x y : List UInt8) : Op.bytesLess (c :: x) (c :: y) = Op.bytesLess x y := by
  show (decide (c < c) || (c == c && Op.bytesLess x y)) = _
  simp
theorem less_form (Y M D H I S Y' M' D' H' I' S' R : List UInt8) (hY : Y.length = Y'.length) (hM : M.length = M'.length) (hD : D.length = D'.length) (hH : H.length = H'.length) (hI : I.length = I'.length) (hS : S.length = S'.length)
    (dY : allDig Y = true) (dM : allDig M = true) (dD : allDig D = true) (dH : allDig H = true) (dI : allDig I = true) (dS : allDig S = true)
    (eY : allDig Y' = true) (eM : allDig M' = true) (eD : allDig D' = true) (eH : allDig H' = true) (eI : allDig I' = true) (eS : allDig S' = true) :
    Op.bytesLess (formL Y M D H I S R) (formL Y' M' D' H' I' S' R) = lexI (val Y : Nat) (val Y' : Nat) (lexI (val M : Nat) (val M' : Nat) (lexI (val D : Nat) (val D' : Nat) (lexI (val H : Nat) (val H' : Nat) (lexI (val I : Nat) (val I' : Nat) (lexI (val S : Nat) (val S' : Nat) (Op.bytesLess R R)))))) := by
  unfold formL
  rw [less_digs _ _ Y Y' hY dY eY, less_same, less_digs _ _ M M' hM dM eM, less_same, less_digs _ _ D D' hD dD eD, less_same, less_digs _ _ H H' hH dH eH, less_same, less_digs _ _ I I' hI dI eI, less_same, less_digs _ _ S S' hS dS eS]
/-- Earlier in time is earlier in the order of texts. -/
theorem less_print (a c : Int) (ha : inR a 0) (hc : inR c 0) : Op.bytesLess (printT a 0).toList (printT c 0).toList = decide (a < c) := by
  rw [toList_data, toList_data, printT_list, printT_list]
  obtain ⟨f0, f1, ⟨v1, v2, v3, v4⟩, f2, f3, f4, f5, f6⟩ := civN_facts a ha.1 ha.2.1
  obtain ⟨f0', f1', ⟨v1', v2', v3', v4'⟩, f2', f3', f4', f5', f6'⟩ := civN_facts c hc.1 hc.2.1
  obtain ⟨s0, s1, _⟩ := print_fields a ha.1 ha.2.1
  obtain ⟨s0', s1', _⟩ := print_fields c hc.1 hc.2.1
  have hl := lastD_le (civN a).1 (civN a).2.1
  have hl' := lastD_le (civN c).1 (civN c).2.1
  obtain ⟨q1, q2, q3⟩ := padL_facts (civN a).1 4 (by omega) f0 (by simp; omega)
  obtain ⟨u1, u2, u3⟩ := padL_facts (civN a).2.1 2 (by omega) (by omega) (by simp; omega)
  obtain ⟨w1, w2, w3⟩ := padL_facts (civN a).2.2 2 (by omega) (by omega) (by simp; omega)
  obtain ⟨x1, x2, x3⟩ := padL_facts (secN a / 3600) 2 (by omega) (by omega) (by simp; omega)
  obtain ⟨y1, y2, y3⟩ := padL_facts (secN a / 60 % 60) 2 (by omega) (by omega) (by simp; omega)
  obtain ⟨z1, z2, z3⟩ := padL_facts (secN a % 60) 2 (by omega) (by omega) (by simp; omega)
  obtain ⟨q1', q2', q3'⟩ := padL_facts (civN c).1 4 (by omega) f0' (by simp; omega)
  obtain ⟨u1', u2', u3'⟩ := padL_facts (civN c).2.1 2 (by omega) (by omega) (by simp; omega)
  obtain ⟨w1', w2', w3'⟩ := padL_facts (civN c).2.2 2 (by omega) (by omega) (by simp; omega)
  obtain ⟨x1', x2', x3'⟩ := padL_facts (secN c / 3600) 2 (by omega) (by omega) (by simp; omega)
  obtain ⟨y1', y2', y3'⟩ := padL_facts (secN c / 60 % 60) 2 (by omega) (by omega) (by simp; omega)
  obtain ⟨z1', z2', z3'⟩ := padL_facts (secN c % 60) 2 (by omega) (by omega) (by simp; omega)
  rw [less_form _ _ _ _ _ _ _ _ _ _ _ _ _ (by rw [q1, q1']) (by rw [u1, u1']) (by rw [w1, w1']) (by rw [x1, x1']) (by rw [y1, y1']) (by rw [z1, z1']) q2 u2 w2 x2 y2 z2 q2' u2' w2' x2' y2' z2', q3, u3, w3, x3, y3, z3, q3', u3', w3', x3', y3', z3']
  have hR : Op.bytesLess (fracL 0 ++ [90]) (fracL 0 ++ [90]) = false := by decide
  rw [hR]
  clear q1 q2 q3 u1 u2 u3 w1 w2 w3 x1 x2 x3 y1 y2 y3 z1 z2 z3 q1' q2' q3' u1' u2' u3' w1' w2' w3' x1' x2' x3' y1' y2' y3' z1' z2' z3' hR
  have ea : a = dayN a * 86400 + secN a := by unfold dayN secN; omega
  have ec : c = dayN c * 86400 + secN c := by unfold dayN secN; omega
  have F1 : (civN a).1 < (civN c).1 → dayN a < dayN c := fun h => by have := year_mono ((civN a).1 + 1) (civN c).1 (by omega); omega
  have F1' : (civN c).1 < (civN a).1 → dayN c < dayN a := fun h => by have := year_mono ((civN c).1 + 1) (civN a).1 (by omega); omega
  have F2 : (civN a).1 = (civN c).1 → (civN a).2.1 < (civN c).2.1 → dayN a < dayN c := fun h h2 => by
    have h3 := f6 (by omega)
    have := month_mono (civN a).1 ((civN a).2.1 + 1) (civN c).2.1 (by omega) (by omega) v2'
    rw [← h] at f3'; omega
  have F2' : (civN a).1 = (civN c).1 → (civN c).2.1 < (civN a).2.1 → dayN c < dayN a := fun h h2 => by
    have h3 := f6' (by omega)
    have := month_mono (civN c).1 ((civN c).2.1 + 1) (civN a).2.1 (by omega) (by omega) v2
    rw [h] at f3; omega
  have F3 : (civN a).1 = (civN c).1 → (civN a).2.1 = (civN c).2.1 → dayN a - dayN c = (civN a).2.2 - (civN c).2.2 := fun h h2 => by
    have k1 := Cal.dayF_d (civN a).1 (civN a).2.1 (civN a).2.2
    have k2 := Cal.dayF_d (civN c).1 (civN c).2.1 (civN c).2.2
    rw [h, h2] at k1 f2; omega
  clear f0 f1 v1 v2 v3 v4 f2 f3 f4 f5 f6 f0' f1' v1' v2' v3' v4' f2' f3' f4' f5' f6' hl hl' ha hc
  generalize (civN a).1 = y at *
  generalize (civN c).1 = y' at *
  generalize (civN a).2.1 = m at *
  generalize (civN c).2.1 = m' at *
  generalize (civN a).2.2 = d at *
  generalize (civN c).2.2 = d' at *
  generalize dayN a = D at *
  generalize dayN c = D' at *
  generalize secN a = σ at *
  generalize secN c = τ at *
  rcases Int.lt_trichotomy y y' with h | h | h
  · rw [lex_true h]; exact (decide_eq_true (by have := F1 h; omega)).symm
  case inr.inr => rw [lex_false h]; exact (decide_eq_false (by have := F1' h; omega)).symm
  rw [lex_same h]
  rcases Int.lt_trichotomy m m' with h2 | h2 | h2
  · rw [lex_true h2]; exact (decide_eq_true (by have := F2 h h2; omega)).symm
  case inr.inr => rw [lex_false h2]; exact (decide_eq_false (by have := F2' h h2; omega)).symm
  rw [lex_same h2]
  have F := F3 h h2
  rcases Int.lt_trichotomy d d' with h3 | h3 | h3
  · rw [lex_true h3]; exact (decide_eq_true (by omega)).symm
  case inr.inr => rw [lex_false h3]; exact (decide_eq_false (by omega)).symm
  rw [lex_same h3]
  rcases Int.lt_trichotomy (σ / 3600) (τ / 3600) with h4 | h4 | h4
  · rw [lex_true h4]; exact (decide_eq_true (by omega)).symm
  case inr.inr => rw [lex_false h4]; exact (decide_eq_false (by omega)).symm
  rw [lex_same h4]
  rcases Int.lt_trichotomy (σ / 60 % 60) (τ / 60 % 60) with h5 | h5 | h5
  · rw [lex_true h5]; exact (decide_eq_true (by omega)).symm
  case inr.inr => rw [lex_false h5]; exact (decide_eq_false (by omega)).symm
  rw [lex_same h5]
  rcases Int.lt_trichotomy (σ % 60) (τ % 60) with h6 | h6 | h6
  · rw [lex_true h6]; exact (decide_eq_true (by omega)).symm
  · rw [lex_same h6]; exact (decide_eq_false (by omega)).symm
  · rw [lex_false h6]; exact (decide_eq_false (by omega)).symm
theorem cmpI_cases (a b : Int) : (a < b ∧ cmpI a b = -1) ∨ (a = b ∧ cmpI a b = 0) ∨ (b < a ∧ cmpI a b = 1) := by
  unfold cmpI
  rcases Int.lt_trichotomy a b with h | h | h
  · exact Or.inl ⟨h, by rw [if_pos h]⟩
  · exact Or.inr (Or.inl ⟨h, by rw [if_neg (by omega), if_neg (by omega)]⟩)
  · exact Or.inr (Or.inr ⟨h, by rw [if_neg (by omega), if_pos h]⟩)
theorem cmpR_cases (a b c d : Int) : ((a < c ∨ (a = c ∧ b < d)) ∧ cmpR a b c d = -1) ∨ ((a = c ∧ b = d) ∧ cmpR a b c d = 0) ∨ ((c < a ∨ (a = c ∧ d < b)) ∧ cmpR a b c d = 1) := by
  unfold cmpR
  rcases cmpI_cases a c with ⟨h, e⟩ | ⟨h, e⟩ | ⟨h, e⟩
  · rw [e, if_neg (by decide)]; exact Or.inl ⟨Or.inl h, rfl⟩
  · rw [e, if_pos rfl]
    rcases cmpI_cases b d with ⟨h2, e2⟩ | ⟨h2, e2⟩ | ⟨h2, e2⟩
    · exact Or.inl ⟨Or.inr ⟨h, h2⟩, e2⟩
    · exact Or.inr (Or.inl ⟨⟨h, h2⟩, e2⟩)
    · exact Or.inr (Or.inr ⟨Or.inr ⟨h, h2⟩, e2⟩)
  · rw [e, if_neg (by decide)]; exact Or.inr (Or.inr ⟨Or.inl h, rfl⟩)
theorem order_j0 (k : Nat) (hk : 20 ≤ k) (a b c d : Int) : broadsheetlaw11_DateOrder.j0 k true false a b c d = some true := by
  obtain ⟨k, rfl⟩ : ∃ q, k = q + 1 := ⟨k - 1, by omega⟩
  simp only [broadsheetlaw11_DateOrder.j0]
  rw [if_neg (by decide)]
  by_cases ha : inR a 0
  · rw [print_ok k (by omega) _ _ ha]
    by_cases hc : inR c 0
    · rw [print_ok k (by omega) _ _ hc]
      simp only [Option.bind_some]
      rw [if_pos trivial, if_pos trivial, if_pos trivial, cmp_eq k (by omega), less_print a c ha hc]
      simp only [Option.bind_some]
      have : decide (cmpR a 0 c 0 < 0) = decide (a < c) := by
        rcases cmpR_cases a 0 c 0 with ⟨h, e⟩ | ⟨h, e⟩ | ⟨h, e⟩ <;> rw [e] <;> simp <;> omega
      rw [this]
      simp
    · rw [print_bad k (by omega) _ _ hc]
      simp only [Option.bind_some]
      rw [if_pos trivial, if_pos trivial, if_neg (by decide)]
  · rw [print_bad k (by omega) _ _ ha]
    by_cases hc : inR c 0
    · rw [print_ok k (by omega) _ _ hc]
      simp only [Option.bind_some]
      rw [if_pos trivial, if_neg (by decide)]
    · rw [print_bad k (by omega) _ _ hc]
      simp only [Option.bind_some]
      rw [if_pos trivial, if_neg (by decide)]
theorem DateOrder : ∀ (a0_0 a0_1 a1_0 a1_1 a2_0 a2_1 : Int), (Lit.int .i64 a0_0).wf = true → (Lit.int .i64 a0_1).wf = true → (Lit.int .i64 a1_0).wf = true → (Lit.int .i64 a1_1).wf = true → (Lit.int .i64 a2_0).wf = true → (Lit.int .i64 a2_1).wf = true → ∃ k, broadsheetlaw11_DateOrder.f k a0_0 a0_1 a1_0 a1_1 a2_0 a2_1 = some true := by
  intro a b c d e f _ _ _ _ _ _
  refine ⟨50, ?_⟩
  unfold broadsheetlaw11_DateOrder.f
  rw [awake_eq 50 (by decide)]
  simp only [Option.bind_some]
  rw [if_pos trivial, cmp_eq 50 (by decide), cmp_eq 50 (by decide), cmp_eq 50 (by decide), cmp_eq 50 (by decide)]
  simp only [Option.bind_some]
  have J := order_j0 50 (by decide) a b c d
  have h1 := cmpR_cases a b c d
  have h2 := cmpR_cases c d e f
  have h3 := cmpR_cases a b e f
  have h4 := cmpR_cases c d a b
  have hw : wrap64 (-cmpR c d a b) = -cmpR c d a b := w64 (by omega)
  rw [hw, if_pos (by omega)]
  have hq : ((cmpR a b c d == 0) != (a == c && (b == d))) = false := by
    rcases h1 with ⟨h, e⟩ | ⟨h, e⟩ | ⟨h, e⟩
    · rw [e]; simp; omega
    · rw [e]; simp; omega
    · rw [e]; simp; omega
  rw [hq, if_neg (by decide)]
  by_cases g1 : cmpR a b c d ≤ 0
  · rw [if_pos g1]
    by_cases g2 : cmpR c d e f ≤ 0
    · rw [if_pos g2, decide_eq_false (by omega)]; exact J
    · rw [if_neg g2]; exact J
  · rw [if_neg g1]; exact J
end Go.Proofs.YtfcmdameiabjmaaDoor.Pure
