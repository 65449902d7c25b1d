/- Sorting block by block and merging the blocks, as lists; the library's sort by insertion as 'isort'. No program in sight. -/
import Derived.Test.YtjbfjgaghjggpaaSyl
import Derived.Sort.WalkA
set_option linter.unusedVariables false
set_option linter.unusedSectionVars false
namespace Go.Proofs.Ytjbfjgaghjggpaa.Srt
open Go.Sort Go.Proofs.Ytjbfjgaghjggpaa.Mrg
variable {α : Type} [Inhabited α] (lt : α → α → Bool)

theorem ins_snoc_ge {lt : α → α → Bool} (x y : α) (S : List α) (h : lt x y = false) (hS : ∀ z ∈ S, lt x z = false) : ins lt x (S ++ [y]) = S ++ [y, x] := by
  induction S with
  | nil => simp [ins, h]
  | cons z S ih =>
    rw [List.cons_append, ins, if_neg (by rw [hS z (List.mem_cons_self ..)]; decide), ih (fun z hz => hS z (List.mem_cons_of_mem _ hz))]; rfl
theorem ins_snoc_lt {lt : α → α → Bool} (x y : α) (S : List α) (h : lt x y = true) : ins lt x (S ++ [y]) = ins lt x S ++ [y] := by
  induction S with
  | nil => simp [ins, h]
  | cons z S ih =>
    rw [List.cons_append, ins]
    by_cases hz : lt x z = true
    · rw [if_pos hz, ins, if_pos hz]; rfl
    · rw [if_neg hz, ih, ins, if_neg hz]; rfl

/-- One step of the sort by insertion. -/
theorem insInner_list {lt : α → α → Bool} (SO : SWO lt) (A T : List α) (x : α) (n : Nat) : ∀ (d : Array α) (S U : List α), S.length = n → Srt lt S → d.toList = A ++ S ++ x :: (U ++ T) → (insInner lt A.length (A.length + n) d).toList = A ++ ins lt x S ++ (U ++ T) := by
  induction n with
  | zero =>
    intro d S U hS hs h
    rw [List.length_eq_zero_iff.1 hS] at h ⊢
    rw [insInner_stop _ _ _ _ (Or.inl (by omega)), h]; simp [ins]
  | succ n ih =>
    intro d S U hS hs h
    have eS : S ≠ [] := by intro e; rw [e] at hS; simp at hS
    obtain ⟨S0, y, rfl⟩ : ∃ l c, S = l ++ [c] := ⟨S.dropLast, S.getLast eS, (List.dropLast_concat_getLast eS).symm⟩
    have l0 : S0.length = n := by simpa using hS
    obtain ⟨s1, s2, s3⟩ := List.pairwise_append.1 hs
    have dx : d[A.length + (n + 1)]! = x := by
      have := at_list d (A ++ (S0 ++ [y])) [x] (U ++ T) (by rw [h]; simp) 0 (by simp)
      rw [Nat.add_zero, List.length_append, hS] at this; exact this
    have dy : d[A.length + (n + 1) - 1]! = y := by
      have := at_list d (A ++ S0) [y] (x :: (U ++ T)) (by rw [h]; simp) 0 (by simp)
      rw [Nat.add_zero, List.length_append, l0] at this
      rw [show A.length + (n + 1) - 1 = A.length + n by omega]; exact this
    by_cases hc : lt x y = true
    · rw [insInner_go _ _ _ _ (by omega) (by rw [dx, dy]; exact hc)]
      rw [show A.length + (n + 1) - 1 = A.length + n by omega]
      have hsw : (swp d (A.length + (n + 1)) (A.length + n)).toList = A ++ S0 ++ x :: ((y :: U) ++ T) := by
        rw [swp_comm _ _ _ (by omega)]
        rw [swp_list d (A ++ S0) [] (U ++ T) y x _ _ (by rw [h]; simp only [List.append_assoc, List.cons_append, List.nil_append]) (by rw [List.length_append, l0]) (by rw [List.length_append, l0]; simp; omega)]
        simp only [List.append_assoc, List.cons_append, List.nil_append]
      rw [ih _ S0 (y :: U) l0 s1 hsw, ins_snoc_lt x y S0 hc]
      simp only [List.append_assoc, List.cons_append, List.nil_append]
    · have hc' : lt x y = false := by simpa using hc
      rw [insInner_stop _ _ _ _ (Or.inr (by rw [dx, dy]; exact hc')), h, ins_snoc_ge x y S0 hc' (fun z hz => ?_)]
      · simp
      · cases e : lt x z with
        | false => rfl
        | true =>
          have := lt_up SO e (s3 z hz y (by simp))
          rw [hc'] at this; exact absurd this (by decide)
theorem isort_len {lt : α → α → Bool} (X : List α) : (isort lt X).length = X.length := by
  have H : ∀ (X s : List α), (X.foldl (fun s x => ins lt x s) s).length = s.length + X.length := by
    intro X
    induction X with
    | nil => intro s; rfl
    | cons x X ih =>
      intro s
      rw [List.foldl_cons, ih]
      have : ∀ s : List α, (ins lt x s).length = s.length + 1 := by
        intro s
        induction s with
        | nil => rfl
        | cons y s ih => unfold ins; split <;> simp [ih]
      rw [this, List.length_cons]; omega
  have := H X []
  simpa [isort] using this
theorem insOuter_list {lt : α → α → Bool} (SO : SWO lt) (A T : List α) (n : Nat) : ∀ (d : Array α) (X Z : List α), Z.length = n → d.toList = A ++ isort lt X ++ Z ++ T → (insOuter lt A.length (A.length + X.length + n) (A.length + X.length) d).toList = A ++ isort lt (X ++ Z) ++ T := by
  induction n with
  | zero =>
    intro d X Z hZ h
    rw [List.length_eq_zero_iff.1 hZ] at h ⊢
    rw [insOuter_stop _ _ _ _ _ (by omega), h]; simp
  | succ n ih =>
    intro d X Z hZ h
    obtain ⟨z, Z, rfl⟩ : ∃ z l, Z = z :: l := by
      cases Z with
      | nil => simp at hZ
      | cons z Z => exact ⟨z, Z, rfl⟩
    have lZ : Z.length = n := by simpa using hZ
    rw [insOuter_go _ _ _ _ _ (by omega)]
    have lx : (isort lt X).length = X.length := isort_len X
    have h1 := insInner_list SO A T z X.length d (isort lt X) Z lx (isort_srt SO X) (by rw [h]; simp only [List.append_assoc, List.cons_append])
    have h2 := ih (insInner lt A.length (A.length + X.length) d) (X ++ [z]) Z lZ (by rw [h1, isort_snoc]; simp only [List.append_assoc])
    rw [List.length_append, List.length_singleton] at h2
    rw [show A.length + X.length + (n + 1) = A.length + (X.length + 1) + n by omega, show A.length + X.length + 1 = A.length + (X.length + 1) by omega, h2]
    simp
/-- The library's sort by insertion of a part of a row. -/
theorem insertion_list {lt : α → α → Bool} (SO : SWO lt) (d : Array α) (A X T : List α) (h : d.toList = A ++ X ++ T) : (insertionSort lt d A.length (A.length + X.length)).toList = A ++ isort lt X ++ T := by
  unfold insertionSort
  cases X with
  | nil => rw [insOuter_stop _ _ _ _ _ (by simp), h]; rfl
  | cons x X =>
    have := insOuter_list SO A T X.length d [x] X rfl (by rw [h]; simp [isort, ins])
    rw [List.length_singleton] at this
    rw [List.length_cons, show A.length + (X.length + 1) = A.length + 1 + X.length by omega, this]; rfl

/-- A list whose blocks of s are sorted each for itself. -/
inductive Blk (s : Nat) : List α → List α → Prop
  | last (l : List α) : l.length ≤ s → Blk s l (isort lt l)
  | more (X Y r : List α) : X.length = s → Blk s Y r → Blk s (X ++ Y) (isort lt X ++ r)
variable {lt}
theorem Blk.nil (s : Nat) : Blk lt s ([] : List α) [] := Blk.last (lt := lt) (s := s) [] (Nat.zero_le _)
theorem Blk.len {s : Nat} {l r : List α} (h : Blk lt s l r) : r.length = l.length := by
  induction h with
  | last l _ => exact isort_len l
  | more X Y r hX h ih => rw [List.length_append, List.length_append, isort_len, ih]
/-- Two whole blocks at the head. -/
theorem Blk.two {s : Nat} (hs : 0 < s) {l r : List α} (h : Blk lt s l r) (hl : 2 * s ≤ l.length) : ∃ X Y Z q, l = X ++ Y ++ Z ∧ X.length = s ∧ Y.length = s ∧ r = isort lt X ++ isort lt Y ++ q ∧ Blk lt s Z q := by
  cases h with
  | last _ h => omega
  | more X Y r hX h =>
    rw [List.length_append] at hl
    cases h with
    | last _ h => exact ⟨X, Y, [], [], by simp, hX, by omega, by simp, Blk.nil s⟩
    | more Y Z q hY h => exact ⟨X, Y, Z, q, by simp, hX, hY, by simp, h⟩
/-- One whole block at the head, and less than another one. -/
theorem Blk.rest {s : Nat} (hs : 0 < s) {l r : List α} (h : Blk lt s l r) (h1 : s < l.length) (h2 : l.length < 2 * s) : ∃ X Y, l = X ++ Y ∧ X.length = s ∧ r = isort lt X ++ isort lt Y := by
  cases h with
  | last _ h => omega
  | more X Y r hX h =>
    rw [List.length_append] at h1 h2
    cases h with
    | last _ h => exact ⟨X, Y, rfl, hX, rfl⟩
    | more Y Z q hY h => rw [List.length_append] at h2; omega
theorem Blk.only {s : Nat} (hs : 0 < s) {l r : List α} (h : Blk lt s l r) (h1 : l.length ≤ s) : r = isort lt l := by
  cases h with
  | last _ h => rfl
  | more X Y r hX h =>
    rw [List.length_append] at h1
    have hY : Y = [] := List.length_eq_zero_iff.1 (by omega)
    subst hY
    have := h.len
    have hr : r = [] := List.length_eq_zero_iff.1 (by simpa using this)
    rw [hr]; simp
end Go.Proofs.Ytjbfjgaghjggpaa.Srt
