/- A stable sort over lists: inserting behind equals, merging, and that merging two sorted lists sorts both. No program in sight. -/
import Derived.Sort.Statements
set_option linter.unusedVariables false
namespace Go.Proofs.Ytjbfjgaghjggpaa.Mrg
open Go.Sort
variable {α : Type} (lt : α → α → Bool)

/-- Behind all that it is not less than, ahead of the first one that it is less than. -/
def ins (x : α) : List α → List α
  | [] => [x]
  | y :: l => if lt x y = true then x :: y :: l else y :: ins x l
def isort (l : List α) : List α := l.foldl (fun s x => ins lt x s) []
theorem isort_snoc (l : List α) (x : α) : isort lt (l ++ [x]) = ins lt x (isort lt l) := by unfold isort; rw [List.foldl_append]; rfl
def Srt (l : List α) : Prop := l.Pairwise fun a b => lt b a = false
def le (a b : α) : Bool := !lt b a
def mrg (L R : List α) : List α := L.merge R (le lt)

theorem mrg_nil_left (R : List α) : mrg lt [] R = R := by unfold mrg; simp
theorem mrg_nil_right (L : List α) : mrg lt L [] = L := by unfold mrg; simp
theorem mrg_cons (l r : α) (L R : List α) : mrg lt (l :: L) (r :: R) = if lt r l = true then r :: mrg lt (l :: L) R else l :: mrg lt L (r :: R) := by
  unfold mrg
  rw [List.cons_merge_cons]
  unfold le
  cases lt r l <;> simp

theorem ins_mem (x : α) (l : List α) (y : α) : y ∈ ins lt x l ↔ y = x ∨ y ∈ l := by
  induction l with
  | nil => simp [ins]
  | cons z l ih =>
    unfold ins
    split
    · simp
    · simp only [List.mem_cons, ih]
      constructor
      · rintro (h | h | h)
        · exact Or.inr (Or.inl h)
        · exact Or.inl h
        · exact Or.inr (Or.inr h)
      · rintro (h | h | h)
        · exact Or.inr (Or.inl h)
        · exact Or.inl h
        · exact Or.inr (Or.inr h)
theorem SWO.asymm {lt : α → α → Bool} (S : SWO lt) {x y : α} (h : lt x y = true) : lt y x = false := by
  cases h2 : lt y x with
  | false => rfl
  | true =>
    have := S.trans x y x h h2
    rw [S.irrefl] at this
    exact absurd this (by decide)
theorem ins_srt {lt : α → α → Bool} (S : SWO lt) (x : α) (l : List α) (h : Srt lt l) : Srt lt (ins lt x l) := by
  unfold Srt at *
  induction l with
  | nil => simp [ins]
  | cons y l ih =>
    obtain ⟨h1, h2⟩ := List.pairwise_cons.1 h
    unfold ins
    split
    · rename_i hx
      refine List.pairwise_cons.2 ⟨?_, h⟩
      intro z hz
      rcases List.mem_cons.1 hz with rfl | hz
      · exact SWO.asymm S hx
      · have := h1 z hz
        exact S.ntrans z y x this (SWO.asymm S hx)
    · rename_i hx
      refine List.pairwise_cons.2 ⟨?_, ih h2⟩
      intro z hz
      rcases (ins_mem lt x l z).1 hz with rfl | hz
      · simpa using hx
      · exact h1 z hz
theorem isort_srt {lt : α → α → Bool} (S : SWO lt) (l : List α) : Srt lt (isort lt l) := by
  unfold isort
  suffices h : ∀ (l s : List α), Srt lt s → Srt lt (l.foldl (fun s x => ins lt x s) s) from h l [] List.Pairwise.nil
  intro l
  induction l with
  | nil => intro s h; exact h
  | cons x l ih => intro s h; exact ih _ (ins_srt S x s h)

/-- One more behind the second list. -/
theorem mrg_ins {lt : α → α → Bool} (S : SWO lt) (x : α) : ∀ (L R : List α), Srt lt L → Srt lt R → mrg lt L (ins lt x R) = ins lt x (mrg lt L R)
  | [], R, _, _ => by rw [mrg_nil_left, mrg_nil_left]
  | l :: L, [], hL, _ => by
    rw [mrg_nil_right]
    show mrg lt (l :: L) [x] = ins lt x (l :: L)
    rw [mrg_cons]
    unfold ins
    by_cases h : lt x l = true
    · rw [if_pos h, if_pos h, mrg_nil_right]
    · rw [if_neg h, if_neg h]
      have := mrg_ins S x L [] (List.pairwise_cons.1 hL).2 List.Pairwise.nil
      rw [mrg_nil_right] at this
      rw [← this]; rfl
  | l :: L, r :: R, hL, hR => by
    have hL' := (List.pairwise_cons.1 hL).2
    have hR' := (List.pairwise_cons.1 hR).2
    rw [mrg_cons]
    show mrg lt (l :: L) (if lt x r = true then x :: r :: R else r :: ins lt x R) = _
    by_cases hx : lt x r = true
    · rw [if_pos hx, mrg_cons]
      by_cases hxl : lt x l = true
      · rw [if_pos hxl, mrg_cons]
        by_cases hrl : lt r l = true
        · rw [if_pos hrl]
          show _ = if lt x r = true then _ else _
          rw [if_pos hx]
        · rw [if_neg hrl]
          show _ = if lt x l = true then _ else _
          rw [if_pos hxl]
      · rw [if_neg hxl]
        have hrl : ¬ lt r l = true := fun h => hxl (S.trans x r l hx h)
        rw [if_neg hrl]
        show _ = if lt x l = true then _ else _
        rw [if_neg hxl]
        have := mrg_ins S x L (r :: R) hL' hR
        show l :: mrg lt L (x :: r :: R) = _
        rw [← this]
        show _ = l :: mrg lt L (if lt x r = true then x :: r :: R else r :: ins lt x R)
        rw [if_pos hx]
    · rw [if_neg hx, mrg_cons]
      by_cases hrl : lt r l = true
      · rw [if_pos hrl, if_pos hrl]
        show _ = if lt x r = true then _ else _
        rw [if_neg hx, ← mrg_ins S x (l :: L) R hL hR']
      · rw [if_neg hrl, if_neg hrl]
        have hxl : ¬ lt x l = true := by
          intro h
          have := S.ntrans x r l (by simpa using hx) (by simpa using hrl)
          rw [h] at this; exact absurd this (by decide)
        show _ = if lt x l = true then _ else _
        rw [if_neg hxl]
        have := mrg_ins S x L (r :: R) hL' hR
        rw [← this]
        show _ = l :: mrg lt L (if lt x r = true then x :: r :: R else r :: ins lt x R)
        rw [if_neg hx]
termination_by L R => L.length + R.length

/-- Two sorted lists merged are both sorted as one. -/
theorem mrg_isort {lt : α → α → Bool} (S : SWO lt) (A B : List α) : mrg lt (isort lt A) (isort lt B) = isort lt (A ++ B) := by
  suffices h : ∀ (B' : List α), mrg lt (isort lt A) (isort lt B'.reverse) = isort lt (A ++ B'.reverse) by simpa using h B.reverse
  intro B'
  induction B' with
  | nil => simp [isort, mrg_nil_right]
  | cons x B' ih =>
    rw [List.reverse_cons, isort_snoc, mrg_ins S x _ _ (isort_srt S A) (isort_srt S _), ih, ← List.append_assoc, isort_snoc]

/-- Both lists cut where what is ahead in the second goes ahead of what is behind in the first. -/
theorem mrg_split {lt : α → α → Bool} : ∀ (L1 R1 L2 R2 : List α), (∀ r ∈ R1, ∀ l ∈ L2, lt r l = true) → (∀ l ∈ L1, ∀ r ∈ R2, lt r l = false) → mrg lt (L1 ++ L2) (R1 ++ R2) = mrg lt L1 R1 ++ mrg lt L2 R2
  | [], [], L2, R2, _, _ => by rw [mrg_nil_left]; rfl
  | [], r :: R1, [], R2, _, _ => by rw [List.append_nil, mrg_nil_left, mrg_nil_left, mrg_nil_left]
  | [], r :: R1, l :: L2, R2, h1, h2 => by
    have ih := mrg_split [] R1 (l :: L2) R2 (fun a ha b hb => h1 a (List.mem_cons_of_mem _ ha) b hb) h2
    rw [mrg_nil_left] at ih ⊢
    rw [List.nil_append, List.cons_append, mrg_cons, if_pos (h1 r (List.mem_cons_self ..) l (List.mem_cons_self ..))]
    rw [List.nil_append] at ih
    rw [ih]; rfl
  | l :: L1, [], L2, [], _, _ => by rw [List.append_nil, mrg_nil_right, mrg_nil_right, mrg_nil_right]
  | l :: L1, [], L2, r :: R2, h1, h2 => by
    have ih := mrg_split L1 [] L2 (r :: R2) h1 (fun a ha b hb => h2 a (List.mem_cons_of_mem _ ha) b hb)
    rw [mrg_nil_right] at ih ⊢
    rw [List.nil_append, List.cons_append, mrg_cons, if_neg (by rw [h2 l (List.mem_cons_self ..) r (List.mem_cons_self ..)]; decide)]
    rw [List.nil_append] at ih
    rw [ih]; rfl
  | l :: L1, r :: R1, L2, R2, h1, h2 => by
    rw [List.cons_append, List.cons_append, mrg_cons, mrg_cons]
    by_cases h : lt r l = true
    · rw [if_pos h, if_pos h]
      have ih := mrg_split (l :: L1) R1 L2 R2 (fun a ha b hb => h1 a (List.mem_cons_of_mem _ ha) b hb) h2
      rw [List.cons_append] at ih
      rw [ih]; rfl
    · rw [if_neg h, if_neg h]
      have ih := mrg_split L1 (r :: R1) L2 R2 h1 (fun a ha b hb => h2 a (List.mem_cons_of_mem _ ha) b hb)
      rw [List.cons_append] at ih
      rw [ih]; rfl
termination_by L1 R1 _ _ => L1.length + R1.length
end Go.Proofs.Ytjbfjgaghjggpaa.Mrg
