/- What the library's merging in place looks for, as lists: where two sorted neighbours are cut. No program in sight. -/
import Derived.Test.YtjbfjgaghjggpaaMerge
import Derived.Test.YtjbfjgaghjggpaaRot
set_option linter.unusedVariables false
set_option linter.unusedSectionVars false
namespace Go.Proofs.Ytjbfjgaghjggpaa.Srt
open Go.Sort Go.Proofs.Ytjbfjgaghjggpaa.Mrg
variable {α : Type} [Inhabited α]

/-- An element of a row that is a list in parts. -/
theorem at_list (d : Array α) (A X B : List α) (h : d.toList = A ++ X ++ B) (t : Nat) (ht : t < X.length) : d[A.length + t]! = X[t]! := by
  have h1 : d.toList[A.length + t]? = X[t]? := by
    rw [h, List.append_assoc, List.getElem?_append_right (by omega), Nat.add_sub_cancel_left, List.getElem?_append_left ht]
  rw [Array.getElem?_toList] at h1
  rw [Array.getElem!_eq_getD, Array.getD_eq_getD_getElem?, h1, List.getElem!_eq_getElem?_getD]
theorem mem_at (X : List α) (x : α) (h : x ∈ X) : ∃ t, t < X.length ∧ X[t]! = x := by
  obtain ⟨t, ht, e⟩ := List.getElem_of_mem h
  exact ⟨t, ht, by rw [List.getElem!_eq_getElem?_getD, List.getElem?_eq_getElem ht]; exact e⟩

/-- One element ahead of a sorted list. -/
theorem mrg_one_left (lt : α → α → Bool) (x : α) (R1 R2 : List α) (h1 : ∀ r ∈ R1, lt r x = true) (h2 : ∀ r ∈ R2, lt r x = false) : mrg lt [x] (R1 ++ R2) = R1 ++ x :: R2 := by
  have := mrg_split (lt := lt) [] R1 [x] R2 (fun r hr l hl => by rw [List.mem_singleton.1 hl]; exact h1 r hr) (fun l hl => absurd hl (by simp))
  rw [List.nil_append, mrg_nil_left] at this
  rw [this]
  congr 1
  cases R2 with
  | nil => exact mrg_nil_right lt [x]
  | cons r R2 => rw [mrg_cons, if_neg (by rw [h2 r (List.mem_cons_self ..)]; decide), mrg_nil_left]
/-- One element behind a sorted list. -/
theorem mrg_one_right (lt : α → α → Bool) (y : α) (L1 L2 : List α) (h1 : ∀ l ∈ L1, lt y l = false) (h2 : ∀ l ∈ L2, lt y l = true) : mrg lt (L1 ++ L2) [y] = L1 ++ y :: L2 := by
  have := mrg_split (lt := lt) L1 [] L2 [y] (fun r hr => absurd hr (by simp)) (fun l hl r hr => by rw [List.mem_singleton.1 hr]; exact h1 l hl)
  rw [List.nil_append, mrg_nil_right] at this
  rw [this]
  congr 1
  cases L2 with
  | nil => exact mrg_nil_left lt [y]
  | cons l L2 => rw [mrg_cons, if_pos (h2 l (List.mem_cons_self ..)), mrg_nil_right]
theorem srt_at {lt : α → α → Bool} (X : List α) (h : Srt lt X) (t u : Nat) (htu : t < u) (hu : u < X.length) : lt X[u]! X[t]! = false := by
  have := List.pairwise_iff_getElem.1 h t u (by omega) hu htu
  rw [List.getElem!_eq_getElem?_getD, List.getElem!_eq_getElem?_getD, List.getElem?_eq_getElem hu, List.getElem?_eq_getElem (show t < X.length by omega)]
  exact this
theorem srt_le {lt : α → α → Bool} (S : SWO lt) (X : List α) (h : Srt lt X) (t u : Nat) (htu : t ≤ u) (hu : u < X.length) : lt X[u]! X[t]! = false := by
  rcases Nat.lt_or_eq_of_le htu with h1 | h1
  · exact srt_at X h t u h1 hu
  · rw [h1]; exact S.irrefl _
theorem lt_up {lt : α → α → Bool} (S : SWO lt) {r l0 l : α} (h : lt r l0 = true) (h2 : lt l l0 = false) : lt r l = true := by
  cases e : lt r l with
  | true => rfl
  | false => have := S.ntrans r l l0 e h2; rw [h] at this; exact absurd this (by decide)
theorem lt_down {lt : α → α → Bool} (S : SWO lt) {r r0 l : α} (h : lt r0 l = true) (h2 : lt r0 r = false) : lt r l = true := by
  cases e : lt r l with
  | true => rfl
  | false => have := S.ntrans r0 r l h2 e; rw [h] at this; exact absurd this (by decide)
theorem mem_take_at (X : List α) (k : Nat) (x : α) (h : x ∈ X.take k) : ∃ t, t < k ∧ t < X.length ∧ X[t]! = x := by
  obtain ⟨t, ht, e⟩ := List.getElem_of_mem h
  rw [List.length_take] at ht
  refine ⟨t, by omega, by omega, ?_⟩
  rw [List.getElem_take] at e
  rw [List.getElem!_eq_getElem?_getD, List.getElem?_eq_getElem (by omega)]; exact e
theorem mem_drop_at (X : List α) (k : Nat) (x : α) (h : x ∈ X.drop k) : ∃ t, k ≤ t ∧ t < X.length ∧ X[t]! = x := by
  obtain ⟨t, ht, e⟩ := List.getElem_of_mem h
  rw [List.length_drop] at ht
  refine ⟨k + t, by omega, by omega, ?_⟩
  rw [List.getElem_drop] at e
  rw [List.getElem!_eq_getElem?_getD, List.getElem?_eq_getElem (by omega)]; exact e

/-- Where the search ends, in places of the two lists (i of the first ahead of the cut, j of the second): all of the second's ahead of it go ahead of all of the first's behind it, and none of the second's behind it goes ahead of one of the first's ahead of it. -/
theorem cut {lt : α → α → Bool} (S : SWO lt) (L R : List α) (hL : Srt lt L) (hR : Srt lt R) (i j : Nat)
    (h1 : i < L.length → 0 < j → lt R[j - 1]! L[i]! = true ∧ j ≤ R.length) (h2 : 0 < i → j < R.length → lt R[j]! L[i - 1]! = false ∧ i ≤ L.length) :
    (∀ r ∈ R.take j, ∀ l ∈ L.drop i, lt r l = true) ∧ (∀ l ∈ L.take i, ∀ r ∈ R.drop j, lt r l = false) := by
  constructor
  · intro r hr l hl
    obtain ⟨u, u1, u2, rfl⟩ := mem_take_at R j r hr
    obtain ⟨t, t1, t2, rfl⟩ := mem_drop_at L i l hl
    obtain ⟨q1, q2⟩ := h1 (by omega) (by omega)
    exact lt_up S (lt_down S q1 (srt_le S R hR u (j - 1) (by omega) (by omega))) (srt_le S L hL i t t1 t2)
  · intro l hl r hr
    obtain ⟨t, t1, t2, rfl⟩ := mem_take_at L i l hl
    obtain ⟨u, u1, u2, rfl⟩ := mem_drop_at R j r hr
    obtain ⟨q1, q2⟩ := h2 (by omega) (by omega)
    cases e : lt R[u]! L[t]! with
    | false => rfl
    | true =>
      have a := lt_up S e (srt_le S L hL t (i - 1) (by omega) (by omega))
      have b := lt_down S a (srt_le S R hR j u u1 u2)
      rw [q1] at b; exact absurd b (by decide)
end Go.Proofs.Ytjbfjgaghjggpaa.Srt
