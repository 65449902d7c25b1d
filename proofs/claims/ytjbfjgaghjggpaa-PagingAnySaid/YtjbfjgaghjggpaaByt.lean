/- Texts byte by byte: less, equal, greater. No memory in sight. -/
import Derived.WalkKit
namespace Go.Proofs.Ytjbfjgaghjggpaa.Byt
theorem bl_tri : ∀ (a b : List UInt8), (Op.bytesLess a b = true ∧ Op.bytesLess b a = false ∧ (a == b) = false ∧ (b == a) = false) ∨ (a = b ∧ Op.bytesLess a b = false) ∨ (Op.bytesLess a b = false ∧ Op.bytesLess b a = true ∧ (a == b) = false ∧ (b == a) = false)
  | [], [] => Or.inr (Or.inl ⟨rfl, rfl⟩)
  | [], _ :: _ => Or.inl ⟨rfl, rfl, rfl, rfl⟩
  | _ :: _, [] => Or.inr (Or.inr ⟨rfl, rfl, rfl, rfl⟩)
  | x :: a, y :: b => by
    by_cases h : x = y
    · subst h
      have e : ¬ x < x := by rw [UInt8.lt_iff_toNat_lt]; omega
      rcases bl_tri a b with ⟨h1, h2, h3, h4⟩ | ⟨h1, h2⟩ | ⟨h1, h2, h3, h4⟩
      · refine Or.inl ⟨?_, ?_, ?_, ?_⟩
        · simp [Op.bytesLess, h1]
        · simp [Op.bytesLess, h2, e]
        · simpa using h3
        · simpa using h4
      · subst h1
        exact Or.inr (Or.inl ⟨rfl, by simp [Op.bytesLess, h2, e]⟩)
      · refine Or.inr (Or.inr ⟨?_, ?_, ?_, ?_⟩)
        · simp [Op.bytesLess, h1, e]
        · simp [Op.bytesLess, h2]
        · simpa using h3
        · simpa using h4
    · have h2 : ¬ y = x := fun e => h e.symm
      have ht : x.toNat ≠ y.toNat := fun e => h (UInt8.toNat_inj.1 e)
      rcases Nat.lt_or_gt_of_ne ht with g | g
      · have g1 : x < y := by rw [UInt8.lt_iff_toNat_lt]; exact g
        have g2 : ¬ y < x := by rw [UInt8.lt_iff_toNat_lt]; omega
        exact Or.inl ⟨by simp [Op.bytesLess, g1], by simp [Op.bytesLess, g2, h2], by simp [h], by simp [h2]⟩
      · have g1 : y < x := by rw [UInt8.lt_iff_toNat_lt]; exact g
        have g2 : ¬ x < y := by rw [UInt8.lt_iff_toNat_lt]; omega
        exact Or.inr (Or.inr ⟨by simp [Op.bytesLess, g2, h], by simp [Op.bytesLess, g1], by simp [h], by simp [h2]⟩)
theorem bl_true {a b : List UInt8} (h : Op.bytesLess a b = true) : Op.bytesLess b a = false ∧ (b == a) = false := by
  rcases bl_tri a b with ⟨_, h2, _, h4⟩ | ⟨_, h2⟩ | ⟨h2, _⟩
  · exact ⟨h2, h4⟩
  · rw [h2] at h; cases h
  · rw [h2] at h; cases h
theorem bl_false {a b : List UInt8} (h : Op.bytesLess a b = false) : (!Op.bytesLess b a && !(b == a)) = false := by
  rcases bl_tri a b with ⟨h2, _⟩ | ⟨h1, h2⟩ | ⟨_, h2, _⟩
  · rw [h2] at h; cases h
  · subst h1; simp
  · rw [h2]; rfl
end Go.Proofs.Ytjbfjgaghjggpaa.Byt
