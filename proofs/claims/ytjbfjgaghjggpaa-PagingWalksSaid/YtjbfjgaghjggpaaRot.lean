/- Exchanges of runs, and the turning of two neighbours, as lists. No program in sight. -/
import Derived.Test.YtjbfjgaghjggpaaSwp
set_option linter.unusedVariables false
namespace Go.Proofs.Ytjbfjgaghjggpaa.Srt
open Go.Sort
variable {α : Type} [Inhabited α]

theorem swp_list (d : Array α) (Q M R : List α) (x y : α) (i j : Nat) (h : d.toList = Q ++ x :: (M ++ y :: R)) (hi : i = Q.length) (hj : j = Q.length + 1 + M.length) : (swp d i j).toList = Q ++ y :: (M ++ x :: R) := by
  have hx : d[i]! = x := by
    have : d.toList[i]? = some x := by rw [h, hi]; simp
    rw [Array.getElem?_toList] at this
    rw [Array.getElem!_eq_getD, Array.getD_eq_getD_getElem?, this]; rfl
  have hy : d[j]! = y := by
    have : d.toList[j]? = some y := by
      rw [h, hj, List.getElem?_append_right (by omega), show Q.length + 1 + M.length - Q.length = M.length + 1 by omega]
      simp
    rw [Array.getElem?_toList] at this
    rw [Array.getElem!_eq_getD, Array.getD_eq_getD_getElem?, this]; rfl
  unfold swp
  rw [hx, hy]
  simp only [Array.toList_setIfInBounds, h]
  rw [hi, hj, List.set_append_right _ _ (Nat.le_refl _), Nat.sub_self, List.set_cons_zero, List.set_append_right _ _ (by omega), show Q.length + 1 + M.length - Q.length = M.length + 1 by omega, List.set_cons_succ, List.set_append_right _ _ (Nat.le_refl _), Nat.sub_self, List.set_cons_zero]

theorem swapRun_list (n : Nat) : ∀ (d : Array α) (A X M Y B : List α) (a b : Nat), d.toList = A ++ X ++ M ++ Y ++ B → X.length = n → Y.length = n → a = A.length → b = A.length + n + M.length → (swapRun a b n d).toList = A ++ Y ++ M ++ X ++ B := by
  induction n with
  | zero =>
    intro d A X M Y B a b h hX hY ha hb
    rw [List.length_eq_zero_iff.1 hX, List.length_eq_zero_iff.1 hY] at h ⊢
    exact h
  | succ n ih =>
    intro d A X M Y B a b h hX hY ha hb
    have eX : X ≠ [] := by intro e; rw [e] at hX; simp at hX
    have eY : Y ≠ [] := by intro e; rw [e] at hY; simp at hY
    obtain ⟨X0, x, rfl⟩ : ∃ l c, X = l ++ [c] := ⟨X.dropLast, X.getLast eX, (List.dropLast_concat_getLast eX).symm⟩
    obtain ⟨Y0, y, rfl⟩ : ∃ l c, Y = l ++ [c] := ⟨Y.dropLast, Y.getLast eY, (List.dropLast_concat_getLast eY).symm⟩
    have hX0 : X0.length = n := by simpa using hX
    have hY0 : Y0.length = n := by simpa using hY
    have := ih d A X0 ([x] ++ M) Y0 ([y] ++ B) a b (by rw [h]; simp) hX0 hY0 ha (by rw [hb]; simp; omega)
    unfold swapRun
    rw [swp_list _ (A ++ Y0) (M ++ X0) B x y _ _ (by rw [this]; simp) (by simp; omega) (by simp; omega)]
    simp
/-- The library's turning of two neighbours (i places ahead of m, j from m on). -/
def rotLoop (m : Nat) : Nat → Nat → Nat → Array α → Array α
  | 0, _, _, d => d
  | q + 1, i, j, d => if i = j then swapRun (m - i) m i d else if j < i then rotLoop m q (i - j) j (swapRun (m - i) m j d) else rotLoop m q i (j - i) (swapRun (m - i) (m + j - i) i d)
theorem rotLoop_size (m q : Nat) : ∀ (i j : Nat) (d : Array α), (rotLoop m q i j d).size = d.size := by
  induction q with
  | zero => intro i j d; rfl
  | succ q ih =>
    intro i j d
    unfold rotLoop
    split
    · exact swapRun_size _ _ _ _
    · split
      · rw [ih, swapRun_size]
      · rw [ih, swapRun_size]
theorem rot_list (q : Nat) : ∀ (i j m : Nat) (d : Array α) (A X Y B : List α), i + j ≤ q → 1 ≤ i → 1 ≤ j → d.toList = A ++ X ++ Y ++ B → X.length = i → Y.length = j → m = A.length + i → (rotLoop m q i j d).toList = A ++ Y ++ X ++ B := by
  induction q with
  | zero => intro i j m d A X Y B hq hi; omega
  | succ q ih =>
    intro i j m d A X Y B hq hi hj h hX hY hm
    unfold rotLoop
    by_cases e : i = j
    · rw [if_pos e]
      have := swapRun_list i d A X [] Y B (m - i) m (by rw [h]; simp) hX (by omega) (by omega) (by simp; omega)
      rw [this]; simp
    · rw [if_neg e]
      by_cases g : j < i
      · rw [if_pos g]
        have e1 : X = X.take j ++ X.drop j := (List.take_append_drop j X).symm
        have l1 : (X.take j).length = j := by rw [List.length_take]; omega
        have l2 : (X.drop j).length = i - j := by rw [List.length_drop]; omega
        generalize X.take j = X1 at e1 l1
        generalize X.drop j = X2 at e1 l2
        subst e1
        have s1 := swapRun_list j d A X1 X2 Y B (m - i) m (by rw [h]; simp) l1 hY (by omega) (by omega)
        have s2 := ih (i - j) j m _ (A ++ Y) X2 X1 B (by omega) (by omega) hj s1 l2 l1 (by simp; omega)
        rw [s2]; simp
      · rw [if_neg g]
        have e1 : Y = Y.take (j - i) ++ Y.drop (j - i) := (List.take_append_drop (j - i) Y).symm
        have l1 : (Y.take (j - i)).length = j - i := by rw [List.length_take]; omega
        have l2 : (Y.drop (j - i)).length = i := by rw [List.length_drop]; omega
        generalize Y.take (j - i) = Y1 at e1 l1
        generalize Y.drop (j - i) = Y2 at e1 l2
        subst e1
        have s1 := swapRun_list i d A X Y1 Y2 B (m - i) (m + j - i) (by rw [h]; simp) hX l2 (by omega) (by omega)
        have s2 := ih i (j - i) m (swapRun (m - i) (m + j - i) i d) A Y2 Y1 (X ++ B) (by omega) hi (by omega) (by rw [s1]; simp) l2 l1 hm
        rw [s2]; simp
end Go.Proofs.Ytjbfjgaghjggpaa.Srt
