/- A node stands to itself as the same, and this comes to an end. No memory in sight, but for where nodes come from. -/
import Derived.Test.YtjbfjgaghjggpaaPrx5
set_option linter.unusedVariables false
namespace Go.Proofs.Ytjbfjgaghjggpaa.Eq9
open Go.RowKit Go.Proofs.Ytjbfjgaghjggpaa.Pr Go.Proofs.YtjbfjgaghjggpaaW.PrintWords

abbrev fS (k : Nat) (x y : S30) : Option Bool := broadsheetref09_Same.f k x.f0 x.f1 x.f2 x.f3 x.f4 x.f5 y.f0 y.f1 y.f2 y.f3 y.f4 y.f5

theorem eq_true (k : Nat) : (∀ (x : S30) (t : Bool), fS k x x = some t → t = true) ∧
    (∀ (i : Int) (x : S30) (t : Bool), broadsheetref09_Same.l0 k i x.f0 x.f1 x.f2 x.f3 x.f4 x.f5 x.f0 x.f1 x.f2 x.f3 x.f4 x.f5 = some t → t = true) ∧
    (∀ (i : Int) (x : S30) (t : Bool), broadsheetref09_Same.l1 k i x.f0 x.f1 x.f2 x.f3 x.f4 x.f5 x.f0 x.f1 x.f2 x.f3 x.f4 x.f5 = some t → t = true) ∧
    (∀ (x : S30) (t : Bool), broadsheetref09_Same.j0 k false x.f0 x.f1 x.f2 x.f3 x.f4 x.f5 x.f0 x.f1 x.f2 x.f3 x.f4 x.f5 = some t → t = true) := by
  induction k with
  | zero =>
    refine ⟨fun x t h => ?_, fun i x t h => ?_, fun i x t h => ?_, fun x t h => ?_⟩
    · simp [fS, broadsheetref09_Same.f] at h
    · simp [broadsheetref09_Same.l0] at h
    · simp [broadsheetref09_Same.l1] at h
    · simp [broadsheetref09_Same.j0] at h
  | succ k ih =>
    obtain ⟨i1, i2, i3, i4⟩ := ih
    refine ⟨fun x t h => ?_, fun i x t h => ?_, fun i x t h => ?_, fun x t h => ?_⟩
    · simp only [fS, broadsheetref09_Same.f, if_true, bne_self_eq_false] at h
      exact i4 x t h
    · simp only [broadsheetref09_Same.l0] at h
      by_cases c1 : i < (x.f3.length : Int)
      · rw [if_pos c1] at h
        by_cases c2 : 0 ≤ i
        · rw [if_pos c2, if_pos c1] at h
          simp only [beq_self_eq_true, Bool.not_true, Bool.or_false] at h
          rw [if_neg (by decide)] at h
          exact i2 _ x t h
        · rw [if_neg c2] at h; cases h
      · rw [if_neg c1] at h
        exact i3 _ x t h
    · simp only [broadsheetref09_Same.l1] at h
      by_cases c1 : i < (x.f4.length : Int)
      · rw [if_pos c1] at h
        by_cases c2 : 0 ≤ i
        · rw [if_pos c2, if_pos c1] at h
          obtain ⟨b, hb, h⟩ := Option.bind_eq_some_iff.mp h
          obtain rfl := i1 _ b hb
          rw [if_pos rfl] at h
          exact i3 _ x t h
        · rw [if_neg c2] at h; cases h
      · rw [if_neg c1] at h
        exact (Option.some.inj h).symm
    · simp only [broadsheetref09_Same.j0] at h
      rw [if_neg (by decide)] at h
      exact i2 _ x t h

/-- A node of finite depth, its lists no longer than may be. -/
inductive Fin30 : S30 → Prop
  | mk (x : S30) : x.f3.length ≤ 9223372036854775807 → x.f4.length ≤ 9223372036854775807 → (∀ y ∈ x.f4, Fin30 y) → Fin30 x

theorem fS_mono (x y : S30) (k : Nat) : LeO (fS k x y) (fS (k + 1) x y) := broadsheetref09_Same.mono _ _ _ _ _ _ _ _ _ _ _ _ k
theorem all_at (l : List S30) (h : ∀ y ∈ l, ∃ k, fS k y y = some true) : ∃ K, ∀ y ∈ l, ∀ k, K ≤ k → fS k y y = some true := by
  induction l with
  | nil => exact ⟨0, fun y hy => by simp at hy⟩
  | cons x l ih =>
    obtain ⟨K, hK⟩ := ih (fun y hy => h y (List.mem_cons_of_mem _ hy))
    obtain ⟨k0, h0⟩ := h x (List.mem_cons_self ..)
    refine ⟨max K k0, fun y hy k hk => ?_⟩
    rcases List.mem_cons.1 hy with rfl | hy
    · exact at_rounds (g := fun k => fS k y y) (fS_mono y y) (by omega) h0
    · exact hK y hy k (by omega)
theorem wrap_succ {i : Int} {n : Nat} (h0 : 0 ≤ i) (h : i < (n : Int)) (hn : n ≤ 9223372036854775807) : wrap64 (i + 1) = i + 1 := by
  unfold wrap64
  omega
theorem kids_end (x : S30) (K : Nat) (hn : x.f4.length ≤ 9223372036854775807) (hK : ∀ y ∈ x.f4, ∀ k, K ≤ k → fS k y y = some true) (d : Nat) : ∀ (i : Int), 0 ≤ i → i ≤ x.f4.length → (x.f4.length : Int) - i = d →
    broadsheetref09_Same.l1 (K + d + 1) i x.f0 x.f1 x.f2 x.f3 x.f4 x.f5 x.f0 x.f1 x.f2 x.f3 x.f4 x.f5 = some true := by
  induction d with
  | zero =>
    intro i h0 h1 hd
    simp only [broadsheetref09_Same.l1]
    rw [if_neg (by omega)]
  | succ d ih =>
    intro i h0 h1 hd
    have hlt : i < (x.f4.length : Int) := by omega
    have e : K + (d + 1) + 1 = (K + d + 1) + 1 := by omega
    rw [e]
    obtain ⟨m, hmm⟩ : ∃ m, m = K + d + 1 := ⟨_, rfl⟩
    rw [← hmm]
    simp only [broadsheetref09_Same.l1]
    rw [hmm]
    rw [if_pos hlt, if_pos h0, if_pos hlt]
    have hm : rd_T30 x.f4 i ∈ x.f4 := by
      unfold rd_T30
      rw [List.getD_eq_getElem?_getD, List.getElem?_eq_getElem (by omega)]
      exact List.getElem_mem _
    have h2 := hK _ hm (K + d + 1) (by omega)
    unfold fS at h2
    rw [h2]
    simp only [Option.bind_some, if_true]
    rw [wrap_succ h0 hlt hn]
    exact ih (i + 1) (by omega) (by omega) (by omega)
theorem attrs_end (x : S30) (k0 : Nat) (hn : x.f3.length ≤ 9223372036854775807) (h : broadsheetref09_Same.l1 k0 0 x.f0 x.f1 x.f2 x.f3 x.f4 x.f5 x.f0 x.f1 x.f2 x.f3 x.f4 x.f5 = some true) (d : Nat) : ∀ (i : Int), 0 ≤ i → i ≤ x.f3.length → (x.f3.length : Int) - i = d →
    broadsheetref09_Same.l0 (k0 + d + 1) i x.f0 x.f1 x.f2 x.f3 x.f4 x.f5 x.f0 x.f1 x.f2 x.f3 x.f4 x.f5 = some true := by
  induction d with
  | zero =>
    intro i h0 h1 hd
    simp only [broadsheetref09_Same.l0]
    rw [if_neg (by omega)]
    exact h
  | succ d ih =>
    intro i h0 h1 hd
    have hlt : i < (x.f3.length : Int) := by omega
    have e : k0 + (d + 1) + 1 = (k0 + d + 1) + 1 := by omega
    rw [e]
    obtain ⟨m, hmm⟩ : ∃ m, m = k0 + d + 1 := ⟨_, rfl⟩
    rw [← hmm]
    simp only [broadsheetref09_Same.l0]
    rw [hmm]
    rw [if_pos hlt, if_pos h0, if_pos hlt]
    simp only [beq_self_eq_true, Bool.not_true, Bool.or_false]
    rw [if_neg (by decide), wrap_succ h0 hlt hn]
    exact ih (i + 1) (by omega) (by omega) (by omega)
theorem fin_end {x : S30} (h : Fin30 x) : ∃ k, fS k x x = some true := by
  induction h with
  | mk x h3 h4 hk ih =>
    obtain ⟨K, hK⟩ := all_at x.f4 ih
    have a := kids_end x K h4 hK x.f4.length 0 (by omega) (by omega) (by omega)
    have b := attrs_end x _ h3 a x.f3.length 0 (by omega) (by omega) (by omega)
    refine ⟨K + x.f4.length + 1 + x.f3.length + 1 + 1 + 1, ?_⟩
    simp only [fS, broadsheetref09_Same.f, if_true, bne_self_eq_false]
    simp only [broadsheetref09_Same.j0]
    rw [if_neg (by decide)]
    exact b

theorem upto_fin (n : Nat) : ∀ (w : World) (x : S30) (cs : List Value), (Kd.upto F30 6 [30, 59] n).K w x cs → Fin30 x := by
  induction n with
  | zero => intro w x cs h; exact h.elim
  | succ n ih =>
    intro w x cs h
    obtain ⟨_, _, rfl, rfl, ⟨_, _, rfl, rfl, ⟨_, _, rfl, rfl, ⟨_, _, rfl, ⟨A3, c3, rfl, l3, g3⟩, ⟨_, _, rfl, ⟨A4, c4, rfl, l4, g4⟩, rfl⟩⟩⟩⟩⟩ := h
    refine Fin30.mk x g3.2.1 g4.2.1 (fun y hy => ?_)
    obtain ⟨j, hj⟩ := List.mem_iff_getElem?.1 hy
    have hp : 0 < x.f4.length := by have := (List.getElem?_eq_some_iff.1 hj).1; omega
    obtain ⟨ad, _, hc⟩ := g4.2.2 hp
    obtain ⟨c, _, hK, _⟩ := hc j y hj
    exact ih w y c hK
theorem k30_fin {w : World} {x : S30} {cs : List Value} (h : k30.K w x cs) : Fin30 x := by
  obtain ⟨n, h⟩ := h
  exact upto_fin n w x cs h
end Go.Proofs.Ytjbfjgaghjggpaa.Eq9
