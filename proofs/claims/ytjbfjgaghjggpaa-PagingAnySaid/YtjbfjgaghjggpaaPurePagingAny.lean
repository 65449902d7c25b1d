/- PagingAny's plain statement: of at most sixty members, what is held to be alike is so; of more nothing is asked. No memory in sight. -/
import Derived.Test.YtjbfjgaghjggpaaPrx4
import Derived.OpenShut
set_option linter.unusedVariables false
namespace Go.Proofs.Ytjbfjgaghjggpaa.Pure
open Go.RowKit Go.Proofs.Ytjbfjgaghjggpaa.Pr

theorem any_l0 (l : List S32) (hl : l.length ≤ 60) (a1 a2 a3 : Int) (w1 : (Lit.int .i64 a1).wf = true) (w2 : (Lit.int .i64 a2).wf = true) (w3 : (Lit.int .i64 a3).wf = true) (d : Nat) : ∀ (i : Nat) (x9 : List S32), i ≤ l.length → x9.length = i → l.length - i = d → broadsheetlaw22_PagingAny.l0 (d + 1) l a1 a2 a3 x9 (i : Int) = some true := by
  induction d with
  | zero =>
    intro i x9 hi hx hd
    simp only [broadsheetlaw22_PagingAny.l0]
    rw [if_neg (by omega)]
    unfold Gv.broadsheetlaw22_awake.f Gv.broadsheetlaw22_same.f
    simp only [Option.bind_some, if_true]
    have h1 := Go.bounds_i64 w1
    have h2 := Go.bounds_i64 w2
    have h3 := Go.bounds_i64 w3
    rw [if_pos (by omega)]
    rfl
  | succ d ih =>
    intro i x9 hi hx hd
    obtain ⟨m, hm⟩ : ∃ m, m = d + 1 := ⟨_, rfl⟩
    rw [← hm]
    simp only [broadsheetlaw22_PagingAny.l0]
    have hw : wrap64 ((i : Int) + 1) = ((i + 1 : Nat) : Int) := by unfold wrap64; omega
    rw [if_pos (by omega), if_pos (by omega), if_pos (by omega), hw, hm]
    exact ih (i + 1) _ (by omega) (by simp [hx]) (by omega)

theorem PagingAny (l : List S32) (a1 a2 a3 : Int) (w1 : (Lit.int .i64 a1).wf = true) (w2 : (Lit.int .i64 a2).wf = true) (w3 : (Lit.int .i64 a3).wf = true) : ∃ k, broadsheetlaw22_PagingAny.f k l a1 a2 a3 = some true := by
  refine ⟨l.length + 1, ?_⟩
  unfold broadsheetlaw22_PagingAny.f
  by_cases c : (l.length : Int) > 60
  · rw [if_pos c]; rfl
  · rw [if_neg c]; exact any_l0 l (by omega) a1 a2 a3 w1 w2 w3 l.length 0 [] (by omega) rfl (by omega)
end Go.Proofs.Ytjbfjgaghjggpaa.Pure
