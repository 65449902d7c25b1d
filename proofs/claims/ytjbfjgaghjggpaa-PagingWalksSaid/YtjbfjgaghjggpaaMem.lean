/- What the laws' members are, of numbers. No memory in sight. -/
import Derived.Test.YtjbfjgaghjggpaaPrx2
set_option linter.unusedVariables false
namespace Go.Proofs.Ytjbfjgaghjggpaa.Mem
open Go.RowKit Go.Proofs.Ytjbfjgaghjggpaa.Pr Go.Proofs.YtjbfjgaghjggpaaW.PrintWords

/-- Member i. -/
def mem (l : List S47) (i : Nat) : S32 := ⟨Int.tmod (wrap64 ((rd_T47 l i).f0)) 40, Int.tmod (wrap64 ((rd_T47 l i).f1)) 6, strOfNums (([(wrap64 (65 + (i : Int))) % 256] : List Int)), (⟨0, (⟨#[]⟩ : ByteArray), (⟨#[]⟩ : ByteArray), ([] : List (S59)), ([] : List (S30)), (⟨#[]⟩ : ByteArray)⟩ : S30)⟩
def mems (l : List S47) (n : Nat) : List S32 := (List.range n).map (mem l)
theorem mems_len (l : List S47) (n : Nat) : (mems l n).length = n := by simp [mems]
theorem mems_snoc (l : List S47) (n : Nat) : mems l (n + 1) = mems l n ++ [mem l n] := by simp [mems, List.range_succ]
theorem members_l (l : List S47) (d : Nat) : ∀ i : Nat, i ≤ l.length → i ≤ 60 → min l.length 60 - i = d → broadsheetlaw22_Members.l0 (d + 1) l (mems l i) (i : Int) = some (mems l (min l.length 60)) := by
  induction d with
  | zero =>
    intro i h1 h2 hd
    have hi : i = min l.length 60 := by omega
    simp only [broadsheetlaw22_Members.l0]
    rw [← hi]
    by_cases c : (i : Int) < (l.length : Int)
    · rw [if_pos c, if_neg (by omega)]
    · rw [if_neg c]
  | succ d ih =>
    intro i h1 h2 hd
    obtain ⟨m, hm⟩ : ∃ m, m = d + 1 := ⟨_, rfl⟩
    rw [← hm]
    simp only [broadsheetlaw22_Members.l0]
    rw [if_pos (by omega), if_pos (by omega), if_pos (by omega), mems_len, if_pos (by omega)]
    have hw : wrap64 ((i : Int) + 1) = ((i + 1 : Nat) : Int) := by unfold wrap64; omega
    rw [hw, hm]
    have := ih (i + 1) (by omega) (by omega) (by omega)
    rw [mems_snoc] at this
    exact this
theorem members_f (l : List S47) : ∃ k, broadsheetlaw22_Members.f k l = some (mems l (min l.length 60)) :=
  ⟨min l.length 60 + 1, members_l l (min l.length 60) 0 (Nat.zero_le _) (Nat.zero_le _) rfl⟩
end Go.Proofs.Ytjbfjgaghjggpaa.Mem
