/- Numbers written out to a width: the reference's, and what date.pad writes. -/
import Derived.Test.YtfcmdameiabjmaaDoorFun
set_option linter.unusedVariables false
namespace Go.Proofs.YtfcmdameiabjmaaDoor.Fun
open Go.RowKit Go.Proofs.YtfcmdameiabjmaaDoor.Pr Go.Proofs.YtfcmdameiabjmaaDoorW.PrintWords Go.Proofs.YtfcmdameiabjmaaDoorW.PrintLast Go.Proofs.YtfcmdameiabjmaaDoorW.PrintMore
open Go.Proofs.YtfcmdameiabjmaaDoor.Txt

def mk (l : List UInt8) : ByteArray := ⟨l.toArray⟩
theorem mk_list (l : List UInt8) : (mk l).data.toList = l := rfl
theorem mk_size (l : List UInt8) : (mk l).size = l.length := Lib.size_mk l
theorem mk_app (a b : List UInt8) : mk a ++ mk b = mk (a ++ b) := by
  apply rs_ext
  rw [ByteArray.data_append, Array.toList_append]
  rfl
theorem ba_mk (s : ByteArray) : s = mk s.data.toList := rs_ext _ _ rfl

theorem date_pad_eq (n : Int) (c : Nat) (hc : c ≤ 100) (h0 : 0 ≤ n) (h1 : n ≤ 999999999999) : date_pad.f n c = some (mk (padL n c)) := by
  unfold date_pad.f
  rw [if_pos h0, if_pos h1, if_pos (by omega), if_pos (by omega)]
  rfl

/-! ### What such a text is, read -/
theorem dec_all (u : Nat) : allDig (Lib.decDigits u) = true := by
  induction u using Nat.strongRecOn with
  | _ u ih =>
    have one : ∀ x, x < 10 → isDig (UInt8.ofNat (48 + x)) = true := by
      intro x hx
      rw [isDig_iff]
      have : (UInt8.ofNat (48 + x)).toNat = 48 + x := by simp; omega
      omega
    by_cases h : u < 10
    · rw [Lib.decDigits, dif_pos h]
      show (isDig _ && true) = true
      rw [one u h]; rfl
    · rw [Lib.decDigits, dif_neg h]
      have := ih (u / 10) (by omega)
      unfold allDig at this ⊢
      rw [List.all_append, this]
      rw [List.all_cons, List.all_nil, one (u % 10) (by omega)]; rfl
theorem dec_val (u : Nat) : val (Lib.decDigits u) = u := by
  induction u using Nat.strongRecOn with
  | _ u ih =>
    have one : ∀ x, x < 10 → (UInt8.ofNat (48 + x)).toNat - 48 = x := by
      intro x hx
      have : (UInt8.ofNat (48 + x)).toNat = 48 + x := by simp; omega
      omega
    by_cases h : u < 10
    · rw [Lib.decDigits, dif_pos h]
      show 0 * 10 + ((UInt8.ofNat (48 + u)).toNat - 48) = u
      rw [one u h]; omega
    · rw [Lib.decDigits, dif_neg h, val_snoc, ih (u / 10) (by omega), one (u % 10) (by omega)]
      omega
theorem dec_len (c u : Nat) (hc : 1 ≤ c) (h : u < 10 ^ c) : (Lib.decDigits u).length ≤ c := by
  rw [Lib.decDigits_length]
  induction c generalizing u with
  | zero => omega
  | succ c ih =>
    by_cases h9 : u < 10
    · rw [Lib.nDigits_small h9]; omega
    · rw [Lib.nDigits_big h9]
      cases c with
      | zero => simp at h; omega
      | succ c =>
        have := ih (u / 10) (by omega) (by rw [Nat.pow_succ] at h; omega)
        omega
theorem val_noughts (a : Nat) (l : List UInt8) : val (List.replicate a 48 ++ l) = val l := by
  induction a with
  | zero => rfl
  | succ a ih => rw [List.replicate_succ, List.cons_append]; exact ih
theorem padL_facts (n : Int) (c : Nat) (hc : 1 ≤ c) (h0 : 0 ≤ n) (h1 : n < ((10 ^ c : Nat) : Int)) : (padL n c).length = c ∧ allDig (padL n c) = true ∧ ((val (padL n c) : Nat) : Int) = n := by
  obtain ⟨u, rfl⟩ : ∃ u : Nat, n = u := ⟨n.toNat, by omega⟩
  unfold padL
  rw [Lib.itoa_nonneg]
  have hl := dec_len c u hc (by omega)
  refine ⟨by rw [List.length_append, List.length_replicate]; omega, ?_, ?_⟩
  · have := dec_all u
    unfold allDig at this ⊢
    rw [List.all_append, this, Bool.and_true, List.all_eq_true]
    intro x hx
    rw [List.eq_of_mem_replicate hx]; rfl
  · rw [val_noughts, dec_val]
end Go.Proofs.YtfcmdameiabjmaaDoor.Fun
