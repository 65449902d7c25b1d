/- The order of instants, and that awake answers yes. -/
import Derived.Test.YtfcmdameiabjmaaDoorPri
import Derived.Test.YtfcmdameiabjmaaDoorPrx3
set_option linter.unusedVariables false
namespace Go.Proofs.YtfcmdameiabjmaaDoor.Fun
open Go.RowKit Go.Proofs.YtfcmdameiabjmaaDoor.Pr Go.Proofs.YtfcmdameiabjmaaDoorW.PrintWords Go.Proofs.YtfcmdameiabjmaaDoorW.PrintLast Go.Proofs.YtfcmdameiabjmaaDoorW.PrintMore
open Go.Proofs.YtfcmdameiabjmaaDoor.Txt

def cmpI (a b : Int) : Int := if a < b then -1 else if a > b then 1 else 0
theorem compare_eq (a b : Int) : cmp_Compare_int.f a b = some (cmpI a b) := by
  unfold cmp_Compare_int.f cmpI
  have h : ∀ x, cmp_isNaN_int.f x = some false := by intro x; unfold cmp_isNaN_int.f; simp
  rw [h, h]
  simp only [Option.bind_some]
  rw [if_neg (by simp), if_neg (by simp)]
  by_cases h1 : a < b
  · rw [if_pos h1, if_pos h1]
  · rw [if_neg h1, if_neg h1]
    by_cases h2 : a > b
    · rw [if_pos h2, if_pos h2]
    · rw [if_neg h2, if_neg h2]
def cmpR (a b c d : Int) : Int := if cmpI a c = 0 then cmpI b d else cmpI a c
theorem cmp_eq (k : Nat) (hk : 10 ≤ k) (a b c d : Int) : date_Cmp.f k a b c d = some (cmpR a b c d) := by
  unfold date_Cmp.f
  rw [compare_eq, compare_eq]
  simp only [Option.bind_some]
  unfold cmpR
  generalize cmpI a c = x
  generalize cmpI b d = y
  unfold cmp_Or_int.f
  obtain ⟨k, rfl⟩ : ∃ q, k = q + 3 := ⟨k - 3, by omega⟩
  have r0 : rd [x, y] 0 = x := rfl
  have r1 : rd [x, y] 1 = y := rfl
  have w1 : wrap64 (0 + 1) = 1 := w64 (n := 0 + 1) (by omega)
  have w2 : wrap64 (1 + 1) = 2 := w64 (n := 1 + 1) (by omega)
  simp only [cmp_Or_int.l0]
  show (if (0 : Int) < 2 then if (0 : Int) ≤ 0 then if (0 : Int) < 2 then _ else none else none else _).bind _ = _
  rw [if_pos (by decide), if_pos (by decide), if_pos (by decide), r0]
  by_cases h : x = 0
  · rw [if_pos h, if_pos h, w1]
    show (if (1 : Int) < 2 then if (0 : Int) ≤ 1 then if (1 : Int) < 2 then _ else none else none else _).bind _ = _
    rw [if_pos (by decide), if_pos (by decide), if_pos (by decide), r1, w2]
    by_cases h2 : y = 0
    · rw [if_pos h2, h2]
      rfl
    · rw [if_neg h2]; rfl
  · rw [if_neg h, if_neg h]; rfl

theorem wf_bd {k : IntKind} {n : Int} (h : (Lit.int k n).wf = true) : k.min ≤ n ∧ n ≤ k.max := by unfold Lit.wf at h; simpa using h
theorem wf8 {n : Int} (h : (Lit.int .u8 n).wf = true) : 0 ≤ n ∧ n ≤ 255 := wf_bd h
theorem wf16 {n : Int} (h : (Lit.int .u16 n).wf = true) : 0 ≤ n ∧ n ≤ 65535 := wf_bd h
theorem wf32 {n : Int} (h : (Lit.int .u32 n).wf = true) : 0 ≤ n ∧ n ≤ 4294967295 := wf_bd h
theorem awake_p1 : parseR (⟨#[49, 57, 55, 48, 45, 48, 49, 45, 48, 50, 84, 48, 48, 58, 48, 48, 58, 48, 48, 46, 53, 43, 48, 49, 58, 48, 48]⟩ : ByteArray) = (82800, 500000000, 0) := by decide +kernel
theorem awake_p2 : parseR (⟨#[49, 57, 55, 48, 45, 48, 50, 45, 50, 57, 84, 48, 48, 58, 48, 48, 58, 48, 48, 90]⟩ : ByteArray) = (0, 0, 110) := by decide +kernel
theorem awake_pr : printT 0 0 = (⟨#[49, 57, 55, 48, 45, 48, 49, 45, 48, 49, 84, 48, 48, 58, 48, 48, 58, 48, 48, 90]⟩ : ByteArray) := by
  have h1 : civN 0 = (1970, 1, 1) := by decide
  have h2 : secN 0 = 0 := by decide
  have a0 : padL 0 2 = [48, 48] := by simp [padL, Lib.itoa, Lib.decDigits]
  have a1 : padL 1 2 = [48, 49] := by simp [padL, Lib.itoa, Lib.decDigits]
  have a2 : padL 1970 4 = [49, 57, 55, 48] := by simp [padL, Lib.itoa, Lib.decDigits]
  unfold printT headT
  rw [if_neg (by decide), h1, h2]
  show headB (mk (padL 1970 4)) (mk (padL 1 2)) (mk (padL 1 2)) (mk (padL 0 2)) (mk (padL 0 2)) (mk (padL 0 2)) ++ _ = _
  rw [a0, a1, a2]
  decide +kernel

theorem awake_eq (k : Nat) (hk : 10 ≤ k) : broadsheetlaw11_awake.f k = some true := by
  unfold broadsheetlaw11_awake.f date_Parse.f
  have r : inR 0 0 := by unfold inR; decide
  rw [if_pos (by decide), if_pos (by decide), awake_p1, awake_p2, print_ok k (by omega) 0 0 r, awake_pr]
  simp only [Option.bind_some]
  rw [cmp_eq k hk]
  rw [toList_data]
  rfl
end Go.Proofs.YtfcmdameiabjmaaDoor.Fun
