/- DateSmall: what the law's function answers, in plain Lean. -/
import Derived.Test.YtfcmdameiabjmaaDoorAwk
import Derived.Test.YtfcmdameiabjmaaDoorParD
import Derived.Test.YtfcmdameiabjmaaDoorPrx12
set_option linter.unusedVariables false
namespace Go.Proofs.YtfcmdameiabjmaaDoor.Pure
open Go.RowKit Go.Proofs.YtfcmdameiabjmaaDoor.Pr Go.Proofs.YtfcmdameiabjmaaDoorW.PrintWords Go.Proofs.YtfcmdameiabjmaaDoorW.PrintLast Go.Proofs.YtfcmdameiabjmaaDoor.Fun
theorem dparse (s : ByteArray) (h : s.size ≤ 140737488351232) : Go.Proofs.YtfcmdameiabjmaaDoor.Txt.date_Parse.f s = some (Go.Proofs.YtfcmdameiabjmaaDoor.Txt.parseR s) := by
  unfold Go.Proofs.YtfcmdameiabjmaaDoor.Txt.date_Parse.f
  rw [if_pos h]
def tails : List ByteArray := [(⟨#[90]⟩ : ByteArray), (⟨#[43, 48, 49, 58, 48, 48]⟩ : ByteArray), (⟨#[45, 50, 51, 58, 53, 57]⟩ : ByteArray), (⟨#[43, 50, 52, 58, 48, 48]⟩ : ByteArray), (⟨#[46, 53, 90]⟩ : ByteArray), (⟨#[46, 49, 50, 51, 52, 53, 54, 55, 56, 57, 90]⟩ : ByteArray), (⟨#[46, 49, 50, 51, 52, 53, 54, 55, 56, 57, 48, 90]⟩ : ByteArray), (⟨#[46]⟩ : ByteArray), (⟨#[122]⟩ : ByteArray), (⟨#[]⟩ : ByteArray)]
def seps : List ByteArray := [(⟨#[45]⟩ : ByteArray), (⟨#[45]⟩ : ByteArray), (⟨#[84]⟩ : ByteArray), (⟨#[58]⟩ : ByteArray), (⟨#[58]⟩ : ByteArray)]
theorem size_getD (l : List ByteArray) (n : Nat) (h : ∀ x ∈ l, x.size ≤ n) (i : Int) : (rdOf ByteArray.empty l i).size ≤ n := by
  unfold rdOf
  rw [List.getD_eq_getElem?_getD]
  cases hq : l[i.toNat]? with
  | none => show ByteArray.empty.size ≤ n; exact Nat.zero_le _
  | some x => exact h x (List.mem_of_getElem? hq)
theorem size_seps (i : Int) : (rdOf ByteArray.empty seps i).size ≤ 1 := size_getD seps 1 (by decide) i
theorem size_tails (i : Int) : (rdOf ByteArray.empty tails i).size ≤ 12 := size_getD tails 12 (by decide) i
theorem two_size (x : Int) : ∃ t, broadsheetlaw11_two.f x = some t ∧ t.size = 2 := ⟨_, rfl, rfl⟩
/-- The last step: both read the text alike. -/
theorem small_end (k : Nat) (hk : 5000 ≤ k) (s : ByteArray) (hs : s.size ≤ 900) :
    ((Go.Proofs.YtfcmdameiabjmaaDoor.Txt.date_Parse.f s).bind fun bt => ((broadsheetref11_Parse.f k s).bind fun bt1 => ((broadsheetlaw11_awake.f k).bind fun t => (if t = true then (if (bt.1 == bt1.1 && (bt.2.1 == bt1.2.1)) = true then (some (bt.2.2 == bt1.2.2)) else (some false)) else (some false))))) = some true := by
  rw [dparse s (by omega), rparse_eq s hs k (by omega), awake_eq k (by omega)]
  simp
theorem small_tail (k : Nat) (hk : 5000 ≤ k) (x2 : Int) (h0 : 0 ≤ x2) (h1 : x2 ≤ 255) (x7 : ByteArray) (hs : x7.size ≤ 100) :
    ((some tails).bind fun y269 => (if (y269.length : Int) = 0 then (none) else (if 0 ≤ (Int.tmod (wrap64 (x2)) (y269.length : Int)) then (if (Int.tmod (wrap64 (x2)) (y269.length : Int)) < (y269.length : Int) then (if x7.size + (rdOf ByteArray.empty y269 (Int.tmod (wrap64 (x2)) (y269.length : Int))).size ≤ 9223372036854775807 then ((Go.Proofs.YtfcmdameiabjmaaDoor.Txt.date_Parse.f (x7 ++ (rdOf ByteArray.empty y269 (Int.tmod (wrap64 (x2)) (y269.length : Int))))).bind fun bt273 => ((broadsheetref11_Parse.f k (x7 ++ (rdOf ByteArray.empty y269 (Int.tmod (wrap64 (x2)) (y269.length : Int))))).bind fun bt277 => ((broadsheetlaw11_awake.f k).bind fun t281 => (if t281 = true then (if (bt273.1 == bt277.1 && (bt273.2.1 == bt277.2.1)) = true then (some (bt273.2.2 == bt277.2.2)) else (some false)) else (some false))))) else (none)) else (none)) else (none)))) = some true := by
  have hl : (tails.length : Int) = 10 := rfl
  simp only [Option.bind_some]
  rw [hl, w64 (n := x2) (by omega), tm h0]
  have ht := size_tails (x2 % 10)
  rw [if_neg (by decide), if_pos (by omega), if_pos (by omega), if_pos (by omega)]
  exact small_end k hk _ (by rw [ByteArray.size_append]; omega)
theorem small_loop (x1 : List Int) (x2 : Int) (h0 : 0 ≤ x2) (h1 : x2 ≤ 255) (q : Nat) : ∀ (k : Nat) (j : Int) (x7 : ByteArray), 0 ≤ j → j ≤ 5 → (5 - j).toNat = q → q + 5100 ≤ k → x7.size ≤ 4 + 3 * j.toNat → broadsheetlaw11_DateSmall.l0 k x1 x2 x7 seps j = some true := by
  induction q with
  | zero =>
    intro k j x7 hj hj2 hq hk hs
    obtain ⟨k, rfl⟩ : ∃ q, k = q + 1 := ⟨k - 1, by omega⟩
    simp only [broadsheetlaw11_DateSmall.l0]
    by_cases hx : j < (x1.length : Int)
    · rw [if_pos hx, if_neg (by omega)]
      exact small_tail k (by omega) x2 h0 h1 x7 (by omega)
    · rw [if_neg hx]
      exact small_tail k (by omega) x2 h0 h1 x7 (by omega)
  | succ q ih =>
    intro k j x7 hj hj2 hq hk hs
    obtain ⟨k, rfl⟩ : ∃ q, k = q + 1 := ⟨k - 1, by omega⟩
    have hl : (seps.length : Int) = 5 := rfl
    simp only [broadsheetlaw11_DateSmall.l0]
    by_cases hx : j < (x1.length : Int)
    · have he := size_seps j
      obtain ⟨t, e1, e2⟩ := two_size (Int.tmod (rd x1 j) 64)
      rw [if_pos hx, if_pos (by omega), if_pos (by omega), hl, if_pos (by omega), if_pos (by omega), e1]
      simp only [Option.bind_some]
      rw [if_pos (by rw [ByteArray.size_append]; omega), w64 (by omega)]
      exact ih k (j + 1) _ (by omega) (by omega) (by omega) (by omega) (by rw [ByteArray.size_append, ByteArray.size_append]; omega)
    · rw [if_neg hx]
      exact small_tail k (by omega) x2 h0 h1 x7 (by omega)
theorem DateSmall : broadsheetlaw11_DateSmall.Pure := by
  intro a l b _ _ _ _ hb
  refine ⟨6000, ?_⟩
  have hb' : 0 ≤ b ∧ b ≤ 255 := wf8 hb
  unfold broadsheetlaw11_DateSmall.f
  obtain ⟨t, e1, e2⟩ := two_size ((Int.tmod (IntKind.u16.wrap (Int.tdiv a 100)) 100) % 256)
  obtain ⟨u, f1, f2⟩ := two_size ((Int.tmod a 100) % 256)
  rw [e1, f1]
  simp only [Option.bind_some]
  rw [if_pos (by omega)]
  exact small_loop l b hb'.1 hb'.2 5 6000 0 (t ++ u) (by omega) (by omega) rfl (by omega) (by rw [ByteArray.size_append]; omega)
end Go.Proofs.YtfcmdameiabjmaaDoor.Pure
