/- Two rows of the same members are the same, for the document's answer. -/
import Derived.Test.YtjbfjgaghjggpaaEq9
import Derived.Test.YtjbfjgaghjggpaaSam
set_option linter.unusedVariables false
namespace Go.Proofs.Ytjbfjgaghjggpaa.Eq9
open Go.RowKit Go.Proofs.Ytjbfjgaghjggpaa.Pr Go.Proofs.YtjbfjgaghjggpaaW.PrintWords

theorem members_end (l : List S32) (K : Nat) (hn : l.length ≤ 9223372036854775807) (hK : ∀ y ∈ l, ∀ k, K ≤ k → fS k y.f3 y.f3 = some true) (d : Nat) : ∀ (i : Int), 0 ≤ i → i ≤ l.length → (l.length : Int) - i = d → broadsheetref22_Same.l0 (K + d + 1) l l i = some true := by
  induction d with
  | zero =>
    intro i h0 h1 hd
    simp only [broadsheetref22_Same.l0]
    rw [if_neg (by omega)]
  | succ d ih =>
    intro i h0 h1 hd
    have hlt : i < (l.length : Int) := by omega
    have e : K + (d + 1) + 1 = (K + d + 1) + 1 := by omega
    rw [e]
    obtain ⟨m, hmm⟩ : ∃ m, m = K + d + 1 := ⟨_, rfl⟩
    rw [← hmm]
    simp only [broadsheetref22_Same.l0, if_true]
    rw [hmm]
    rw [if_pos hlt, if_pos h0, if_pos hlt]
    have hm : rd_T32 l i ∈ l := by
      unfold rd_T32
      rw [List.getD_eq_getElem?_getD, List.getElem?_eq_getElem (by omega)]
      exact List.getElem_mem _
    have h2 := hK _ hm (K + d + 1) (by omega)
    unfold fS at h2
    rw [h2]
    simp only [Option.bind_some, if_true]
    rw [wrap_succ h0 hlt hn]
    exact ih (i + 1) (by omega) (by omega) (by omega)
theorem all_members (l : List S32) (h : ∀ y ∈ l, Fin30 y.f3) : ∃ K, ∀ y ∈ l, ∀ k, K ≤ k → fS k y.f3 y.f3 = some true := by
  obtain ⟨K, hK⟩ := all_at (l.map (·.f3)) (fun y hy => by
    obtain ⟨z, hz, rfl⟩ := List.mem_map.1 hy
    exact fin_end (h z hz))
  exact ⟨K, fun y hy => hK y.f3 (List.mem_map.2 ⟨y, hy, rfl⟩)⟩
theorem k32_fin {w : World} {x : S32} {cs : List Value} (h : k32.K w x cs) : Fin30 x.f3 := by
  obtain ⟨_, _, rfl, rfl, ⟨_, _, rfl, rfl, ⟨_, _, rfl, rfl, s3⟩⟩⟩ := h
  exact k30_fin s3
theorem row_fin {w : World} {A : Option Addr} {n : Nat} {l : List S32} (h : Kd.C k32 w A n l) : ∀ y ∈ l, Fin30 y.f3 := by
  intro y hy
  obtain ⟨j, hj⟩ := List.mem_iff_getElem?.1 hy
  have hp : 0 < n := by have := (List.getElem?_eq_some_iff.1 hj).1; have := h.1; omega
  obtain ⟨ad, _, hc⟩ := h.2.2 hp
  obtain ⟨c, _, hK, _⟩ := hc j y hj
  exact k32_fin hK
theorem sameC (A : Option Addr) (c : Nat) (A1 : Option Addr) (c1 : Nat) (l : List S32) (w : World) (h : Kd.C k32 w A l.length l) (hc : l.length ≤ c) (h1 : Kd.C k32 w A1 l.length l) (hc1 : l.length ≤ c1) :
    Calls Try.prog 14 #[.slice A l.length c, .slice A1 l.length c1] w fun e w' => e = .returned (.bool true) ∧ Below w.heap.size w w' := by
  obtain ⟨K, hK⟩ := all_members l (row_fin h)
  have hf : broadsheetref22_Same.f (K + l.length + 1) l l = some true := by
    unfold broadsheetref22_Same.f
    rw [if_pos rfl]
    exact members_end l K h.2.1 hK l.length 0 (by omega) (by omega) (by omega)
  exact broadsheetref22_Same.calls _ A c l A1 c1 l true w h hc h1 hc1 rfl (fun k x t ht => (eq_true k).1 x t ht) hf
end Go.Proofs.Ytjbfjgaghjggpaa.Eq9
