/- 5 texts in one file: Eq9, Opg, Pfe, Siz, PureFeedAny. -/
import Derived.Test.YtjbckpoepfbgbaaDoorPrx9
import Derived.Test.YtjbckpoepfbgbaaDoorPrx0
import Derived.Deep.Slices
import Derived.Deep.Fields
import Derived.ChangeSame
import Derived.ProofKit
import Derived.SizedLaws
import Derived.Test.YtjbckpoepfbgbaaDoorBd5
import Derived.Test.YtjbckpoepfbgbaaDoorBd6
import Derived.Test.YtjbckpoepfbgbaaDoorBd2
import Derived.Test.YtjbckpoepfbgbaaDoorPrx2
import Derived.Test.YtjbckpoepfbgbaaDoorAny
import Derived.OpenShut
section
/- A node stands to itself as the same, and this comes to an end. No memory in sight, but for where nodes come from. -/
set_option linter.unusedVariables false
set_option maxRecDepth 20000
namespace Go.Proofs.YtjbckpoepfbgbaaDoor.Eq9
open Go.RowKit Go.Proofs.YtjbckpoepfbgbaaDoor.Pr Go.Proofs.YtjbckpoepfbgbaaDoorW.PrintWords
abbrev fS (k : Nat) (x y : S28) : Option Bool := broadsheetref09_Same.f k x.f0 x.f1 x.f2 x.f3 x.f4 x.f5 y.f0 y.f1 y.f2 y.f3 y.f4 y.f5
theorem eq_true (k : Nat) : (∀ (x : S28) (t : Bool), fS k x x = some t → t = true) ∧
    (∀ (i : Int) (x : S28) (t : Bool), broadsheetref09_Same.l0 k i x.f0 x.f1 x.f2 x.f3 x.f4 x.f5 x.f0 x.f1 x.f2 x.f3 x.f4 x.f5 = some t → t = true) ∧
    (∀ (i : Int) (x : S28) (t : Bool), broadsheetref09_Same.l1 k i x.f0 x.f1 x.f2 x.f3 x.f4 x.f5 x.f0 x.f1 x.f2 x.f3 x.f4 x.f5 = some t → t = true) ∧
    (∀ (x : S28) (t : Bool), broadsheetref09_Same.j0 k false x.f0 x.f1 x.f2 x.f3 x.f4 x.f5 x.f0 x.f1 x.f2 x.f3 x.f4 x.f5 = some t → t = true) := by
  induction k with
  | zero =>
    refine ⟨fun x t h => ?_, fun i x t h => ?_, fun i x t h => ?_, fun x t h => ?_⟩
    · simp [fS, broadsheetref09_Same.f] at h
    · simp [broadsheetref09_Same.l0] at h
    · simp [broadsheetref09_Same.l1] at h
    · simp [broadsheetref09_Same.j0] at h
  | succ k ih =>
    obtain ⟨i1, i2, i3, i4⟩ := ih
    refine ⟨fun x t h => ?_, fun i x t h => ?_, fun i x t h => ?_, fun x t h => ?_⟩
    · simp only [fS, broadsheetref09_Same.f, if_true, bne_self_eq_false] at h
      exact i4 x t h
    · simp only [broadsheetref09_Same.l0] at h
      by_cases c1 : i < (x.f3.length : Int)
      · rw [if_pos c1] at h
        by_cases c2 : 0 ≤ i
        · rw [if_pos c2, if_pos c1] at h
          simp only [beq_self_eq_true, Bool.not_true, Bool.or_false] at h
          rw [if_neg (by decide)] at h
          exact i2 _ x t h
        · rw [if_neg c2] at h; cases h
      · rw [if_neg c1] at h
        exact i3 _ x t h
    · simp only [broadsheetref09_Same.l1] at h
      by_cases c1 : i < (x.f4.length : Int)
      · rw [if_pos c1] at h
        by_cases c2 : 0 ≤ i
        · rw [if_pos c2, if_pos c1] at h
          obtain ⟨b, hb, h⟩ := Option.bind_eq_some_iff.mp h
          obtain rfl := i1 _ b hb
          rw [if_pos rfl] at h
          exact i3 _ x t h
        · rw [if_neg c2] at h; cases h
      · rw [if_neg c1] at h
        exact (Option.some.inj h).symm
    · simp only [broadsheetref09_Same.j0] at h
      rw [if_neg (by decide)] at h
      exact i2 _ x t h
/-- A node of finite depth, its lists no longer than may be. -/
inductive Fin28 : S28 → Prop
  | mk (x : S28) : x.f3.length ≤ 9223372036854775807 → x.f4.length ≤ 9223372036854775807 → (∀ y ∈ x.f4, Fin28 y) → Fin28 x
theorem fS_mono (x y : S28) (k : Nat) : LeO (fS k x y) (fS (k + 1) x y) := broadsheetref09_Same.mono _ _ _ _ _ _ _ _ _ _ _ _ k
theorem all_at (l : List S28) (h : ∀ y ∈ l, ∃ k, fS k y y = some true) : ∃ K, ∀ y ∈ l, ∀ k, K ≤ k → fS k y y = some true := by
  induction l with
  | nil => exact ⟨0, fun y hy => by simp at hy⟩
  | cons x l ih =>
    obtain ⟨K, hK⟩ := ih (fun y hy => h y (List.mem_cons_of_mem _ hy))
    obtain ⟨k0, h0⟩ := h x (List.mem_cons_self ..)
    refine ⟨max K k0, fun y hy k hk => ?_⟩
    rcases List.mem_cons.1 hy with rfl | hy
    · exact at_rounds (g := fun k => fS k y y) (fS_mono y y) (by omega) h0
    · exact hK y hy k (by omega)
theorem wrap_succ {i : Int} {n : Nat} (h0 : 0 ≤ i) (h : i < (n : Int)) (hn : n ≤ 9223372036854775807) : wrap64 (i + 1) = i + 1 := by
  unfold wrap64
  omega
theorem kids_end (x : S28) (K : Nat) (hn : x.f4.length ≤ 9223372036854775807) (hK : ∀ y ∈ x.f4, ∀ k, K ≤ k → fS k y y = some true) (d : Nat) : ∀ (i : Int), 0 ≤ i → i ≤ x.f4.length → (x.f4.length : Int) - i = d →
    broadsheetref09_Same.l1 (K + d + 1) i x.f0 x.f1 x.f2 x.f3 x.f4 x.f5 x.f0 x.f1 x.f2 x.f3 x.f4 x.f5 = some true := by
  induction d with
  | zero =>
    intro i h0 h1 hd
    simp only [broadsheetref09_Same.l1]
    rw [if_neg (by omega)]
  | succ d ih =>
    intro i h0 h1 hd
    have hlt : i < (x.f4.length : Int) := by omega
    have e : K + (d + 1) + 1 = (K + d + 1) + 1 := by omega
    rw [e]
    obtain ⟨m, hmm⟩ : ∃ m, m = K + d + 1 := ⟨_, rfl⟩
    rw [← hmm]
    simp only [broadsheetref09_Same.l1]
    rw [hmm]
    rw [if_pos hlt, if_pos h0, if_pos hlt]
    have hm : rd_T28 x.f4 i ∈ x.f4 := by
      unfold rd_T28
      rw [List.getD_eq_getElem?_getD, List.getElem?_eq_getElem (by omega)]
      exact List.getElem_mem _
    have h2 := hK _ hm (K + d + 1) (by omega)
    unfold fS at h2
    rw [h2]
    simp only [Option.bind_some, if_true]
    rw [wrap_succ h0 hlt hn]
    exact ih (i + 1) (by omega) (by omega) (by omega)
theorem attrs_end (x : S28) (k0 : Nat) (hn : x.f3.length ≤ 9223372036854775807) (h : broadsheetref09_Same.l1 k0 0 x.f0 x.f1 x.f2 x.f3 x.f4 x.f5 x.f0 x.f1 x.f2 x.f3 x.f4 x.f5 = some true) (d : Nat) : ∀ (i : Int), 0 ≤ i → i ≤ x.f3.length → (x.f3.length : Int) - i = d →
    broadsheetref09_Same.l0 (k0 + d + 1) i x.f0 x.f1 x.f2 x.f3 x.f4 x.f5 x.f0 x.f1 x.f2 x.f3 x.f4 x.f5 = some true := by
  induction d with
  | zero =>
    intro i h0 h1 hd
    simp only [broadsheetref09_Same.l0]
    rw [if_neg (by omega)]
    exact h
  | succ d ih =>
    intro i h0 h1 hd
    have hlt : i < (x.f3.length : Int) := by omega
    have e : k0 + (d + 1) + 1 = (k0 + d + 1) + 1 := by omega
    rw [e]
    obtain ⟨m, hmm⟩ : ∃ m, m = k0 + d + 1 := ⟨_, rfl⟩
    rw [← hmm]
    simp only [broadsheetref09_Same.l0]
    rw [hmm]
    rw [if_pos hlt, if_pos h0, if_pos hlt]
    simp only [beq_self_eq_true, Bool.not_true, Bool.or_false]
    rw [if_neg (by decide), wrap_succ h0 hlt hn]
    exact ih (i + 1) (by omega) (by omega) (by omega)
theorem fin_end {x : S28} (h : Fin28 x) : ∃ k, fS k x x = some true := by
  induction h with
  | mk x h3 h4 hk ih =>
    obtain ⟨K, hK⟩ := all_at x.f4 ih
    have a := kids_end x K h4 hK x.f4.length 0 (by omega) (by omega) (by omega)
    have b := attrs_end x _ h3 a x.f3.length 0 (by omega) (by omega) (by omega)
    refine ⟨K + x.f4.length + 1 + x.f3.length + 1 + 1 + 1, ?_⟩
    simp only [fS, broadsheetref09_Same.f, if_true, bne_self_eq_false]
    simp only [broadsheetref09_Same.j0]
    rw [if_neg (by decide)]
    exact b
end Go.Proofs.YtjbckpoepfbgbaaDoor.Eq9
end
section
/- A slice of members that comes in, with all their trees, reads as a row of them; no part of it is longer than its weight allows. -/
set_option linter.unusedVariables false
set_option maxRecDepth 20000
namespace Go.Proofs.YtjbckpoepfbgbaaDoor.Opg
open Go.ChangeShapes Go.WideShapes Go.Deep Go.RowKit Go.Proofs.YtjbckpoepfbgbaaDoor.Pr Go.Proofs.YtjbckpoepfbgbaaDoorW.PrintWords
section
variable {H : Type} {enc : TypeId × Value → H} {P : Program} {w : World} {base : Nat} {spare : Nat → Bool} {held : Bool}
/-- No part of what was read is heavier than may be. -/
def WOK {H : Type} (P : Program) (d : DataW H) (t : TypeId) : Prop := ∀ n ∈ d.weights P t, n ≤ 140737488351232
theorem weightsAll_mem {H : Type} {P : Program} {e : TypeId} : ∀ {l : List (DataW H)} {d : DataW H}, d ∈ l → ∀ n ∈ d.weights P e, n ∈ DataW.weightsAll P e l
  | [], _, h => by cases h
  | x :: r, d, h => by
    intro n hn
    rcases List.mem_cons.1 h with rfl | h
    · simp [DataW.weightsAll, hn]
    · simp [DataW.weightsAll, weightsAll_mem h n hn]
theorem rd_slice {α : Type} {d : Kd α} {G : α → Prop} (z0 : α) {t e : TypeId} {fuel : Nat} {cs : List Value} {x : DataW H × List MemPlace} (ht : P.underlying t = some (.slice e)) (hsz : d.sz = P.cellsOf e)
    (hd : ∀ n, n < fuel → ∀ cs x, DataW.trod enc P w base spare held n e cs = some x → ∃ z, d.K w z cs ∧ (WOK P x.1 e → G z)) (h : DataW.trod enc P w base spare held fuel t cs = some x) :
    ∃ (l : List α) (A : Option Addr) (c : Nat), cs = [.slice A l.length c] ∧ l.length ≤ c ∧ d.C w A l.length l ∧ (WOK P x.1 t → l.length * P.bytesOf e ≤ 140737488351232 ∧ ∀ z ∈ l, G z) := by
  rcases DataW.trod_slice ht h with ⟨rfl, rfl⟩ | ⟨a, len, cap, elems, rest, n, hn, rfl, hxe, _, hl, hm, hlen, hel, _, _⟩
  · exact ⟨[], none, 0, rfl, Nat.le_refl _, Kd.C_nil d w, fun _ => ⟨by simp, fun z hz => by cases hz⟩⟩
  · have hx : ∀ i, ∃ z : α, i < len → (∃ cs', cs'.length = d.sz ∧ d.K w z cs' ∧ ∀ j u, cs'[j]? = some u → w.cell? (a.add (i * d.sz + j)) = some u) ∧ (WOK P x.1 t → G z) := by
      intro i
      by_cases hi : i < len
      · have h1 := hel i hi
        rw [List.getElem?_eq_getElem (by omega)] at h1
        obtain ⟨cs', hc, ht'⟩ := Option.bind_eq_some_iff.1 h1
        obtain ⟨z, hz, hg⟩ := hd n (by omega) _ _ ht'
        obtain ⟨_, hcl, hat⟩ := World.cells?_some hc
        refine ⟨z, fun _ => ⟨⟨cs', by rw [hcl, hsz], hz, fun j u hj => ?_⟩, fun hw => hg (fun m hm => hw m ?_)⟩⟩
        · have hjl : j < cs'.length := (List.getElem?_eq_some_iff.1 hj).1
          rw [hsz, ← Go.Deep.add_add, hat j (by omega), hj]
        · rw [hxe]
          have hin : (elems[i]'(by omega)).1 ∈ elems.map (·.1) := List.mem_map.2 ⟨_, List.getElem_mem _, rfl⟩
          simp only [DataW.weights, ht]
          exact List.mem_cons_of_mem _ (List.mem_append_left _ (weightsAll_mem hin m hm))
      · exact ⟨z0, fun h => absurd h hi⟩
    refine ⟨(List.range len).map (fun i => Classical.choose (hx i)), some a, cap, by simp, by simpa using hl, ?_, fun hw => ⟨?_, fun z hz => ?_⟩⟩
    · rw [List.length_map, List.length_range]
      refine ⟨by simp, Nat.le_trans hl (Nat.le_trans hm (by decide)), fun hp => ⟨a, rfl, fun j q hj => ?_⟩⟩
      rw [List.getElem?_map] at hj
      obtain ⟨i, hi2, rfl⟩ := Option.map_eq_some_iff.1 hj
      obtain ⟨hjl, hij⟩ := List.getElem?_eq_some_iff.1 hi2
      simp at hij hjl
      subst hij
      exact (Classical.choose_spec (hx j) (by omega)).1
    · rw [List.length_map, List.length_range]
      have := hw ((elems.map (·.1)).length * P.bytesOf e + (rest.map (·.1)).length * P.bytesOf e) (by rw [hxe]; simp only [DataW.weights, ht]; rw [← Nat.add_mul]; exact List.mem_cons_self ..)
      rw [List.length_map, hlen] at this
      omega
    · obtain ⟨i, hi, rfl⟩ := List.mem_map.1 hz
      exact (Classical.choose_spec (hx i) (by simpa using hi)).2 hw
end
def gs (s : ByteArray) : Prop := s.size ≤ 140737488351232
def Good61 (a : S61) : Prop := gs a.f0 ∧ gs a.f1 ∧ gs a.f2
/-- A node no part of which is longer than may be. -/
inductive Good28 : S28 → Prop
  | mk (x : S28) : gs x.f1 → gs x.f2 → gs x.f5 → x.f3.length * 48 ≤ 140737488351232 → x.f4.length * 104 ≤ 140737488351232 → (∀ a ∈ x.f3, Good61 a) → (∀ y ∈ x.f4, Good28 y) → Good28 x
def Good40 (m : S40) : Prop := gs m.f2 ∧ Good28 m.f3
theorem wok_str {H : Type} {P : Program} {s : ByteArray} {t : TypeId} (h : WOK (H := H) P (.lit (.string s.data.toList)) t) : gs s := by
  have := h s.data.toList.length (by simp [DataW.weights])
  simpa [gs] using this
theorem wok_part {H : Type} {P : Program} {fs : Array Field} {t : TypeId} {l : List (DataW H)} (ht : P.underlying t = some (.struct fs)) (h : WOK P (.agg l) t) {j : Nat} {t' : TypeId} {d : DataW H} (h1 : (fs.toList.map (·.type))[j]? = some t') (h2 : l[j]? = some d) : WOK P d t' :=
  fun n hn => h n (by simp only [DataW.weights, ht]; exact DataW.weights_mem_each h1 h2 n hn)
theorem bytes61 : Tryd.prog.bytesOf 61 = 48 := by kernel_rfl
theorem bytes28 : Tryd.prog.bytesOf 28 = 104 := by kernel_rfl
theorem bytes40 : Tryd.prog.bytesOf 40 = 136 := by kernel_rfl
theorem cells3 : Tryd.prog.cellsOf 3 = 1 := by kernel_rfl
theorem cells9 : Tryd.prog.cellsOf 9 = 1 := by kernel_rfl
theorem cells25 : Tryd.prog.cellsOf 25 = 1 := by kernel_rfl
theorem cells26 : Tryd.prog.cellsOf 26 = 1 := by kernel_rfl
theorem cells61 : Tryd.prog.cellsOf 61 = 3 := by kernel_rfl
theorem cells28 : Tryd.prog.cellsOf 28 = 6 := by kernel_rfl
theorem cells40 : Tryd.prog.cellsOf 40 = 9 := by kernel_rfl
section
variable {H : Type} {enc : TypeId × Value → H} {w : World} {base : Nat} {spare : Nat → Bool} {held : Bool}
/-- An attribute. -/
theorem rd_attr {fuel : Nat} {cs : List Value} {x : DataW H × List MemPlace} (h : DataW.trod enc Tryd.prog w base spare held fuel 61 cs = some x) : ∃ z, k61.K w z cs ∧ (WOK Tryd.prog x.1 61 → Good61 z) := by
  obtain ⟨xs, n, hn, hxe, hl, hlen, hf⟩ := DataW.trod_struct Tryd.underlying61 h
  rw [cells61] at hl
  match cs, hl, xs, hlen with
  | [v0, v1, v2], _, [x0, x1, x2], _ =>
    have h0 : DataW.trod enc Tryd.prog w base spare held n 9 (([v0, v1, v2].drop 0).take (Tryd.prog.cellsOf 9)) = some x0 := hf 0 _ rfl
    have h1 : DataW.trod enc Tryd.prog w base spare held n 9 (([v0, v1, v2].drop 1).take (Tryd.prog.cellsOf 9)) = some x1 := hf 1 _ rfl
    have h2 : DataW.trod enc Tryd.prog w base spare held n 9 (([v0, v1, v2].drop 2).take (Tryd.prog.cellsOf 9)) = some x2 := hf 2 _ rfl
    rw [cells9] at h0 h1 h2
    obtain ⟨s0, e0, q0, _⟩ := DataW.trod_string Tryd.underlying9 h0
    obtain ⟨s1, e1, q1, _⟩ := DataW.trod_string Tryd.underlying9 h1
    obtain ⟨s2, e2, q2, _⟩ := DataW.trod_string Tryd.underlying9 h2
    obtain rfl : v0 = .string s0 := (List.cons.inj e0).1
    obtain rfl : v1 = .string s1 := (List.cons.inj e1).1
    obtain rfl : v2 = .string s2 := (List.cons.inj e2).1
    refine ⟨⟨s0, s1, s2⟩, k61_mk w _, fun hw => ?_⟩
    rw [hxe, q0, q1, q2] at hw
    exact ⟨wok_str (wok_part Tryd.underlying61 hw (j := 0) (t' := 9) rfl rfl), wok_str (wok_part Tryd.underlying61 hw (j := 1) (t' := 9) rfl rfl), wok_str (wok_part Tryd.underlying61 hw (j := 2) (t' := 9) rfl rfl)⟩
/-- A tree. -/
theorem rd_upto (N : Nat) : ∀ fuel, fuel ≤ N → ∀ (cs : List Value) (x : DataW H × List MemPlace), DataW.trod enc Tryd.prog w base spare held fuel 28 cs = some x → ∃ z, (Kd.upto F28 6 [28, 61] N).K w z cs ∧ (WOK Tryd.prog x.1 28 → Good28 z) := by
  induction N with
  | zero =>
    intro fuel hfu cs x h
    obtain rfl : fuel = 0 := by omega
    simp [DataW.trod] at h
  | succ N ih =>
    intro fuel hfu cs x h
    obtain ⟨xs, n, hn, hxe, hl, hlen, hf⟩ := DataW.trod_struct Tryd.underlying28 h
    rw [cells28] at hl
    match cs, hl, xs, hlen with
    | [v0, v1, v2, v3, v4, v5], _, [x0, x1, x2, x3, x4, x5], _ =>
      have h0 : DataW.trod enc Tryd.prog w base spare held n 3 (([v0, v1, v2, v3, v4, v5].drop 0).take (Tryd.prog.cellsOf 3)) = some x0 := hf 0 _ rfl
      have h1 : DataW.trod enc Tryd.prog w base spare held n 9 (([v0, v1, v2, v3, v4, v5].drop 1).take (Tryd.prog.cellsOf 9)) = some x1 := hf 1 _ rfl
      have h2 : DataW.trod enc Tryd.prog w base spare held n 9 (([v0, v1, v2, v3, v4, v5].drop 2).take (Tryd.prog.cellsOf 9)) = some x2 := hf 2 _ rfl
      have h3 : DataW.trod enc Tryd.prog w base spare held n 25 (([v0, v1, v2, v3, v4, v5].drop 3).take (Tryd.prog.cellsOf 25)) = some x3 := hf 3 _ rfl
      have h4 : DataW.trod enc Tryd.prog w base spare held n 26 (([v0, v1, v2, v3, v4, v5].drop 4).take (Tryd.prog.cellsOf 26)) = some x4 := hf 4 _ rfl
      have h5 : DataW.trod enc Tryd.prog w base spare held n 9 (([v0, v1, v2, v3, v4, v5].drop 5).take (Tryd.prog.cellsOf 9)) = some x5 := hf 5 _ rfl
      rw [cells3] at h0
      rw [cells9] at h1 h2 h5
      rw [cells25] at h3
      rw [cells26] at h4
      obtain ⟨s0, e0, _⟩ := DataW.trod_int Tryd.underlying3 h0
      obtain ⟨s1, e1, q1, _⟩ := DataW.trod_string Tryd.underlying9 h1
      obtain ⟨s2, e2, q2, _⟩ := DataW.trod_string Tryd.underlying9 h2
      obtain ⟨l3, A3, c3, e3, b3, g3, k3⟩ := rd_slice (d := k61) (G := Good61) z61 Tryd.underlying25 (by rw [cells61]; rfl) (fun m _ cs x hx => rd_attr hx) h3
      obtain ⟨l4, A4, c4, e4, b4, g4, k4⟩ := rd_slice (d := Kd.upto F28 6 [28, 61] N) (G := Good28) z28 Tryd.underlying26 (by rw [cells28]; exact sz28 N) (fun m hm cs x hx => ih m (by omega) cs x hx) h4
      obtain ⟨s5, e5, q5, _⟩ := DataW.trod_string Tryd.underlying9 h5
      obtain rfl : v0 = .int .i64 s0 := (List.cons.inj e0).1
      obtain rfl : v1 = .string s1 := (List.cons.inj e1).1
      obtain rfl : v2 = .string s2 := (List.cons.inj e2).1
      obtain rfl : v3 = .slice A3 l3.length c3 := (List.cons.inj e3).1
      obtain rfl : v4 = .slice A4 l4.length c4 := (List.cons.inj e4).1
      obtain rfl : v5 = .string s5 := (List.cons.inj e5).1
      refine ⟨⟨s0, s1, s2, l3, l4, s5⟩, ⟨[.int .i64 s0], [.string s1, .string s2, .slice A3 l3.length c3, .slice A4 l4.length c4, .string s5], rfl, rfl, ⟨[.string s1], [.string s2, .slice A3 l3.length c3, .slice A4 l4.length c4, .string s5], rfl, rfl, ⟨[.string s2], [.slice A3 l3.length c3, .slice A4 l4.length c4, .string s5], rfl, rfl, ⟨[.slice A3 l3.length c3], [.slice A4 l4.length c4, .string s5], rfl, ⟨A3, c3, rfl, b3, g3⟩, ⟨[.slice A4 l4.length c4], [.string s5], rfl, ⟨A4, c4, rfl, b4, g4⟩, rfl⟩⟩⟩⟩⟩, fun hw => ?_⟩
      rw [hxe] at hw
      have w1 := wok_part Tryd.underlying28 hw (j := 1) (t' := 9) rfl rfl
      have w2 := wok_part Tryd.underlying28 hw (j := 2) (t' := 9) rfl rfl
      have w3 := k3 (wok_part Tryd.underlying28 hw (j := 3) (t' := 25) rfl rfl)
      have w4 := k4 (wok_part Tryd.underlying28 hw (j := 4) (t' := 26) rfl rfl)
      have w5 := wok_part Tryd.underlying28 hw (j := 5) (t' := 9) rfl rfl
      rw [bytes61] at w3
      rw [bytes28] at w4
      rw [q1] at w1
      rw [q2] at w2
      rw [q5] at w5
      exact Good28.mk _ (wok_str w1) (wok_str w2) (wok_str w5) w3.1 w4.1 w3.2 w4.2
theorem rd_node {fuel : Nat} {cs : List Value} {x : DataW H × List MemPlace} (h : DataW.trod enc Tryd.prog w base spare held fuel 28 cs = some x) : ∃ z, k28.K w z cs ∧ (WOK Tryd.prog x.1 28 → Good28 z) := by
  obtain ⟨z, hz, hg⟩ := rd_upto fuel fuel (Nat.le_refl _) cs x h
  exact ⟨z, ⟨fuel, hz⟩, hg⟩
/-- A member. -/
theorem rd_member {fuel : Nat} {cs : List Value} {x : DataW H × List MemPlace} (h : DataW.trod enc Tryd.prog w base spare held fuel 40 cs = some x) : ∃ z, k40.K w z cs ∧ (WOK Tryd.prog x.1 40 → Good40 z) := by
  obtain ⟨xs, n, hn, hxe, hl, hlen, hf⟩ := DataW.trod_struct Tryd.underlying40 h
  rw [cells40] at hl
  match cs, hl, xs, hlen with
  | [v0, v1, v2, v3, v4, v5, v6, v7, v8], _, [x0, x1, x2, x3], _ =>
    have h0 : DataW.trod enc Tryd.prog w base spare held n 3 (([v0, v1, v2, v3, v4, v5, v6, v7, v8].drop 0).take (Tryd.prog.cellsOf 3)) = some x0 := hf 0 _ rfl
    have h1 : DataW.trod enc Tryd.prog w base spare held n 3 (([v0, v1, v2, v3, v4, v5, v6, v7, v8].drop 1).take (Tryd.prog.cellsOf 3)) = some x1 := hf 1 _ rfl
    have h2 : DataW.trod enc Tryd.prog w base spare held n 9 (([v0, v1, v2, v3, v4, v5, v6, v7, v8].drop 2).take (Tryd.prog.cellsOf 9)) = some x2 := hf 2 _ rfl
    have h3 : DataW.trod enc Tryd.prog w base spare held n 28 (([v0, v1, v2, v3, v4, v5, v6, v7, v8].drop 3).take (Tryd.prog.cellsOf 28)) = some x3 := hf 3 _ rfl
    rw [cells3] at h0 h1
    rw [cells9] at h2
    rw [cells28] at h3
    obtain ⟨s0, e0, _⟩ := DataW.trod_int Tryd.underlying3 h0
    obtain ⟨s1, e1, _⟩ := DataW.trod_int Tryd.underlying3 h1
    obtain ⟨s2, e2, q2, _⟩ := DataW.trod_string Tryd.underlying9 h2
    obtain ⟨z, hz, hg⟩ := rd_node h3
    obtain rfl : v0 = .int .i64 s0 := (List.cons.inj e0).1
    obtain rfl : v1 = .int .i64 s1 := (List.cons.inj e1).1
    obtain rfl : v2 = .string s2 := (List.cons.inj e2).1
    refine ⟨⟨s0, s1, s2, z⟩, ⟨[.int .i64 s0], [.int .i64 s1, .string s2, v3, v4, v5, v6, v7, v8], rfl, rfl, ⟨[.int .i64 s1], [.string s2, v3, v4, v5, v6, v7, v8], rfl, rfl, ⟨[.string s2], [v3, v4, v5, v6, v7, v8], rfl, rfl, hz⟩⟩⟩, fun hw => ?_⟩
    rw [hxe] at hw
    have w2 := wok_part Tryd.underlying40 hw (j := 2) (t' := 9) rfl rfl
    rw [q2] at w2
    exact ⟨wok_str w2, hg (wok_part Tryd.underlying40 hw (j := 3) (t' := 28) rfl rfl)⟩
/-- A slice of members. -/
theorem read_members {a : Option Addr} {len cap : Nat} {d : DataW H} {p : List MemPlace} {ts : List TypeId} {ds : List (DataW H)} {j : Nat} (hsz : (DataW.weightsEach Tryd.prog ts ds).all (· ≤ reachBytes) = true) (ht : ts[j]? = some 22) (hd : ds[j]? = some d)
    (h : DataW.Trod enc Tryd.prog w base spare held 22 (.slice a len cap) d p) : ∃ l : List S40, l.length = len ∧ len ≤ cap ∧ Kd.C k40 w a l.length l ∧ l.length * 136 ≤ 140737488351232 ∧ ∀ m ∈ l, Good40 m := by
  obtain ⟨fuel, hf⟩ := h
  obtain ⟨l, A, c, e, b, g, k⟩ := rd_slice (d := k40) (G := Good40) z40 Tryd.underlying22 (by rw [cells40]; rfl) (fun m _ cs x hx => rd_member hx) hf
  obtain ⟨rfl, rfl, rfl⟩ : a = A ∧ len = l.length ∧ cap = c := by
    have := (List.cons.inj (show [Value.slice a len cap] = [.slice A l.length c] from e)).1
    injection this with h1 h2 h3
    exact ⟨h1, h2, h3⟩
  have hk := k (fun n hn => by
    have := List.all_eq_true.1 hsz _ (DataW.weights_mem_each ht hd n hn)
    exact of_decide_eq_true this)
  rw [bytes40] at hk
  exact ⟨l, rfl, b, g, hk.1, hk.2⟩
end
end Go.Proofs.YtjbckpoepfbgbaaDoor.Opg
end
section
/- Feeds, services and what any right program answers: plain. -/
set_option linter.unusedVariables false
set_option linter.unusedSimpArgs false
set_option maxRecDepth 20000
namespace Go.Proofs.YtjbckpoepfbgbaaDoor.Pfe
open Go.RowKit Go.Proofs.YtjbckpoepfbgbaaDoor.Pr Go.Proofs.YtjbckpoepfbgbaaDoor.Gv Go.Proofs.YtjbckpoepfbgbaaDoor.Fd Go.Proofs.YtjbckpoepfbgbaaDoor.Fun Go.Proofs.YtjbckpoepfbgbaaDoor.Lnk Go.Proofs.YtjbckpoepfbgbaaDoor.Mrg Go.Proofs.YtjbckpoepfbgbaaDoor.Srt Go.Proofs.YtjbckpoepfbgbaaDoor.Eq9 Go.Proofs.YtjbckpoepfbgbaaDoor.Opg Go.Proofs.YtjbckpoepfbgbaaDoorW.PrintWords
theorem good_fin {x : S28} (h : Good28 x) : Fin28 x := by
  induction h with
  | mk x _ _ _ l3 l4 _ _ ih => exact Fin28.mk x (by omega) (by omega) ih
theorem fin_leaf (x : S28) (h3 : x.f3.length ≤ 9223372036854775807) (h4 : x.f4 = []) : Fin28 x := Fin28.mk x h3 (by rw [h4]; decide) (fun y hy => by rw [h4] at hy; cases hy)
theorem fin_el (sp nm tx : ByteArray) : Fin28 (elN sp nm tx) := Fin28.mk _ (by simp [elN]) (by simp [elN]) (fun y hy => by
  simp only [elN, List.mem_singleton] at hy
  subst hy
  exact fin_leaf _ (by simp) rfl)
theorem fin_link (a b : ByteArray) : Fin28 (linkN a b) := fin_leaf _ (by simp [linkN]) rfl
theorem fin_z : Fin28 z28 := fin_leaf _ (by decide) rfl
theorem linksUp_mem {base : ByteArray} {k nx la : Int} {j : Nat} {y : S28} (h : y ∈ linksUp base k nx la j) : ∃ a b, y = linkN a b := by
  unfold linksUp at h
  obtain ⟨l, hl, hy⟩ := List.mem_flatten.1 h
  obtain ⟨p, _, rfl⟩ := List.mem_map.1 hl
  unfold linkAt at hy
  split at hy
  · exact ⟨_, _, List.mem_singleton.1 hy⟩
  · cases hy
theorem feedK_fin (base title : ByteArray) (l : List S40) (s k at_ : Int) (h : ∀ m ∈ l, Fin28 m.f3) : ∀ y ∈ feedK base title l s k at_, Fin28 y := by
  intro y hy
  unfold feedK at hy
  rcases List.mem_append.1 hy with hy | hy
  · rcases List.mem_append.1 hy with hy | hy
    · simp only [List.mem_cons, List.not_mem_nil, or_false] at hy
      rcases hy with rfl | rfl | rfl | rfl
      · exact fin_el _ _ _
      · exact fin_el _ _ _
      · exact fin_el _ _ _
      · exact fin_link _ _
    · obtain ⟨a, b, rfl⟩ := linksUp_mem hy
      exact fin_link _ _
  · obtain ⟨m, hm, rfl⟩ := List.mem_map.1 hy
    exact h m ((isort_mem ltM l m).1 (List.mem_of_mem_take (List.mem_of_mem_drop hm)))
theorem feedK_len (base title : ByteArray) (l : List S40) (s k at_ : Int) : (feedK base title l s k at_).length ≤ 8 + l.length := by
  have h := linksUp_len base k (nextP l.length s k) (lastP l.length s) 4
  unfold feedK
  rw [List.length_append, List.length_append, List.length_map]
  have h2 : (pageOf l s k).length ≤ l.length := by
    unfold pageOf
    rw [List.length_drop, List.length_take]
    omega
  simp only [List.length_cons, List.length_nil]
  omega
theorem feedV_fin (base title : ByteArray) (l : List S40) (s k : Int) (hl : l.length ≤ 1000000) (h : ∀ m ∈ l, Fin28 m.f3) : Fin28 (feedV base title l s k).1 := by
  unfold feedV
  split
  · exact fin_z
  split
  · exact fin_z
  split
  · exact fin_z
  split
  · exact fin_z
  · have := feedK_len base title l s k (latN l)
    exact Fin28.mk _ (by simp) (by show (feedK _ _ _ _ _ _).length ≤ _; omega) (feedK_fin base title l s k _ h)
theorem feedV_f3 (base title : ByteArray) (l : List S40) (s k : Int) : (feedV base title l s k).1.f3 = [] := by
  unfold feedV
  repeat' split
  all_goals rfl
theorem feed_f (base title : ByteArray) (l : List S40) (s k : Int) (hl : l.length ≤ 1000000) (hb : base.size ≤ 140737488351232) (ht : title.size ≤ 140737488351232) :
    feed_Feed.f base title l s k = some (tup (feedV base title l s k).1 (feedV base title l s k).2) ∧ broadsheetref23_Feed.f base title l s k = some (tup (feedV base title l s k).1 (feedV base title l s k).2) := by
  have h : feed_Feed.f base title l s k = some (tup (feedV base title l s k).1 (feedV base title l s k).2) := by
    unfold feed_Feed.f tup
    rw [if_pos hl, if_pos hb, if_pos ht, feedV_f3]
  exact ⟨h, h⟩
theorem servN_fin (a0 a1 : ByteArray) : Fin28 (servN a0 a1) := by
  refine Fin28.mk _ (by simp [servN]) (by simp [servN]) (fun y hy => ?_)
  simp only [servN, List.mem_singleton] at hy
  subst hy
  refine Fin28.mk _ (by simp [workN]) (by simp [workN]) (fun y hy => ?_)
  simp only [workN, List.mem_cons, List.not_mem_nil, or_false] at hy
  rcases hy with rfl | rfl
  · exact fin_el _ _ _
  · refine Fin28.mk _ (by simp [collN]) (by simp [collN]) (fun y hy => ?_)
    simp only [collN, List.mem_cons, List.not_mem_nil, or_false] at hy
    rcases hy with rfl | rfl
    · exact fin_el _ _ _
    · exact fin_el _ _ _
theorem servV_fin (a0 a1 : ByteArray) : Fin28 (servV a0 a1).1 := by
  unfold servV
  split
  · exact fin_z
  split
  · exact fin_z
  · exact servN_fin a0 a1
theorem serv_f (k : Nat) (a0 a1 : ByteArray) : feed_Service.f (k + 1) a0 a1 = some (tup (servV a0 a1).1 (servV a0 a1).2) := rfl
theorem rserv_f (k : Nat) (a0 a1 : ByteArray) : broadsheetref23_Service.f (k + 1) a0 a1 = some (tup (servV a0 a1).1 (servV a0 a1).2) := rfl
theorem elx_fin (a b : ByteArray) : Fin28 (elx a b) := by
  unfold elx
  split
  · exact fin_leaf _ (by simp) rfl
  · refine Fin28.mk _ (by simp) (by simp) (fun y hy => ?_)
    simp only [List.mem_singleton] at hy
    subst hy
    exact fin_leaf _ (by simp) rfl
theorem plainN_fin (a : ByteArray) : Fin28 (plainN a) := by
  refine Fin28.mk _ (by simp [plainN]) (by simp [plainN]) (fun y hy => ?_)
  simp only [plainN, List.mem_cons, List.not_mem_nil, or_false] at hy
  rcases hy with rfl | rfl
  · refine Fin28.mk _ (by simp) (by simp) (fun y hy => ?_)
    simp only [List.mem_singleton] at hy
    subst hy
    exact elx_fin _ _
  · exact elx_fin _ _
theorem plain_some (a : ByteArray) : ∃ x : S28, broadsheetlaw15_Plain.f a = some (tup6 x) ∧ Fin28 x ∧ x.f2 = ⟨#[101, 110, 116, 114, 121]⟩ := ⟨plainN a, rfl, plainN_fin a, rfl⟩
/-- What any right program answers. -/
theorem awake_f (k : Nat) : broadsheetlaw23_awake.f (k + 1) = some true := by
  unfold broadsheetlaw23_awake.f
  rw [serv_f]
  simp only [Option.bind_some]
  obtain ⟨x, hp, _⟩ := plain_some (⟨#[116]⟩ : ByteArray)
  rw [hp]
  obtain ⟨p, hp2⟩ : ∃ p, p = tup6 x := ⟨_, rfl⟩
  rw [← hp2]
  simp only [Option.bind_some]
  obtain ⟨m, hm⟩ : ∃ m : S40, m = ⟨1, 5, (⟨#[]⟩ : ByteArray), (⟨p.1, p.2.1, p.2.2.1, p.2.2.2.1, p.2.2.2.2.1, p.2.2.2.2.2⟩ : S28)⟩ := ⟨_, rfl⟩
  rw [← hm, (feed_f ⟨#[47, 99]⟩ ⟨#[120]⟩ [m] 10 1 (by simp) (by decide) (by decide)).1]
  simp only [Option.bind_some]
  have hs : servV ⟨#[47, 99]⟩ ⟨#[120]⟩ = (servN ⟨#[47, 99]⟩ ⟨#[120]⟩, 0) := by
    unfold servV
    rw [if_neg (by rw [ByteArray.toList_eq]; decide), if_neg (by rw [ByteArray.toList_eq]; decide)]
  have hl : latN [m] = 5 := by rw [hm]; rfl
  have hv : feedV ⟨#[47, 99]⟩ ⟨#[120]⟩ [m] 10 1 = (⟨0, atomB, feedB, [], feedK ⟨#[47, 99]⟩ ⟨#[120]⟩ [m] 10 1 5, ⟨#[]⟩⟩, 0) := by
    unfold feedV
    rw [hl, if_neg (by unfold Bad; simp), if_neg (by simp [lastP]), if_neg (by unfold inR; simp), if_neg (by rw [ByteArray.toList_eq, ByteArray.toList_eq]; decide)]
  rw [hs, hv]
  have hk : ((feedK ⟨#[47, 99]⟩ ⟨#[120]⟩ [m] 10 1 5).length : Int) = 7 := by
    unfold feedK linksUp linkAt pageOf
    simp [lastP, nextP, isort_len]
  simp only [tup]
  have t1 : (servN ⟨#[47, 99]⟩ ⟨#[120]⟩).f2.toList = [115, 101, 114, 118, 105, 99, 101] := by rw [ByteArray.toList_eq]; rfl
  have t2 : feedB.toList = [102, 101, 101, 100] := by rw [ByteArray.toList_eq]; rfl
  have t3 : ((servN ⟨#[47, 99]⟩ ⟨#[120]⟩).f4.length : Int) = 1 := rfl
  simp [t1, t2, t3, hk]
end Go.Proofs.YtjbckpoepfbgbaaDoor.Pfe
end
section
/- The size of a node, as the reference counts it: it comes to an end, and is what it seems, where no part is longer than may be. -/
set_option linter.unusedVariables false
set_option maxRecDepth 20000
namespace Go.Proofs.YtjbckpoepfbgbaaDoor.Siz
open Go.RowKit Go.Proofs.YtjbckpoepfbgbaaDoor.Pr Go.Proofs.YtjbckpoepfbgbaaDoor.Opg Go.Proofs.YtjbckpoepfbgbaaDoorW.PrintWords
abbrev sz (k : Nat) (x : S28) (m : Int) : Option Int := broadsheetref09_Size.f k x.f0 x.f1 x.f2 x.f3 x.f4 x.f5 m
/-- Sizes up to m come to an end, and are not much greater than m. -/
def Ends (K : Nat) (x : S28) : Prop := ∀ (m : Int), 0 ≤ m → m ≤ 3000 → ∀ k, K ≤ k → ∃ t, sz k x m = some t ∧ 1 ≤ t ∧ t ≤ m + 1125899906842624
theorem Ends.mono {K K' : Nat} {x : S28} (h : Ends K x) (hK : K ≤ K') : Ends K' x := fun m h0 h1 k hk => h m h0 h1 k (Nat.le_trans hK hk)
theorem all_ends (l : List S28) (h : ∀ y ∈ l, ∃ K, Ends K y) : ∃ K, ∀ y ∈ l, Ends K y := by
  induction l with
  | nil => exact ⟨0, fun y hy => by cases hy⟩
  | cons x l ih =>
    obtain ⟨K, hK⟩ := ih (fun y hy => h y (List.mem_cons_of_mem _ hy))
    obtain ⟨k0, h0⟩ := h x (List.mem_cons_self ..)
    refine ⟨max K k0, fun y hy => ?_⟩
    rcases List.mem_cons.1 hy with rfl | hy
    · exact h0.mono (by omega)
    · exact (hK y hy).mono (by omega)
theorem wr {x : Int} (h1 : -9223372036854775808 ≤ x) (h2 : x ≤ 9223372036854775807) : wrap64 x = x := by unfold wrap64; omega
theorem rd28_mem (l : List S28) (i : Nat) (h : i < l.length) : rd_T28 l (i : Int) = l[i] ∧ rd_T28 l (i : Int) ∈ l := by
  have e : rd_T28 l (i : Int) = l[i] := by unfold rd_T28; simp [List.getD, List.getElem?_eq_getElem h]
  exact ⟨e, e ▸ List.getElem_mem h⟩
theorem rd61_mem (l : List S61) (i : Nat) (h : i < l.length) : rd_T61 l (i : Int) ∈ l := by
  have e : rd_T61 l (i : Int) = l[i] := by unfold rd_T61; simp [List.getD, List.getElem?_eq_getElem h]
  exact e ▸ List.getElem_mem h
theorem kids_loop (x : S28) (K : Nat) (hl : x.f4.length ≤ 1000000000000000) (hK : ∀ y ∈ x.f4, Ends K y) (m : Int) (h0 : 0 ≤ m) (h1 : m ≤ 3000) (d : Nat) : ∀ (k i : Nat) (n : Int), i ≤ x.f4.length → x.f4.length - i = d → K + d < k → 1 ≤ n → n ≤ m + 1125899906842624 →
    ∃ t, broadsheetref09_Size.l1 k m n (i : Int) x.f0 x.f1 x.f2 x.f3 x.f4 x.f5 = some t ∧ 1 ≤ t ∧ t ≤ m + 1125899906842624 := by
  induction d with
  | zero =>
    intro k i n hi hd hk hn1 hn2
    obtain ⟨k, rfl⟩ : ∃ q, k = q + 1 := ⟨k - 1, by omega⟩
    simp only [broadsheetref09_Size.l1]
    rw [if_neg (by omega)]
    exact ⟨n, rfl, hn1, hn2⟩
  | succ d ih =>
    intro k i n hi hd hk hn1 hn2
    obtain ⟨k, rfl⟩ : ∃ q, k = q + 1 := ⟨k - 1, by omega⟩
    simp only [broadsheetref09_Size.l1]
    rw [if_pos (by omega)]
    by_cases hnm : n ≤ m
    · rw [if_pos hnm, if_pos (by omega)]
      obtain ⟨t, ht, ht1, ht2⟩ := hK _ (rd28_mem x.f4 i (by omega)).2 (m - n) (by omega) (by omega) k (by omega)
      rw [wr (by omega) (by omega)]
      unfold sz at ht
      rw [ht]
      simp only [Option.bind_some]
      rw [wr (by omega) (by omega), wr (by omega) (by omega)]
      exact ih k (i + 1) (n + t) (by omega) (by omega) (by omega) (by omega) (by omega)
    · rw [if_neg hnm]
      exact ⟨n, rfl, hn1, hn2⟩
theorem attrs_loop (x : S28) (K : Nat) (hl : x.f4.length ≤ 1000000000000000) (hl3 : x.f3.length ≤ 1000000000000000) (ha : ∀ a ∈ x.f3, Good61 a) (hK : ∀ y ∈ x.f4, Ends K y) (m : Int) (h0 : 0 ≤ m) (h1 : m ≤ 3000) (d : Nat) : ∀ (k i : Nat) (n : Int), i ≤ x.f3.length → x.f3.length - i = d → K + x.f4.length + 2 + d < k → 1 ≤ n → n ≤ m + 1125899906842624 →
    ∃ t, broadsheetref09_Size.l0 k m n (i : Int) x.f0 x.f1 x.f2 x.f3 x.f4 x.f5 = some t ∧ 1 ≤ t ∧ t ≤ m + 1125899906842624 := by
  have hj : ∀ (k : Nat) (n : Int), K + x.f4.length + 1 < k → 1 ≤ n → n ≤ m + 1125899906842624 → ∃ t, broadsheetref09_Size.j1 k m n x.f0 x.f1 x.f2 x.f3 x.f4 x.f5 = some t ∧ 1 ≤ t ∧ t ≤ m + 1125899906842624 := by
    intro k n hk hn1 hn2
    obtain ⟨k, rfl⟩ : ∃ q, k = q + 1 := ⟨k - 1, by omega⟩
    simp only [broadsheetref09_Size.j1]
    exact kids_loop x K hl hK m h0 h1 x.f4.length k 0 n (by omega) (by omega) (by omega) hn1 hn2
  induction d with
  | zero =>
    intro k i n hi hd hk hn1 hn2
    obtain ⟨k, rfl⟩ : ∃ q, k = q + 1 := ⟨k - 1, by omega⟩
    simp only [broadsheetref09_Size.l0]
    rw [if_neg (by omega)]
    exact hj k n (by omega) hn1 hn2
  | succ d ih =>
    intro k i n hi hd hk hn1 hn2
    obtain ⟨k, rfl⟩ : ∃ q, k = q + 1 := ⟨k - 1, by omega⟩
    simp only [broadsheetref09_Size.l0]
    rw [if_pos (by omega)]
    by_cases hnm : n ≤ m
    · rw [if_pos hnm, if_pos (by omega)]
      obtain ⟨g0, g1, g2⟩ := ha _ (rd61_mem x.f3 i (by omega))
      unfold gs at g0 g1 g2
      rw [wr (x := n + _) (by omega) (by omega), wr (x := n + _ + _) (by omega) (by omega), wr (x := n + _ + _ + _) (by omega) (by omega), wr (x := (i : Int) + 1) (by omega) (by omega)]
      exact ih k (i + 1) _ (by omega) (by omega) (by omega) (by omega) (by omega)
    · rw [if_neg hnm]
      exact hj k n (by omega) hn1 hn2
theorem size_ends {x : S28} (h : Good28 x) : ∃ K, Ends K x := by
  induction h with
  | mk x g1 g2 g5 l3 l4 ha hk ih =>
    obtain ⟨K, hK⟩ := all_ends x.f4 ih
    refine ⟨K + x.f4.length + x.f3.length + 5, fun m h0 h1 k hk2 => ?_⟩
    obtain ⟨k, rfl⟩ : ∃ q, k = q + 1 := ⟨k - 1, by omega⟩
    unfold gs at g1 g2 g5
    simp only [sz, broadsheetref09_Size.f]
    rw [wr (x := 1 + _) (by omega) (by omega), wr (x := 1 + _ + _) (by omega) (by omega), wr (x := 1 + _ + _ + _) (by omega) (by omega), wr (x := 1 + _ + _ + _ + _) (by omega) (by omega)]
    exact attrs_loop x K (by omega) (by omega) ha hK m h0 h1 x.f3.length k 0 _ (by omega) (by omega) (by omega) (by omega) (by omega)
/-- Few members: no more than 3000 of them. -/
theorem few_ends (l : List S40) (hl : l.length * 136 ≤ 140737488351232) (hg : ∀ m ∈ l, Good40 m) : ∃ K, ∀ k, K ≤ k → ∃ b, broadsheetlaw23_few.f k l = some b ∧ (b = true → l.length ≤ 3000) := by
  have hx : ∃ K, ∀ m ∈ l, Ends K m.f3 := by
    obtain ⟨K, hK⟩ := all_ends (l.map (·.f3)) (fun y hy => by
      obtain ⟨m, hm, rfl⟩ := List.mem_map.1 hy
      exact size_ends (hg m hm).2)
    exact ⟨K, fun m hm => hK _ (List.mem_map.2 ⟨m, hm, rfl⟩)⟩
  obtain ⟨K, hK⟩ := hx
  have loop : ∀ (d k i : Nat) (n : Int), i ≤ l.length → l.length - i = d → K + d < k → 2 * (i : Int) ≤ n → n ≤ 1125899906842624 + 6001 → ∃ b, broadsheetlaw23_few.l0 k l n (i : Int) = some b ∧ (b = true → l.length ≤ 3000) := by
    intro d
    induction d with
    | zero =>
      intro k i n hi hd hk hn1 hn2
      obtain ⟨k, rfl⟩ : ∃ q, k = q + 1 := ⟨k - 1, by omega⟩
      simp only [broadsheetlaw23_few.l0]
      rw [if_neg (by omega)]
      exact ⟨_, rfl, fun h => by have := of_decide_eq_true h; omega⟩
    | succ d ih =>
      intro k i n hi hd hk hn1 hn2
      obtain ⟨k, rfl⟩ : ∃ q, k = q + 1 := ⟨k - 1, by omega⟩
      simp only [broadsheetlaw23_few.l0]
      rw [if_pos (by omega)]
      by_cases hnm : n ≤ 3000
      · rw [if_pos hnm, if_pos (by omega)]
        have e : rd_T40 l (i : Int) ∈ l := by
          have e : rd_T40 l (i : Int) = l[i]'(by omega) := by unfold rd_T40; simp [List.getD, List.getElem?_eq_getElem (show i < l.length by omega)]
          exact e ▸ List.getElem_mem _
        obtain ⟨t, ht, ht1, ht2⟩ := hK _ e 3000 (by omega) (by omega) k (by omega)
        unfold sz at ht
        rw [ht]
        simp only [Option.bind_some]
        rw [wr (x := n + _) (by omega) (by omega), wr (x := n + _ + 1) (by omega) (by omega), wr (x := (i : Int) + 1) (by omega) (by omega)]
        exact ih k (i + 1) (n + t + 1) (by omega) (by omega) (by omega) (by omega) (by omega)
      · rw [if_neg hnm]
        exact ⟨_, rfl, fun h => by have := of_decide_eq_true h; omega⟩
  refine ⟨K + l.length + 1, fun k hk => ?_⟩
  unfold broadsheetlaw23_few.f
  exact loop l.length k 0 0 (by omega) (by omega) (by omega) (by omega) (by omega)
end Go.Proofs.YtjbckpoepfbgbaaDoor.Siz
end
section
/- FeedAny's plain statement: of few members both feeds, and both services, are the same nodes. No memory in sight. -/
set_option linter.unusedVariables false
set_option maxRecDepth 20000
namespace Go.Proofs.YtjbckpoepfbgbaaDoor.Pure
open Go.RowKit Go.Proofs.YtjbckpoepfbgbaaDoor.Pr Go.Proofs.YtjbckpoepfbgbaaDoor.Fd Go.Proofs.YtjbckpoepfbgbaaDoor.Pfe Go.Proofs.YtjbckpoepfbgbaaDoor.Siz Go.Proofs.YtjbckpoepfbgbaaDoor.Eq9 Go.Proofs.YtjbckpoepfbgbaaDoor.Opg Go.Proofs.YtjbckpoepfbgbaaDoorW.PrintWords
theorem FeedAny (a0 a1 : ByteArray) (l : List S40) (a3 a4 : Int) (y0 : a0.size ≤ 140737488351232) (y1 : a1.size ≤ 140737488351232) (hl : l.length * 136 ≤ 140737488351232) (hg : ∀ m ∈ l, Good40 m) (y3 : (Lit.int .i64 a3).wf = true) (y4 : (Lit.int .i64 a4).wf = true) :
    ∃ k, broadsheetlaw23_FeedAny.f k a0 a1 l a3 a4 = some true := by
  obtain ⟨K, hK⟩ := few_ends l hl hg
  have hfin : ∀ m ∈ l, Fin28 m.f3 := fun m hm => good_fin (hg m hm).2
  by_cases hlen : l.length ≤ 3000
  · obtain ⟨k1, h1⟩ := fin_end (feedV_fin a0 a1 l a3 a4 (by omega) hfin)
    obtain ⟨k2, h2⟩ := fin_end (servV_fin a0 a1)
    obtain ⟨kk, hkk⟩ : ∃ kk, kk = K + k1 + k2 + 1 := ⟨_, rfl⟩
    have e1 : fS kk (feedV a0 a1 l a3 a4).1 (feedV a0 a1 l a3 a4).1 = some true := at_rounds (g := fun k => fS k _ _) (fS_mono _ _) (by omega) h1
    have e2 : fS kk (servV a0 a1).1 (servV a0 a1).1 = some true := at_rounds (g := fun k => fS k _ _) (fS_mono _ _) (by omega) h2
    obtain ⟨b, hb, _⟩ := hK (kk + 1) (by omega)
    obtain ⟨q, hq⟩ : ∃ q, kk = q + 1 := ⟨kk - 1, by omega⟩
    have ha : broadsheetlaw23_awake.f kk = some true := by rw [hq]; exact awake_f q
    have hj : ∀ x, broadsheetlaw23_FeedAny.j0 (kk + 1) a0 a1 l a3 a4 x = some true := by
      intro x
      simp only [broadsheetlaw23_FeedAny.j0]
      cases x
      · rw [if_neg (by decide), (feed_f a0 a1 l a3 a4 (by omega) y0 y1).1, (feed_f a0 a1 l a3 a4 (by omega) y0 y1).2]
        simp only [Option.bind_some]
        rw [hq, serv_f, rserv_f, ← hq, ha]
        simp only [Option.bind_some, tup]
        unfold fS at e1 e2
        rw [e1, e2]
        simp
      · rw [if_pos rfl, ha]
        rfl
    refine ⟨kk + 1, ?_⟩
    unfold broadsheetlaw23_FeedAny.f
    rw [hb]
    simp only [Option.bind_some]
    split <;> exact hj _
  · obtain ⟨b, hb, hbl⟩ := hK (K + 2) (by omega)
    have hb0 : b = false := by
      cases b
      · rfl
      · exact absurd (hbl rfl) hlen
    subst hb0
    refine ⟨K + 2, ?_⟩
    unfold broadsheetlaw23_FeedAny.f
    rw [hb]
    simp only [Option.bind_some]
    rw [if_neg (by decide)]
    simp only [broadsheetlaw23_FeedAny.j0]
    rw [if_pos trivial, awake_f]
    rfl
end Go.Proofs.YtjbckpoepfbgbaaDoor.Pure
end
