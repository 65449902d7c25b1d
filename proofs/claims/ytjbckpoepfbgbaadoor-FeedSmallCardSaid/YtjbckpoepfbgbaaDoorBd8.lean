/- 7 texts in one file: Mem, Eq9, Opg, Pfe, Mbr, PureFeedSmall, Opn. -/
import Derived.Test.YtjbckpoepfbgbaaDoorPrx10
import Derived.Test.YtjbckpoepfbgbaaDoorPrx9
import Derived.Test.YtjbckpoepfbgbaaDoorBd2
import Derived.Deep.Slices
import Derived.Deep.Fields
import Derived.ChangeSame
import Derived.ProofKit
import Derived.SizedLaws
import Derived.Test.YtjbckpoepfbgbaaDoorBd6
import Derived.Test.YtjbckpoepfbgbaaDoorBd7
import Derived.Test.YtjbckpoepfbgbaaDoorBd3
import Derived.Test.YtjbckpoepfbgbaaDoorSml
import Derived.OpenShut
section
/- What the laws' members are, of numbers. No memory in sight. -/
set_option linter.unusedVariables false
set_option maxRecDepth 20000
namespace Go.Proofs.YtjbckpoepfbgbaaDoor.Mem
open Go.RowKit Go.Proofs.YtjbckpoepfbgbaaDoor.Pr Go.Proofs.YtjbckpoepfbgbaaDoorW.PrintWords
/-- Member i. -/
def mem (l : List S72) (i : Nat) : S40 := ⟨Int.tmod (wrap64 ((rd_T72 l i).f0)) 40, Int.tmod (wrap64 ((rd_T72 l i).f1)) 6, strOfNums (([(wrap64 (65 + (i : Int))) % 256] : List Int)), (⟨0, (⟨#[]⟩ : ByteArray), (⟨#[]⟩ : ByteArray), ([] : List (S61)), ([] : List (S28)), (⟨#[]⟩ : ByteArray)⟩ : S28)⟩
def mems (l : List S72) (n : Nat) : List S40 := (List.range n).map (mem l)
theorem mems_len (l : List S72) (n : Nat) : (mems l n).length = n := by simp [mems]
theorem mems_snoc (l : List S72) (n : Nat) : mems l (n + 1) = mems l n ++ [mem l n] := by simp [mems, List.range_succ]
theorem members_l (l : List S72) (d : Nat) : ∀ i : Nat, i ≤ l.length → i ≤ 60 → min l.length 60 - i = d → broadsheetlaw22_Members.l0 (d + 1) l (mems l i) (i : Int) = some (mems l (min l.length 60)) := by
  induction d with
  | zero =>
    intro i h1 h2 hd
    have hi : i = min l.length 60 := by omega
    simp only [broadsheetlaw22_Members.l0]
    rw [← hi]
    by_cases c : (i : Int) < (l.length : Int)
    · rw [if_pos c, if_neg (by omega)]
    · rw [if_neg c]
  | succ d ih =>
    intro i h1 h2 hd
    obtain ⟨m, hm⟩ : ∃ m, m = d + 1 := ⟨_, rfl⟩
    rw [← hm]
    simp only [broadsheetlaw22_Members.l0]
    rw [if_pos (by omega), if_pos (by omega), if_pos (by omega), mems_len, if_pos (by omega)]
    have hw : wrap64 ((i : Int) + 1) = ((i + 1 : Nat) : Int) := by unfold wrap64; omega
    rw [hw, hm]
    have := ih (i + 1) (by omega) (by omega) (by omega)
    rw [mems_snoc] at this
    exact this
theorem members_f (l : List S72) : ∃ k, broadsheetlaw22_Members.f k l = some (mems l (min l.length 60)) :=
  ⟨min l.length 60 + 1, members_l l (min l.length 60) 0 (Nat.zero_le _) (Nat.zero_le _) rfl⟩
end Go.Proofs.YtjbckpoepfbgbaaDoor.Mem
end
section
/- A node stands to itself as the same, and this comes to an end. No memory in sight, but for where nodes come from. -/
set_option linter.unusedVariables false
set_option maxRecDepth 20000
namespace Go.Proofs.YtjbckpoepfbgbaaDoor.Eq9
open Go.RowKit Go.Proofs.YtjbckpoepfbgbaaDoor.Pr Go.Proofs.YtjbckpoepfbgbaaDoorW.PrintWords
abbrev fS (k : Nat) (x y : S28) : Option Bool := broadsheetref09_Same.f k x.f0 x.f1 x.f2 x.f3 x.f4 x.f5 y.f0 y.f1 y.f2 y.f3 y.f4 y.f5
theorem eq_true (k : Nat) : (∀ (x : S28) (t : Bool), fS k x x = some t → t = true) ∧
    (∀ (i : Int) (x : S28) (t : Bool), broadsheetref09_Same.l0 k i x.f0 x.f1 x.f2 x.f3 x.f4 x.f5 x.f0 x.f1 x.f2 x.f3 x.f4 x.f5 = some t → t = true) ∧
    (∀ (i : Int) (x : S28) (t : Bool), broadsheetref09_Same.l1 k i x.f0 x.f1 x.f2 x.f3 x.f4 x.f5 x.f0 x.f1 x.f2 x.f3 x.f4 x.f5 = some t → t = true) ∧
    (∀ (x : S28) (t : Bool), broadsheetref09_Same.j0 k false x.f0 x.f1 x.f2 x.f3 x.f4 x.f5 x.f0 x.f1 x.f2 x.f3 x.f4 x.f5 = some t → t = true) := by
  induction k with
  | zero =>
    refine ⟨fun x t h => ?_, fun i x t h => ?_, fun i x t h => ?_, fun x t h => ?_⟩
    · simp [fS, broadsheetref09_Same.f] at h
    · simp [broadsheetref09_Same.l0] at h
    · simp [broadsheetref09_Same.l1] at h
    · simp [broadsheetref09_Same.j0] at h
  | succ k ih =>
    obtain ⟨i1, i2, i3, i4⟩ := ih
    refine ⟨fun x t h => ?_, fun i x t h => ?_, fun i x t h => ?_, fun x t h => ?_⟩
    · simp only [fS, broadsheetref09_Same.f, if_true, bne_self_eq_false] at h
      exact i4 x t h
    · simp only [broadsheetref09_Same.l0] at h
      by_cases c1 : i < (x.f3.length : Int)
      · rw [if_pos c1] at h
        by_cases c2 : 0 ≤ i
        · rw [if_pos c2, if_pos c1] at h
          simp only [beq_self_eq_true, Bool.not_true, Bool.or_false] at h
          rw [if_neg (by decide)] at h
          exact i2 _ x t h
        · rw [if_neg c2] at h; cases h
      · rw [if_neg c1] at h
        exact i3 _ x t h
    · simp only [broadsheetref09_Same.l1] at h
      by_cases c1 : i < (x.f4.length : Int)
      · rw [if_pos c1] at h
        by_cases c2 : 0 ≤ i
        · rw [if_pos c2, if_pos c1] at h
          obtain ⟨b, hb, h⟩ := Option.bind_eq_some_iff.mp h
          obtain rfl := i1 _ b hb
          rw [if_pos rfl] at h
          exact i3 _ x t h
        · rw [if_neg c2] at h; cases h
      · rw [if_neg c1] at h
        exact (Option.some.inj h).symm
    · simp only [broadsheetref09_Same.j0] at h
      rw [if_neg (by decide)] at h
      exact i2 _ x t h
/-- A node of finite depth, its lists no longer than may be. -/
inductive Fin28 : S28 → Prop
  | mk (x : S28) : x.f3.length ≤ 9223372036854775807 → x.f4.length ≤ 9223372036854775807 → (∀ y ∈ x.f4, Fin28 y) → Fin28 x
theorem fS_mono (x y : S28) (k : Nat) : LeO (fS k x y) (fS (k + 1) x y) := broadsheetref09_Same.mono _ _ _ _ _ _ _ _ _ _ _ _ k
theorem all_at (l : List S28) (h : ∀ y ∈ l, ∃ k, fS k y y = some true) : ∃ K, ∀ y ∈ l, ∀ k, K ≤ k → fS k y y = some true := by
  induction l with
  | nil => exact ⟨0, fun y hy => by simp at hy⟩
  | cons x l ih =>
    obtain ⟨K, hK⟩ := ih (fun y hy => h y (List.mem_cons_of_mem _ hy))
    obtain ⟨k0, h0⟩ := h x (List.mem_cons_self ..)
    refine ⟨max K k0, fun y hy k hk => ?_⟩
    rcases List.mem_cons.1 hy with rfl | hy
    · exact at_rounds (g := fun k => fS k y y) (fS_mono y y) (by omega) h0
    · exact hK y hy k (by omega)
theorem wrap_succ {i : Int} {n : Nat} (h0 : 0 ≤ i) (h : i < (n : Int)) (hn : n ≤ 9223372036854775807) : wrap64 (i + 1) = i + 1 := by
  unfold wrap64
  omega
theorem kids_end (x : S28) (K : Nat) (hn : x.f4.length ≤ 9223372036854775807) (hK : ∀ y ∈ x.f4, ∀ k, K ≤ k → fS k y y = some true) (d : Nat) : ∀ (i : Int), 0 ≤ i → i ≤ x.f4.length → (x.f4.length : Int) - i = d →
    broadsheetref09_Same.l1 (K + d + 1) i x.f0 x.f1 x.f2 x.f3 x.f4 x.f5 x.f0 x.f1 x.f2 x.f3 x.f4 x.f5 = some true := by
  induction d with
  | zero =>
    intro i h0 h1 hd
    simp only [broadsheetref09_Same.l1]
    rw [if_neg (by omega)]
  | succ d ih =>
    intro i h0 h1 hd
    have hlt : i < (x.f4.length : Int) := by omega
    have e : K + (d + 1) + 1 = (K + d + 1) + 1 := by omega
    rw [e]
    obtain ⟨m, hmm⟩ : ∃ m, m = K + d + 1 := ⟨_, rfl⟩
    rw [← hmm]
    simp only [broadsheetref09_Same.l1]
    rw [hmm]
    rw [if_pos hlt, if_pos h0, if_pos hlt]
    have hm : rd_T28 x.f4 i ∈ x.f4 := by
      unfold rd_T28
      rw [List.getD_eq_getElem?_getD, List.getElem?_eq_getElem (by omega)]
      exact List.getElem_mem _
    have h2 := hK _ hm (K + d + 1) (by omega)
    unfold fS at h2
    rw [h2]
    simp only [Option.bind_some, if_true]
    rw [wrap_succ h0 hlt hn]
    exact ih (i + 1) (by omega) (by omega) (by omega)
theorem attrs_end (x : S28) (k0 : Nat) (hn : x.f3.length ≤ 9223372036854775807) (h : broadsheetref09_Same.l1 k0 0 x.f0 x.f1 x.f2 x.f3 x.f4 x.f5 x.f0 x.f1 x.f2 x.f3 x.f4 x.f5 = some true) (d : Nat) : ∀ (i : Int), 0 ≤ i → i ≤ x.f3.length → (x.f3.length : Int) - i = d →
    broadsheetref09_Same.l0 (k0 + d + 1) i x.f0 x.f1 x.f2 x.f3 x.f4 x.f5 x.f0 x.f1 x.f2 x.f3 x.f4 x.f5 = some true := by
  induction d with
  | zero =>
    intro i h0 h1 hd
    simp only [broadsheetref09_Same.l0]
    rw [if_neg (by omega)]
    exact h
  | succ d ih =>
    intro i h0 h1 hd
    have hlt : i < (x.f3.length : Int) := by omega
    have e : k0 + (d + 1) + 1 = (k0 + d + 1) + 1 := by omega
    rw [e]
    obtain ⟨m, hmm⟩ : ∃ m, m = k0 + d + 1 := ⟨_, rfl⟩
    rw [← hmm]
    simp only [broadsheetref09_Same.l0]
    rw [hmm]
    rw [if_pos hlt, if_pos h0, if_pos hlt]
    simp only [beq_self_eq_true, Bool.not_true, Bool.or_false]
    rw [if_neg (by decide), wrap_succ h0 hlt hn]
    exact ih (i + 1) (by omega) (by omega) (by omega)
theorem fin_end {x : S28} (h : Fin28 x) : ∃ k, fS k x x = some true := by
  induction h with
  | mk x h3 h4 hk ih =>
    obtain ⟨K, hK⟩ := all_at x.f4 ih
    have a := kids_end x K h4 hK x.f4.length 0 (by omega) (by omega) (by omega)
    have b := attrs_end x _ h3 a x.f3.length 0 (by omega) (by omega) (by omega)
    refine ⟨K + x.f4.length + 1 + x.f3.length + 1 + 1 + 1, ?_⟩
    simp only [fS, broadsheetref09_Same.f, if_true, bne_self_eq_false]
    simp only [broadsheetref09_Same.j0]
    rw [if_neg (by decide)]
    exact b
end Go.Proofs.YtjbckpoepfbgbaaDoor.Eq9
end
section
/- A slice of members that comes in, with all their trees, reads as a row of them; no part of it is longer than its weight allows. -/
set_option linter.unusedVariables false
set_option maxRecDepth 20000
namespace Go.Proofs.YtjbckpoepfbgbaaDoor.Opg
open Go.ChangeShapes Go.WideShapes Go.Deep Go.RowKit Go.Proofs.YtjbckpoepfbgbaaDoor.Pr Go.Proofs.YtjbckpoepfbgbaaDoorW.PrintWords
section
variable {H : Type} {enc : TypeId × Value → H} {P : Program} {w : World} {base : Nat} {spare : Nat → Bool} {held : Bool}
end
def gs (s : ByteArray) : Prop := s.size ≤ 140737488351232
def Good61 (a : S61) : Prop := gs a.f0 ∧ gs a.f1 ∧ gs a.f2
/-- A node no part of which is longer than may be. -/
inductive Good28 : S28 → Prop
  | mk (x : S28) : gs x.f1 → gs x.f2 → gs x.f5 → x.f3.length * 48 ≤ 140737488351232 → x.f4.length * 104 ≤ 140737488351232 → (∀ a ∈ x.f3, Good61 a) → (∀ y ∈ x.f4, Good28 y) → Good28 x
section
variable {H : Type} {enc : TypeId × Value → H} {w : World} {base : Nat} {spare : Nat → Bool} {held : Bool}
end
end Go.Proofs.YtjbckpoepfbgbaaDoor.Opg
end
section
/- Feeds, services and what any right program answers: plain. -/
set_option linter.unusedVariables false
set_option linter.unusedSimpArgs false
set_option maxRecDepth 20000
namespace Go.Proofs.YtjbckpoepfbgbaaDoor.Pfe
open Go.RowKit Go.Proofs.YtjbckpoepfbgbaaDoor.Pr Go.Proofs.YtjbckpoepfbgbaaDoor.Gv Go.Proofs.YtjbckpoepfbgbaaDoor.Fd Go.Proofs.YtjbckpoepfbgbaaDoor.Fun Go.Proofs.YtjbckpoepfbgbaaDoor.Lnk Go.Proofs.YtjbckpoepfbgbaaDoor.Mrg Go.Proofs.YtjbckpoepfbgbaaDoor.Srt Go.Proofs.YtjbckpoepfbgbaaDoor.Eq9 Go.Proofs.YtjbckpoepfbgbaaDoor.Opg Go.Proofs.YtjbckpoepfbgbaaDoorW.PrintWords
theorem fin_leaf (x : S28) (h3 : x.f3.length ≤ 9223372036854775807) (h4 : x.f4 = []) : Fin28 x := Fin28.mk x h3 (by rw [h4]; decide) (fun y hy => by rw [h4] at hy; cases hy)
theorem fin_el (sp nm tx : ByteArray) : Fin28 (elN sp nm tx) := Fin28.mk _ (by simp [elN]) (by simp [elN]) (fun y hy => by
  simp only [elN, List.mem_singleton] at hy
  subst hy
  exact fin_leaf _ (by simp) rfl)
theorem fin_link (a b : ByteArray) : Fin28 (linkN a b) := fin_leaf _ (by simp [linkN]) rfl
theorem fin_z : Fin28 z28 := fin_leaf _ (by decide) rfl
theorem linksUp_mem {base : ByteArray} {k nx la : Int} {j : Nat} {y : S28} (h : y ∈ linksUp base k nx la j) : ∃ a b, y = linkN a b := by
  unfold linksUp at h
  obtain ⟨l, hl, hy⟩ := List.mem_flatten.1 h
  obtain ⟨p, _, rfl⟩ := List.mem_map.1 hl
  unfold linkAt at hy
  split at hy
  · exact ⟨_, _, List.mem_singleton.1 hy⟩
  · cases hy
theorem feedK_fin (base title : ByteArray) (l : List S40) (s k at_ : Int) (h : ∀ m ∈ l, Fin28 m.f3) : ∀ y ∈ feedK base title l s k at_, Fin28 y := by
  intro y hy
  unfold feedK at hy
  rcases List.mem_append.1 hy with hy | hy
  · rcases List.mem_append.1 hy with hy | hy
    · simp only [List.mem_cons, List.not_mem_nil, or_false] at hy
      rcases hy with rfl | rfl | rfl | rfl
      · exact fin_el _ _ _
      · exact fin_el _ _ _
      · exact fin_el _ _ _
      · exact fin_link _ _
    · obtain ⟨a, b, rfl⟩ := linksUp_mem hy
      exact fin_link _ _
  · obtain ⟨m, hm, rfl⟩ := List.mem_map.1 hy
    exact h m ((isort_mem ltM l m).1 (List.mem_of_mem_take (List.mem_of_mem_drop hm)))
theorem feedK_len (base title : ByteArray) (l : List S40) (s k at_ : Int) : (feedK base title l s k at_).length ≤ 8 + l.length := by
  have h := linksUp_len base k (nextP l.length s k) (lastP l.length s) 4
  unfold feedK
  rw [List.length_append, List.length_append, List.length_map]
  have h2 : (pageOf l s k).length ≤ l.length := by
    unfold pageOf
    rw [List.length_drop, List.length_take]
    omega
  simp only [List.length_cons, List.length_nil]
  omega
theorem feedV_fin (base title : ByteArray) (l : List S40) (s k : Int) (hl : l.length ≤ 1000000) (h : ∀ m ∈ l, Fin28 m.f3) : Fin28 (feedV base title l s k).1 := by
  unfold feedV
  split
  · exact fin_z
  split
  · exact fin_z
  split
  · exact fin_z
  split
  · exact fin_z
  · have := feedK_len base title l s k (latN l)
    exact Fin28.mk _ (by simp) (by show (feedK _ _ _ _ _ _).length ≤ _; omega) (feedK_fin base title l s k _ h)
theorem feedV_f3 (base title : ByteArray) (l : List S40) (s k : Int) : (feedV base title l s k).1.f3 = [] := by
  unfold feedV
  repeat' split
  all_goals rfl
theorem feed_f (base title : ByteArray) (l : List S40) (s k : Int) (hl : l.length ≤ 1000000) (hb : base.size ≤ 140737488351232) (ht : title.size ≤ 140737488351232) :
    feed_Feed.f base title l s k = some (tup (feedV base title l s k).1 (feedV base title l s k).2) ∧ broadsheetref23_Feed.f base title l s k = some (tup (feedV base title l s k).1 (feedV base title l s k).2) := by
  have h : feed_Feed.f base title l s k = some (tup (feedV base title l s k).1 (feedV base title l s k).2) := by
    unfold feed_Feed.f tup
    rw [if_pos hl, if_pos hb, if_pos ht, feedV_f3]
  exact ⟨h, h⟩
theorem serv_f (k : Nat) (a0 a1 : ByteArray) : feed_Service.f (k + 1) a0 a1 = some (tup (servV a0 a1).1 (servV a0 a1).2) := rfl
theorem elx_fin (a b : ByteArray) : Fin28 (elx a b) := by
  unfold elx
  split
  · exact fin_leaf _ (by simp) rfl
  · refine Fin28.mk _ (by simp) (by simp) (fun y hy => ?_)
    simp only [List.mem_singleton] at hy
    subst hy
    exact fin_leaf _ (by simp) rfl
theorem plainN_fin (a : ByteArray) : Fin28 (plainN a) := by
  refine Fin28.mk _ (by simp [plainN]) (by simp [plainN]) (fun y hy => ?_)
  simp only [plainN, List.mem_cons, List.not_mem_nil, or_false] at hy
  rcases hy with rfl | rfl
  · refine Fin28.mk _ (by simp) (by simp) (fun y hy => ?_)
    simp only [List.mem_singleton] at hy
    subst hy
    exact elx_fin _ _
  · exact elx_fin _ _
theorem plain_some (a : ByteArray) : ∃ x : S28, broadsheetlaw15_Plain.f a = some (tup6 x) ∧ Fin28 x ∧ x.f2 = ⟨#[101, 110, 116, 114, 121]⟩ := ⟨plainN a, rfl, plainN_fin a, rfl⟩
/-- What any right program answers. -/
theorem awake_f (k : Nat) : broadsheetlaw23_awake.f (k + 1) = some true := by
  unfold broadsheetlaw23_awake.f
  rw [serv_f]
  simp only [Option.bind_some]
  obtain ⟨x, hp, _⟩ := plain_some (⟨#[116]⟩ : ByteArray)
  rw [hp]
  obtain ⟨p, hp2⟩ : ∃ p, p = tup6 x := ⟨_, rfl⟩
  rw [← hp2]
  simp only [Option.bind_some]
  obtain ⟨m, hm⟩ : ∃ m : S40, m = ⟨1, 5, (⟨#[]⟩ : ByteArray), (⟨p.1, p.2.1, p.2.2.1, p.2.2.2.1, p.2.2.2.2.1, p.2.2.2.2.2⟩ : S28)⟩ := ⟨_, rfl⟩
  rw [← hm, (feed_f ⟨#[47, 99]⟩ ⟨#[120]⟩ [m] 10 1 (by simp) (by decide) (by decide)).1]
  simp only [Option.bind_some]
  have hs : servV ⟨#[47, 99]⟩ ⟨#[120]⟩ = (servN ⟨#[47, 99]⟩ ⟨#[120]⟩, 0) := by
    unfold servV
    rw [if_neg (by rw [ByteArray.toList_eq]; decide), if_neg (by rw [ByteArray.toList_eq]; decide)]
  have hl : latN [m] = 5 := by rw [hm]; rfl
  have hv : feedV ⟨#[47, 99]⟩ ⟨#[120]⟩ [m] 10 1 = (⟨0, atomB, feedB, [], feedK ⟨#[47, 99]⟩ ⟨#[120]⟩ [m] 10 1 5, ⟨#[]⟩⟩, 0) := by
    unfold feedV
    rw [hl, if_neg (by unfold Bad; simp), if_neg (by simp [lastP]), if_neg (by unfold inR; simp), if_neg (by rw [ByteArray.toList_eq, ByteArray.toList_eq]; decide)]
  rw [hs, hv]
  have hk : ((feedK ⟨#[47, 99]⟩ ⟨#[120]⟩ [m] 10 1 5).length : Int) = 7 := by
    unfold feedK linksUp linkAt pageOf
    simp [lastP, nextP, isort_len]
  simp only [tup]
  have t1 : (servN ⟨#[47, 99]⟩ ⟨#[120]⟩).f2.toList = [115, 101, 114, 118, 105, 99, 101] := by rw [ByteArray.toList_eq]; rfl
  have t2 : feedB.toList = [102, 101, 101, 100] := by rw [ByteArray.toList_eq]; rfl
  have t3 : ((servN ⟨#[47, 99]⟩ ⟨#[120]⟩).f4.length : Int) = 1 := rfl
  simp [t1, t2, t3, hk]
end Go.Proofs.YtjbckpoepfbgbaaDoor.Pfe
end
section
/- The members of the laws of feeds: each one's entry is a plain one, told by its tag. No memory in sight. -/
set_option linter.unusedVariables false
set_option maxRecDepth 20000
namespace Go.Proofs.YtjbckpoepfbgbaaDoor.Mem
open Go.RowKit Go.Proofs.YtjbckpoepfbgbaaDoor.Pr Go.Proofs.YtjbckpoepfbgbaaDoor.Fd Go.Proofs.YtjbckpoepfbgbaaDoor.Pfe Go.Proofs.YtjbckpoepfbgbaaDoor.Eq9 Go.Proofs.YtjbckpoepfbgbaaDoorW.PrintWords
/-- A member with its entry. -/
def ent (m : S40) : S40 := ⟨m.f0, m.f1, m.f2, plainN ((⟨#[116]⟩ : ByteArray) ++ m.f2)⟩
def up (M : List S40) (i : Nat) : List S40 := (M.take i).map ent ++ M.drop i
theorem up_len (M : List S40) (i : Nat) : (up M i).length = M.length := by unfold up; rw [List.length_append, List.length_map, List.length_take, List.length_drop]; omega
theorem up_at (M : List S40) (i : Nat) (h : i < M.length) : rd_T40 (up M i) (i : Int) = M[i] := by
  unfold rd_T40 up
  have e : ((i : Nat) : Int).toNat = i := rfl
  rw [e, List.getD_eq_getElem?_getD, List.getElem?_append_right (by rw [List.length_map, List.length_take]; omega), List.length_map, List.length_take, Nat.min_eq_left (by omega), Nat.sub_self, List.getElem?_drop, Nat.add_zero, List.getElem?_eq_getElem h]
  rfl
theorem up_set (M : List S40) (i : Nat) (h : i < M.length) : (up M i).set i (ent M[i]) = up M (i + 1) := by
  unfold up
  rw [List.set_append_right _ _ (by rw [List.length_map, List.length_take]; omega), List.length_map, List.length_take, Nat.min_eq_left (by omega), Nat.sub_self, List.drop_eq_getElem_cons h, List.set_cons_zero, List.take_succ_eq_append_getElem h, List.map_append, List.append_assoc]
  rfl
theorem ents_l (M : List S40) (hl : M.length ≤ 60) (hs : ∀ m ∈ M, m.f2.size ≤ 1000) (d : Nat) : ∀ (k i : Nat), i ≤ M.length → M.length - i = d → d < k → broadsheetlaw23_members.l0 k (up M i) (i : Int) = some (M.map ent) := by
  induction d with
  | zero =>
    intro k i hi hd hk
    obtain ⟨k, rfl⟩ : ∃ q, k = q + 1 := ⟨k - 1, by omega⟩
    simp only [broadsheetlaw23_members.l0]
    rw [up_len, if_neg (by omega)]
    have e : i = M.length := by omega
    subst e
    unfold up
    rw [List.take_length, List.drop_length, List.append_nil]
  | succ d ih =>
    intro k i hi hd hk
    obtain ⟨k, rfl⟩ : ∃ q, k = q + 1 := ⟨k - 1, by omega⟩
    have hlt : i < M.length := by omega
    have h2 := hs _ (List.getElem_mem hlt)
    simp only [broadsheetlaw23_members.l0]
    rw [up_len, if_pos (by omega), if_pos (by omega), up_at M i hlt, if_pos (by omega)]
    show broadsheetlaw23_members.l0 k ((up M i).set i (ent M[i])) (wrap64 ((i : Int) + 1)) = _
    have hw : wrap64 ((i : Int) + 1) = ((i + 1 : Nat) : Int) := by unfold wrap64; omega
    rw [hw, up_set M i hlt]
    exact ih k (i + 1) (by omega) (by omega) (by omega)
/-- What the law's members are. -/
def mem23 (l : List S72) : List S40 := (mems l (min l.length 60)).map ent
theorem mem23_len (l : List S72) : (mem23 l).length ≤ 60 := by unfold mem23; rw [List.length_map, mems_len]; omega
theorem members23_f (l : List S72) : ∃ k, ∀ q, k ≤ q → broadsheetlaw23_members.f q l = some (mem23 l) := by
  obtain ⟨k0, h0⟩ := members_f l
  refine ⟨k0 + 61, fun q hq => ?_⟩
  have h1 : broadsheetlaw22_Members.f q l = some (mems l (min l.length 60)) := at_rounds (g := fun k => broadsheetlaw22_Members.f k l) (fun k => broadsheetlaw22_Members.mono l k) (by omega) h0
  unfold broadsheetlaw23_members.f
  rw [h1]
  simp only [Option.bind_some]
  have h2 := ents_l (mems l (min l.length 60)) (by rw [mems_len]; omega) (fun m hm => by
    obtain ⟨i, _, rfl⟩ := List.mem_map.1 hm
    show (strOfNums _).size ≤ 1000
    simp [strOfNums, ByteArray.size]) (min l.length 60) q 0 (Nat.zero_le _) (by rw [mems_len]; rfl) (by omega)
  exact h2
theorem mem23_fin (l : List S72) : ∀ m ∈ mem23 l, Fin28 m.f3 := by
  intro m hm
  obtain ⟨a, _, rfl⟩ := List.mem_map.1 hm
  exact plainN_fin _
end Go.Proofs.YtjbckpoepfbgbaaDoor.Mem
end
section
/- FeedSmall's plain statement: both feeds of small members are the same node. No memory in sight. -/
set_option linter.unusedVariables false
set_option maxRecDepth 20000
namespace Go.Proofs.YtjbckpoepfbgbaaDoor.Pure
open Go.RowKit Go.Proofs.YtjbckpoepfbgbaaDoor.Pr Go.Proofs.YtjbckpoepfbgbaaDoor.Fd Go.Proofs.YtjbckpoepfbgbaaDoor.Pfe Go.Proofs.YtjbckpoepfbgbaaDoor.Mem Go.Proofs.YtjbckpoepfbgbaaDoor.Eq9 Go.Proofs.YtjbckpoepfbgbaaDoorW.PrintWords
theorem FeedSmall (l : List S72) (a1 a2 : Int) (y1 : (Lit.int .u8 a1).wf = true) (y2 : (Lit.int .u8 a2).wf = true) : ∃ k, broadsheetlaw23_FeedSmall.f k l a1 a2 = some true := by
  obtain ⟨K, hK⟩ := members23_f l
  have hl := mem23_len l
  obtain ⟨s, hs⟩ : ∃ s, s = wrap64 (1 + (Int.tmod (wrap64 (a1)) 9)) := ⟨_, rfl⟩
  obtain ⟨p, hp⟩ : ∃ p, p = Int.tmod (wrap64 (a2)) 12 := ⟨_, rfl⟩
  obtain ⟨k1, h1⟩ := fin_end (feedV_fin ⟨#[47, 99]⟩ ⟨#[120]⟩ (mem23 l) s p (by omega) (mem23_fin l))
  obtain ⟨kk, hkk⟩ : ∃ kk, kk = K + k1 + 1 := ⟨_, rfl⟩
  have e1 : fS kk (feedV ⟨#[47, 99]⟩ ⟨#[120]⟩ (mem23 l) s p).1 (feedV ⟨#[47, 99]⟩ ⟨#[120]⟩ (mem23 l) s p).1 = some true := at_rounds (g := fun k => fS k _ _) (fS_mono _ _) (by omega) h1
  obtain ⟨q, hq⟩ : ∃ q, kk = q + 1 := ⟨kk - 1, by omega⟩
  refine ⟨kk, ?_⟩
  unfold broadsheetlaw23_FeedSmall.f
  rw [hK kk (by omega), ← hs, ← hp]
  simp only [Option.bind_some]
  rw [(feed_f ⟨#[47, 99]⟩ ⟨#[120]⟩ (mem23 l) s p (by omega) (by decide) (by decide)).1, (feed_f ⟨#[47, 99]⟩ ⟨#[120]⟩ (mem23 l) s p (by omega) (by decide) (by decide)).2]
  simp only [Option.bind_some]
  rw [hq, awake_f, ← hq]
  simp only [Option.bind_some, tup]
  unfold fS at e1
  rw [e1]
  simp
end Go.Proofs.YtjbckpoepfbgbaaDoor.Pure
end
section
/- A slice of structs of two small numbers that comes in reads as a row of them. -/
set_option linter.unusedVariables false
set_option maxRecDepth 20000
namespace Go.Proofs.YtjbckpoepfbgbaaDoor.Opn
open Go.ChangeShapes Go.WideShapes Go.Deep Go.RowKit Go.Proofs.YtjbckpoepfbgbaaDoor.Pr Go.Proofs.YtjbckpoepfbgbaaDoorW.PrintWords
section
variable {H : Type} {enc : TypeId × Value → H} {P : Program} {w : World} {base : Nat} {spare : Nat → Bool} {held : Bool}
theorem open_slice_fields {t e : TypeId} {fs : Array Field} {fuel : Nat} {cs : List Value} {x : DataW H × List MemPlace} (ht : P.underlying t = some (.slice e)) (he : P.underlying e = some (.struct fs))
    (hone : oneCellFields P fs = true) (hC : P.cellsOf e = fs.size) (h : DataW.trod enc P w base spare held fuel t cs = some x) :
    (cs = [.slice none 0 0] ∧ x = (.nil, [])) ∨
    ∃ (a : Addr) (len cap m : Nat) (D : Nat → DataW H) (Pl : Nat → List MemPlace), cs = [.slice (some a) len cap] ∧ base ≤ a.block ∧ len ≤ cap ∧ cap ≤ maxLen ∧ m = (if spare a.block then cap else len) ∧
      x = (.slice ((List.range len).map D) ((List.range (m - len)).map fun j => D (len + j)), MemPlace.row a (m * fs.size) ++ (List.range m).flatMap Pl) ∧
      ∀ i, i < m → ∃ (ys : List (DataW H × List MemPlace)) (n : Nat), D i = .agg (ys.map (·.1)) ∧ Pl i = ys.flatMap (·.2) ∧ ys.length = fs.size ∧
        ∀ (j : Nat) (f : Field), fs[j]? = some f → ∃ (v : Value) (y : DataW H × List MemPlace), w.cell? (a.add (i * fs.size + j)) = some v ∧ ys[j]? = some y ∧ DataW.trod enc P w base spare held n f.type [v] = some y := by
  rcases open_slice ht h with h0 | ⟨a, len, cap, m, n, D, Pl, hcs, hb, hl, hm, hmm, hx, hi⟩
  · exact .inl h0
  · refine .inr ⟨a, len, cap, m, D, Pl, hcs, hb, hl, hm, hmm, by rw [hC] at hx; exact hx, fun i him => ?_⟩
    obtain ⟨cs', hc, ht'⟩ := hi i him
    rw [hC] at hc
    obtain ⟨ys, n', hn', hy, hlen, hyl, hf⟩ := DataW.trod_struct he ht'
    obtain ⟨_, hcl, hat⟩ := World.cells?_some hc
    simp only [Prod.mk.injEq] at hy
    refine ⟨ys, n', hy.1, hy.2, hyl, fun j f hj => ?_⟩
    obtain ⟨ho, hk⟩ := hone_of hone j f hj
    have hjl : j < fs.size := (Array.getElem?_eq_some_iff.1 hj).1
    have hcell := hat j hjl
    have hv : cs'[j]? = some (cs'[j]'(by omega)) := List.getElem?_eq_getElem (by omega)
    have h1 := hf j f hj
    rw [ho, hk] at h1
    have hone' : (cs'.drop j).take 1 = [cs'[j]'(by omega)] := by
      rw [List.drop_eq_getElem_cons (by omega)]
      rfl
    rw [hone'] at h1
    have hys : ys[j]? = some (ys[j]'(by omega)) := List.getElem?_eq_getElem (by omega)
    refine ⟨_, _, ?_, hys, h1.trans hys⟩
    rw [← Go.Deep.add_add, hcell, hv]
end
theorem cells72 : Tryd.prog.cellsOf 72 = 2 := by kernel_rfl
section
variable {H : Type} {enc : TypeId × Value → H} {w : World} {base : Nat} {spare : Nat → Bool} {held : Bool}
/-- A slice of bits. -/
theorem read_bits {a : Option Addr} {len cap : Nat} {d : DataW H} {p : List MemPlace} (h : DataW.Trod enc Tryd.prog w base spare held 35 (.slice a len cap) d p) : ∃ l : List S72, l.length = len ∧ len ≤ cap ∧ Kd.C k72 w a l.length l := by
  obtain ⟨fuel, hf⟩ := h
  rcases open_slice_fields (Tryd.underlying35) (Tryd.underlying72) (by kernel_rfl) cells72 hf with ⟨hcs, _⟩ | ⟨x, n, c, m, D, Pl, hcs, _, hl, hm, hmm, hx, hi⟩
  · simp [Value.cells] at hcs
    obtain ⟨rfl, rfl, rfl⟩ := hcs
    exact ⟨[], rfl, Nat.le_refl _, ⟨rfl, by decide, fun h => absurd h (by decide)⟩⟩
  · simp [Value.cells] at hcs
    obtain ⟨rfl, rfl, rfl⟩ := hcs
    have hmn : len ≤ m := by rw [hmm]; split <;> omega
    have hx2 : ∀ i, ∃ z : S72, i < m → w.cell? (x.add (i * 2 + 0)) = some (.int .u8 z.f0) ∧ w.cell? (x.add (i * 2 + 1)) = some (.int .u8 z.f1) := by
      intro i
      by_cases him : i < m
      · obtain ⟨ys, n', _, _, _, hfl⟩ := hi i him
        obtain ⟨v0, y0, hc0, _, ht0⟩ := hfl 0 _ rfl
        obtain ⟨v1, y1, hc1, _, ht1⟩ := hfl 1 _ rfl
        obtain ⟨n0, e0, _, _⟩ := DataW.trod_int (Tryd.underlying5) ht0
        obtain ⟨n1, e1, _, _⟩ := DataW.trod_int (Tryd.underlying5) ht1
        simp at e0 e1
        exact ⟨⟨n0, n1⟩, fun _ => ⟨by rw [← e0]; exact hc0, by rw [← e1]; exact hc1⟩⟩
      · exact ⟨⟨0, 0⟩, fun h => absurd h him⟩
    refine ⟨(List.range len).map (fun i => Classical.choose (hx2 i)), by simp, hl, ?_⟩
    rw [List.length_map, List.length_range]
    refine ⟨by simp, Nat.le_trans hl (Nat.le_trans hm (by decide)), fun hp => ⟨x, rfl, fun j q hj => ?_⟩⟩
    rw [List.getElem?_map] at hj
    obtain ⟨i, hi2, rfl⟩ := Option.map_eq_some_iff.1 hj
    obtain ⟨hjl, hij⟩ := List.getElem?_eq_some_iff.1 hi2
    simp at hij hjl
    subst hij
    obtain ⟨c0, c1⟩ := Classical.choose_spec (hx2 j) (by omega)
    refine ⟨_, rfl, k72_mk w _, fun i u hu => ?_⟩
    rcases i with _ | _ | i
    · obtain rfl := Option.some.inj hu; exact c0
    · obtain rfl := Option.some.inj hu; exact c1
    · simp at hu
end
end Go.Proofs.YtjbckpoepfbgbaaDoor.Opn
end
