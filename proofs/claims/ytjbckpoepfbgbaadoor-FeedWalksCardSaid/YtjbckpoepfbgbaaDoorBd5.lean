/- 7 texts in one file: Eq9, Opg, Pfe, Mbr, Fwk, PureFeedWalks, Opn. -/
import Derived.Test.YtjbckpoepfbgbaaDoorPrx9
import Derived.Test.YtjbckpoepfbgbaaDoorBd1
import Derived.Deep.Slices
import Derived.Deep.Fields
import Derived.ChangeSame
import Derived.ProofKit
import Derived.SizedLaws
import Derived.Test.YtjbckpoepfbgbaaDoorBd4
import Derived.Test.YtjbckpoepfbgbaaDoorBd2
import Derived.OpenShut
section
/- A node stands to itself as the same, and this comes to an end. No memory in sight, but for where nodes come from. -/
set_option linter.unusedVariables false
set_option maxRecDepth 20000
namespace Go.Proofs.YtjbckpoepfbgbaaDoor.Eq9
open Go.RowKit Go.Proofs.YtjbckpoepfbgbaaDoor.Pr Go.Proofs.YtjbckpoepfbgbaaDoorW.PrintWords
abbrev fS (k : Nat) (x y : S28) : Option Bool := broadsheetref09_Same.f k x.f0 x.f1 x.f2 x.f3 x.f4 x.f5 y.f0 y.f1 y.f2 y.f3 y.f4 y.f5
theorem eq_true (k : Nat) : (∀ (x : S28) (t : Bool), fS k x x = some t → t = true) ∧
    (∀ (i : Int) (x : S28) (t : Bool), broadsheetref09_Same.l0 k i x.f0 x.f1 x.f2 x.f3 x.f4 x.f5 x.f0 x.f1 x.f2 x.f3 x.f4 x.f5 = some t → t = true) ∧
    (∀ (i : Int) (x : S28) (t : Bool), broadsheetref09_Same.l1 k i x.f0 x.f1 x.f2 x.f3 x.f4 x.f5 x.f0 x.f1 x.f2 x.f3 x.f4 x.f5 = some t → t = true) ∧
    (∀ (x : S28) (t : Bool), broadsheetref09_Same.j0 k false x.f0 x.f1 x.f2 x.f3 x.f4 x.f5 x.f0 x.f1 x.f2 x.f3 x.f4 x.f5 = some t → t = true) := by
  induction k with
  | zero =>
    refine ⟨fun x t h => ?_, fun i x t h => ?_, fun i x t h => ?_, fun x t h => ?_⟩
    · simp [fS, broadsheetref09_Same.f] at h
    · simp [broadsheetref09_Same.l0] at h
    · simp [broadsheetref09_Same.l1] at h
    · simp [broadsheetref09_Same.j0] at h
  | succ k ih =>
    obtain ⟨i1, i2, i3, i4⟩ := ih
    refine ⟨fun x t h => ?_, fun i x t h => ?_, fun i x t h => ?_, fun x t h => ?_⟩
    · simp only [fS, broadsheetref09_Same.f, if_true, bne_self_eq_false] at h
      exact i4 x t h
    · simp only [broadsheetref09_Same.l0] at h
      by_cases c1 : i < (x.f3.length : Int)
      · rw [if_pos c1] at h
        by_cases c2 : 0 ≤ i
        · rw [if_pos c2, if_pos c1] at h
          simp only [beq_self_eq_true, Bool.not_true, Bool.or_false] at h
          rw [if_neg (by decide)] at h
          exact i2 _ x t h
        · rw [if_neg c2] at h; cases h
      · rw [if_neg c1] at h
        exact i3 _ x t h
    · simp only [broadsheetref09_Same.l1] at h
      by_cases c1 : i < (x.f4.length : Int)
      · rw [if_pos c1] at h
        by_cases c2 : 0 ≤ i
        · rw [if_pos c2, if_pos c1] at h
          obtain ⟨b, hb, h⟩ := Option.bind_eq_some_iff.mp h
          obtain rfl := i1 _ b hb
          rw [if_pos rfl] at h
          exact i3 _ x t h
        · rw [if_neg c2] at h; cases h
      · rw [if_neg c1] at h
        exact (Option.some.inj h).symm
    · simp only [broadsheetref09_Same.j0] at h
      rw [if_neg (by decide)] at h
      exact i2 _ x t h
/-- A node of finite depth, its lists no longer than may be. -/
inductive Fin28 : S28 → Prop
  | mk (x : S28) : x.f3.length ≤ 9223372036854775807 → x.f4.length ≤ 9223372036854775807 → (∀ y ∈ x.f4, Fin28 y) → Fin28 x
theorem fS_mono (x y : S28) (k : Nat) : LeO (fS k x y) (fS (k + 1) x y) := broadsheetref09_Same.mono _ _ _ _ _ _ _ _ _ _ _ _ k
theorem all_at (l : List S28) (h : ∀ y ∈ l, ∃ k, fS k y y = some true) : ∃ K, ∀ y ∈ l, ∀ k, K ≤ k → fS k y y = some true := by
  induction l with
  | nil => exact ⟨0, fun y hy => by simp at hy⟩
  | cons x l ih =>
    obtain ⟨K, hK⟩ := ih (fun y hy => h y (List.mem_cons_of_mem _ hy))
    obtain ⟨k0, h0⟩ := h x (List.mem_cons_self ..)
    refine ⟨max K k0, fun y hy k hk => ?_⟩
    rcases List.mem_cons.1 hy with rfl | hy
    · exact at_rounds (g := fun k => fS k y y) (fS_mono y y) (by omega) h0
    · exact hK y hy k (by omega)
theorem wrap_succ {i : Int} {n : Nat} (h0 : 0 ≤ i) (h : i < (n : Int)) (hn : n ≤ 9223372036854775807) : wrap64 (i + 1) = i + 1 := by
  unfold wrap64
  omega
theorem kids_end (x : S28) (K : Nat) (hn : x.f4.length ≤ 9223372036854775807) (hK : ∀ y ∈ x.f4, ∀ k, K ≤ k → fS k y y = some true) (d : Nat) : ∀ (i : Int), 0 ≤ i → i ≤ x.f4.length → (x.f4.length : Int) - i = d →
    broadsheetref09_Same.l1 (K + d + 1) i x.f0 x.f1 x.f2 x.f3 x.f4 x.f5 x.f0 x.f1 x.f2 x.f3 x.f4 x.f5 = some true := by
  induction d with
  | zero =>
    intro i h0 h1 hd
    simp only [broadsheetref09_Same.l1]
    rw [if_neg (by omega)]
  | succ d ih =>
    intro i h0 h1 hd
    have hlt : i < (x.f4.length : Int) := by omega
    have e : K + (d + 1) + 1 = (K + d + 1) + 1 := by omega
    rw [e]
    obtain ⟨m, hmm⟩ : ∃ m, m = K + d + 1 := ⟨_, rfl⟩
    rw [← hmm]
    simp only [broadsheetref09_Same.l1]
    rw [hmm]
    rw [if_pos hlt, if_pos h0, if_pos hlt]
    have hm : rd_T28 x.f4 i ∈ x.f4 := by
      unfold rd_T28
      rw [List.getD_eq_getElem?_getD, List.getElem?_eq_getElem (by omega)]
      exact List.getElem_mem _
    have h2 := hK _ hm (K + d + 1) (by omega)
    unfold fS at h2
    rw [h2]
    simp only [Option.bind_some, if_true]
    rw [wrap_succ h0 hlt hn]
    exact ih (i + 1) (by omega) (by omega) (by omega)
theorem attrs_end (x : S28) (k0 : Nat) (hn : x.f3.length ≤ 9223372036854775807) (h : broadsheetref09_Same.l1 k0 0 x.f0 x.f1 x.f2 x.f3 x.f4 x.f5 x.f0 x.f1 x.f2 x.f3 x.f4 x.f5 = some true) (d : Nat) : ∀ (i : Int), 0 ≤ i → i ≤ x.f3.length → (x.f3.length : Int) - i = d →
    broadsheetref09_Same.l0 (k0 + d + 1) i x.f0 x.f1 x.f2 x.f3 x.f4 x.f5 x.f0 x.f1 x.f2 x.f3 x.f4 x.f5 = some true := by
  induction d with
  | zero =>
    intro i h0 h1 hd
    simp only [broadsheetref09_Same.l0]
    rw [if_neg (by omega)]
    exact h
  | succ d ih =>
    intro i h0 h1 hd
    have hlt : i < (x.f3.length : Int) := by omega
    have e : k0 + (d + 1) + 1 = (k0 + d + 1) + 1 := by omega
    rw [e]
    obtain ⟨m, hmm⟩ : ∃ m, m = k0 + d + 1 := ⟨_, rfl⟩
    rw [← hmm]
    simp only [broadsheetref09_Same.l0]
    rw [hmm]
    rw [if_pos hlt, if_pos h0, if_pos hlt]
    simp only [beq_self_eq_true, Bool.not_true, Bool.or_false]
    rw [if_neg (by decide), wrap_succ h0 hlt hn]
    exact ih (i + 1) (by omega) (by omega) (by omega)
theorem fin_end {x : S28} (h : Fin28 x) : ∃ k, fS k x x = some true := by
  induction h with
  | mk x h3 h4 hk ih =>
    obtain ⟨K, hK⟩ := all_at x.f4 ih
    have a := kids_end x K h4 hK x.f4.length 0 (by omega) (by omega) (by omega)
    have b := attrs_end x _ h3 a x.f3.length 0 (by omega) (by omega) (by omega)
    refine ⟨K + x.f4.length + 1 + x.f3.length + 1 + 1 + 1, ?_⟩
    simp only [fS, broadsheetref09_Same.f, if_true, bne_self_eq_false]
    simp only [broadsheetref09_Same.j0]
    rw [if_neg (by decide)]
    exact b
end Go.Proofs.YtjbckpoepfbgbaaDoor.Eq9
end
section
/- A slice of members that comes in, with all their trees, reads as a row of them; no part of it is longer than its weight allows. -/
set_option linter.unusedVariables false
set_option maxRecDepth 20000
namespace Go.Proofs.YtjbckpoepfbgbaaDoor.Opg
open Go.ChangeShapes Go.WideShapes Go.Deep Go.RowKit Go.Proofs.YtjbckpoepfbgbaaDoor.Pr Go.Proofs.YtjbckpoepfbgbaaDoorW.PrintWords
section
variable {H : Type} {enc : TypeId × Value → H} {P : Program} {w : World} {base : Nat} {spare : Nat → Bool} {held : Bool}
end
def gs (s : ByteArray) : Prop := s.size ≤ 140737488351232
def Good61 (a : S61) : Prop := gs a.f0 ∧ gs a.f1 ∧ gs a.f2
/-- A node no part of which is longer than may be. -/
inductive Good28 : S28 → Prop
  | mk (x : S28) : gs x.f1 → gs x.f2 → gs x.f5 → x.f3.length * 48 ≤ 140737488351232 → x.f4.length * 104 ≤ 140737488351232 → (∀ a ∈ x.f3, Good61 a) → (∀ y ∈ x.f4, Good28 y) → Good28 x
section
variable {H : Type} {enc : TypeId × Value → H} {w : World} {base : Nat} {spare : Nat → Bool} {held : Bool}
end
end Go.Proofs.YtjbckpoepfbgbaaDoor.Opg
end
section
/- Feeds, services and what any right program answers: plain. -/
set_option linter.unusedVariables false
set_option linter.unusedSimpArgs false
set_option maxRecDepth 20000
namespace Go.Proofs.YtjbckpoepfbgbaaDoor.Pfe
open Go.RowKit Go.Proofs.YtjbckpoepfbgbaaDoor.Pr Go.Proofs.YtjbckpoepfbgbaaDoor.Gv Go.Proofs.YtjbckpoepfbgbaaDoor.Fd Go.Proofs.YtjbckpoepfbgbaaDoor.Fun Go.Proofs.YtjbckpoepfbgbaaDoor.Lnk Go.Proofs.YtjbckpoepfbgbaaDoor.Mrg Go.Proofs.YtjbckpoepfbgbaaDoor.Srt Go.Proofs.YtjbckpoepfbgbaaDoor.Eq9 Go.Proofs.YtjbckpoepfbgbaaDoor.Opg Go.Proofs.YtjbckpoepfbgbaaDoorW.PrintWords
theorem fin_leaf (x : S28) (h3 : x.f3.length ≤ 9223372036854775807) (h4 : x.f4 = []) : Fin28 x := Fin28.mk x h3 (by rw [h4]; decide) (fun y hy => by rw [h4] at hy; cases hy)
theorem linksUp_mem {base : ByteArray} {k nx la : Int} {j : Nat} {y : S28} (h : y ∈ linksUp base k nx la j) : ∃ a b, y = linkN a b := by
  unfold linksUp at h
  obtain ⟨l, hl, hy⟩ := List.mem_flatten.1 h
  obtain ⟨p, _, rfl⟩ := List.mem_map.1 hl
  unfold linkAt at hy
  split at hy
  · exact ⟨_, _, List.mem_singleton.1 hy⟩
  · cases hy
theorem feedK_len (base title : ByteArray) (l : List S40) (s k at_ : Int) : (feedK base title l s k at_).length ≤ 8 + l.length := by
  have h := linksUp_len base k (nextP l.length s k) (lastP l.length s) 4
  unfold feedK
  rw [List.length_append, List.length_append, List.length_map]
  have h2 : (pageOf l s k).length ≤ l.length := by
    unfold pageOf
    rw [List.length_drop, List.length_take]
    omega
  simp only [List.length_cons, List.length_nil]
  omega
theorem feedV_f3 (base title : ByteArray) (l : List S40) (s k : Int) : (feedV base title l s k).1.f3 = [] := by
  unfold feedV
  repeat' split
  all_goals rfl
theorem feed_f (base title : ByteArray) (l : List S40) (s k : Int) (hl : l.length ≤ 1000000) (hb : base.size ≤ 140737488351232) (ht : title.size ≤ 140737488351232) :
    feed_Feed.f base title l s k = some (tup (feedV base title l s k).1 (feedV base title l s k).2) ∧ broadsheetref23_Feed.f base title l s k = some (tup (feedV base title l s k).1 (feedV base title l s k).2) := by
  have h : feed_Feed.f base title l s k = some (tup (feedV base title l s k).1 (feedV base title l s k).2) := by
    unfold feed_Feed.f tup
    rw [if_pos hl, if_pos hb, if_pos ht, feedV_f3]
  exact ⟨h, h⟩
theorem serv_f (k : Nat) (a0 a1 : ByteArray) : feed_Service.f (k + 1) a0 a1 = some (tup (servV a0 a1).1 (servV a0 a1).2) := rfl
theorem elx_fin (a b : ByteArray) : Fin28 (elx a b) := by
  unfold elx
  split
  · exact fin_leaf _ (by simp) rfl
  · refine Fin28.mk _ (by simp) (by simp) (fun y hy => ?_)
    simp only [List.mem_singleton] at hy
    subst hy
    exact fin_leaf _ (by simp) rfl
theorem plainN_fin (a : ByteArray) : Fin28 (plainN a) := by
  refine Fin28.mk _ (by simp [plainN]) (by simp [plainN]) (fun y hy => ?_)
  simp only [plainN, List.mem_cons, List.not_mem_nil, or_false] at hy
  rcases hy with rfl | rfl
  · refine Fin28.mk _ (by simp) (by simp) (fun y hy => ?_)
    simp only [List.mem_singleton] at hy
    subst hy
    exact elx_fin _ _
  · exact elx_fin _ _
theorem plain_some (a : ByteArray) : ∃ x : S28, broadsheetlaw15_Plain.f a = some (tup6 x) ∧ Fin28 x ∧ x.f2 = ⟨#[101, 110, 116, 114, 121]⟩ := ⟨plainN a, rfl, plainN_fin a, rfl⟩
/-- What any right program answers. -/
theorem awake_f (k : Nat) : broadsheetlaw23_awake.f (k + 1) = some true := by
  unfold broadsheetlaw23_awake.f
  rw [serv_f]
  simp only [Option.bind_some]
  obtain ⟨x, hp, _⟩ := plain_some (⟨#[116]⟩ : ByteArray)
  rw [hp]
  obtain ⟨p, hp2⟩ : ∃ p, p = tup6 x := ⟨_, rfl⟩
  rw [← hp2]
  simp only [Option.bind_some]
  obtain ⟨m, hm⟩ : ∃ m : S40, m = ⟨1, 5, (⟨#[]⟩ : ByteArray), (⟨p.1, p.2.1, p.2.2.1, p.2.2.2.1, p.2.2.2.2.1, p.2.2.2.2.2⟩ : S28)⟩ := ⟨_, rfl⟩
  rw [← hm, (feed_f ⟨#[47, 99]⟩ ⟨#[120]⟩ [m] 10 1 (by simp) (by decide) (by decide)).1]
  simp only [Option.bind_some]
  have hs : servV ⟨#[47, 99]⟩ ⟨#[120]⟩ = (servN ⟨#[47, 99]⟩ ⟨#[120]⟩, 0) := by
    unfold servV
    rw [if_neg (by rw [ByteArray.toList_eq]; decide), if_neg (by rw [ByteArray.toList_eq]; decide)]
  have hl : latN [m] = 5 := by rw [hm]; rfl
  have hv : feedV ⟨#[47, 99]⟩ ⟨#[120]⟩ [m] 10 1 = (⟨0, atomB, feedB, [], feedK ⟨#[47, 99]⟩ ⟨#[120]⟩ [m] 10 1 5, ⟨#[]⟩⟩, 0) := by
    unfold feedV
    rw [hl, if_neg (by unfold Bad; simp), if_neg (by simp [lastP]), if_neg (by unfold inR; simp), if_neg (by rw [ByteArray.toList_eq, ByteArray.toList_eq]; decide)]
  rw [hs, hv]
  have hk : ((feedK ⟨#[47, 99]⟩ ⟨#[120]⟩ [m] 10 1 5).length : Int) = 7 := by
    unfold feedK linksUp linkAt pageOf
    simp [lastP, nextP, isort_len]
  simp only [tup]
  have t1 : (servN ⟨#[47, 99]⟩ ⟨#[120]⟩).f2.toList = [115, 101, 114, 118, 105, 99, 101] := by rw [ByteArray.toList_eq]; rfl
  have t2 : feedB.toList = [102, 101, 101, 100] := by rw [ByteArray.toList_eq]; rfl
  have t3 : ((servN ⟨#[47, 99]⟩ ⟨#[120]⟩).f4.length : Int) = 1 := rfl
  simp [t1, t2, t3, hk]
end Go.Proofs.YtjbckpoepfbgbaaDoor.Pfe
end
section
/- The members of the laws of feeds: each one's entry is a plain one, told by its tag. No memory in sight. -/
set_option linter.unusedVariables false
set_option maxRecDepth 20000
namespace Go.Proofs.YtjbckpoepfbgbaaDoor.Mem
open Go.RowKit Go.Proofs.YtjbckpoepfbgbaaDoor.Pr Go.Proofs.YtjbckpoepfbgbaaDoor.Fd Go.Proofs.YtjbckpoepfbgbaaDoor.Pfe Go.Proofs.YtjbckpoepfbgbaaDoor.Eq9 Go.Proofs.YtjbckpoepfbgbaaDoorW.PrintWords
/-- A member with its entry. -/
def ent (m : S40) : S40 := ⟨m.f0, m.f1, m.f2, plainN ((⟨#[116]⟩ : ByteArray) ++ m.f2)⟩
def up (M : List S40) (i : Nat) : List S40 := (M.take i).map ent ++ M.drop i
theorem up_len (M : List S40) (i : Nat) : (up M i).length = M.length := by unfold up; rw [List.length_append, List.length_map, List.length_take, List.length_drop]; omega
theorem up_at (M : List S40) (i : Nat) (h : i < M.length) : rd_T40 (up M i) (i : Int) = M[i] := by
  unfold rd_T40 up
  have e : ((i : Nat) : Int).toNat = i := rfl
  rw [e, List.getD_eq_getElem?_getD, List.getElem?_append_right (by rw [List.length_map, List.length_take]; omega), List.length_map, List.length_take, Nat.min_eq_left (by omega), Nat.sub_self, List.getElem?_drop, Nat.add_zero, List.getElem?_eq_getElem h]
  rfl
theorem up_set (M : List S40) (i : Nat) (h : i < M.length) : (up M i).set i (ent M[i]) = up M (i + 1) := by
  unfold up
  rw [List.set_append_right _ _ (by rw [List.length_map, List.length_take]; omega), List.length_map, List.length_take, Nat.min_eq_left (by omega), Nat.sub_self, List.drop_eq_getElem_cons h, List.set_cons_zero, List.take_succ_eq_append_getElem h, List.map_append, List.append_assoc]
  rfl
theorem ents_l (M : List S40) (hl : M.length ≤ 60) (hs : ∀ m ∈ M, m.f2.size ≤ 1000) (d : Nat) : ∀ (k i : Nat), i ≤ M.length → M.length - i = d → d < k → broadsheetlaw23_members.l0 k (up M i) (i : Int) = some (M.map ent) := by
  induction d with
  | zero =>
    intro k i hi hd hk
    obtain ⟨k, rfl⟩ : ∃ q, k = q + 1 := ⟨k - 1, by omega⟩
    simp only [broadsheetlaw23_members.l0]
    rw [up_len, if_neg (by omega)]
    have e : i = M.length := by omega
    subst e
    unfold up
    rw [List.take_length, List.drop_length, List.append_nil]
  | succ d ih =>
    intro k i hi hd hk
    obtain ⟨k, rfl⟩ : ∃ q, k = q + 1 := ⟨k - 1, by omega⟩
    have hlt : i < M.length := by omega
    have h2 := hs _ (List.getElem_mem hlt)
    simp only [broadsheetlaw23_members.l0]
    rw [up_len, if_pos (by omega), if_pos (by omega), up_at M i hlt, if_pos (by omega)]
    show broadsheetlaw23_members.l0 k ((up M i).set i (ent M[i])) (wrap64 ((i : Int) + 1)) = _
    have hw : wrap64 ((i : Int) + 1) = ((i + 1 : Nat) : Int) := by unfold wrap64; omega
    rw [hw, up_set M i hlt]
    exact ih k (i + 1) (by omega) (by omega) (by omega)
/-- What the law's members are. -/
def mem23 (l : List S72) : List S40 := (mems l (min l.length 60)).map ent
theorem mem23_len (l : List S72) : (mem23 l).length ≤ 60 := by unfold mem23; rw [List.length_map, mems_len]; omega
theorem members23_f (l : List S72) : ∃ k, ∀ q, k ≤ q → broadsheetlaw23_members.f q l = some (mem23 l) := by
  obtain ⟨k0, h0⟩ := members_f l
  refine ⟨k0 + 61, fun q hq => ?_⟩
  have h1 : broadsheetlaw22_Members.f q l = some (mems l (min l.length 60)) := at_rounds (g := fun k => broadsheetlaw22_Members.f k l) (fun k => broadsheetlaw22_Members.mono l k) (by omega) h0
  unfold broadsheetlaw23_members.f
  rw [h1]
  simp only [Option.bind_some]
  have h2 := ents_l (mems l (min l.length 60)) (by rw [mems_len]; omega) (fun m hm => by
    obtain ⟨i, _, rfl⟩ := List.mem_map.1 hm
    show (strOfNums _).size ≤ 1000
    simp [strOfNums, ByteArray.size]) (min l.length 60) q 0 (Nat.zero_le _) (by rw [mems_len]; rfl) (by omega)
  exact h2
theorem mem23_fin (l : List S72) : ∀ m ∈ mem23 l, Fin28 m.f3 := by
  intro m hm
  obtain ⟨a, _, rfl⟩ := List.mem_map.1 hm
  exact plainN_fin _
theorem mem23_name (l : List S72) : ∀ m ∈ mem23 l, m.f3.f2 = ⟨#[101, 110, 116, 114, 121]⟩ := by
  intro m hm
  obtain ⟨a, _, rfl⟩ := List.mem_map.1 hm
  rfl
end Go.Proofs.YtjbckpoepfbgbaaDoor.Mem
end
section
/- FeedWalks: the walk of the law: all pages' entries, one behind the other, are the members', in order. Printed by wip/F23/genfwk.py. -/
set_option linter.unusedVariables false
set_option linter.unusedSimpArgs false
set_option maxRecDepth 20000
namespace Go.Proofs.YtjbckpoepfbgbaaDoor.Fwk
open Go.RowKit Go.Lib Go.Proofs.YtjbckpoepfbgbaaDoor.Pr Go.Proofs.YtjbckpoepfbgbaaDoor.Gv Go.Proofs.YtjbckpoepfbgbaaDoor.Fd Go.Proofs.YtjbckpoepfbgbaaDoor.Pfe Go.Proofs.YtjbckpoepfbgbaaDoor.Mem Go.Proofs.YtjbckpoepfbgbaaDoor.Fun Go.Proofs.YtjbckpoepfbgbaaDoor.Lnk Go.Proofs.YtjbckpoepfbgbaaDoor.Mrg Go.Proofs.YtjbckpoepfbgbaaDoor.Srt Go.Proofs.YtjbckpoepfbgbaaDoor.Eq9 Go.Proofs.YtjbckpoepfbgbaaDoor.Txt Go.Proofs.YtjbckpoepfbgbaaDoorW.PrintWords Go.Proofs.YtjbckpoepfbgbaaDoorW.PrintLast Go.Proofs.YtjbckpoepfbgbaaDoorW.PrintMore
/-- The pages up to the i-th, and the next one. -/
theorem page_next (M : List S40) (s : Int) (i : Nat) (hs : 1 ≤ s) : (isort ltM M).take ((i : Int) * s).toNat ++ pageOf M s ((i : Int) + 1) = (isort ltM M).take (((i + 1 : Nat) : Int) * s).toNat := by
  unfold pageOf
  have e1 : ((i : Int) + 1 - 1) * s = (i : Int) * s := by rw [show (i : Int) + 1 - 1 = i by omega]
  have e2 : (((i + 1 : Nat) : Int)) = (i : Int) + 1 := by omega
  rw [e1, e2]
  obtain ⟨a, ha⟩ : ∃ a : Int, a = (i : Int) * s := ⟨_, rfl⟩
  have hb : ((i : Int) + 1) * s = a + s := by rw [ha, Int.add_mul, Int.one_mul]
  have ha0 : 0 ≤ a := by rw [ha]; exact Int.mul_nonneg (by omega) (by omega)
  rw [hb, ← ha]
  have e3 : (isort ltM M).take (min M.length (a + s).toNat) = (isort ltM M).take (a + s).toNat := by
    rw [List.take_eq_take_iff, isort_len]
    omega
  rw [e3, List.drop_take]
  have e4 : (a + s).toNat = a.toNat + ((a + s).toNat - a.toNat) := by omega
  rw [e4, List.take_add]
  simp
def isEnt (y : S28) : Bool := y.f2.toList == ([101, 110, 116, 114, 121] : List UInt8)
theorem ent_link (a b : ByteArray) : isEnt (linkN a b) = false := by
  unfold isEnt linkN
  rw [ByteArray.toList_eq]
  rfl
theorem ent_links (base : ByteArray) (k nx la : Int) (j : Nat) : (linksUp base k nx la j).filter isEnt = [] := by
  rw [List.filter_eq_nil_iff]
  intro y hy
  obtain ⟨a, b, rfl⟩ := linksUp_mem hy
  rw [ent_link]
  decide
/-- Of a feed's kids those that are entries are its page's. -/
theorem feedK_ents (base title : ByteArray) (l : List S40) (s k at_ : Int) (h : ∀ m ∈ l, isEnt m.f3 = true) : (feedK base title l s k at_).filter isEnt = (pageOf l s k).map (·.f3) := by
  unfold feedK
  rw [List.filter_append, List.filter_append, ent_links]
  have e1 : [elN atomB ⟨#[105, 100]⟩ (⟨#[117, 114, 110, 58, 102, 101, 101, 100, 58]⟩ ++ title), elN atomB ⟨#[116, 105, 116, 108, 101]⟩ title, elN atomB ⟨#[117, 112, 100, 97, 116, 101, 100]⟩ (printT at_ 0), linkN ⟨#[115, 101, 108, 102]⟩ (pageB base k)].filter isEnt = [] := by
    have h1 : ∀ t, isEnt (elN atomB ⟨#[105, 100]⟩ t) = false := fun t => by unfold isEnt elN; rw [ByteArray.toList_eq]; rfl
    have h2 : ∀ t, isEnt (elN atomB ⟨#[116, 105, 116, 108, 101]⟩ t) = false := fun t => by unfold isEnt elN; rw [ByteArray.toList_eq]; rfl
    have h3 : ∀ t, isEnt (elN atomB ⟨#[117, 112, 100, 97, 116, 101, 100]⟩ t) = false := fun t => by unfold isEnt elN; rw [ByteArray.toList_eq]; rfl
    simp [h1, h2, h3, ent_link]
  rw [e1, List.nil_append, List.nil_append, List.filter_eq_self]
  intro y hy
  obtain ⟨m, hm, rfl⟩ := List.mem_map.1 hy
  exact h m ((isort_mem ltM l m).1 (List.mem_of_mem_take (List.mem_of_mem_drop hm)))
/-- The last page is the end. -/
theorem page_all (M : List S40) (s : Int) (hF : Fit M.length s) (i : Nat) (hi : lastP M.length s ≤ i) : (isort ltM M).take ((i : Int) * s).toNat = isort ltM M := by
  apply List.take_of_length_le
  rw [isort_len]
  obtain ⟨h1, h2, h3, h4⟩ := hF
  unfold lastP at hi
  have h5 : (M.length : Int) ≤ (i : Int) * s := by
    split at hi
    · have : 0 ≤ (i : Int) * s := Int.mul_nonneg (by omega) (by omega)
      omega
    · have e := Int.mul_ediv_add_emod ((M.length : Int) - 1) s
      have e2 := Int.emod_lt_of_pos ((M.length : Int) - 1) (show 0 < s by omega)
      have e3 : (((M.length : Int) - 1) / s + 1) * s ≤ (i : Int) * s := Int.mul_le_mul_of_nonneg_right hi (by omega)
      rw [Int.add_mul, Int.mul_comm] at e3
      omega
  omega
theorem lat_bd (M : List S40) (h : ∀ m ∈ M, m.f1 ≤ 1000) : 0 ≤ latN M ∧ latN M ≤ 1000 := by
  unfold latN
  have : ∀ (l : List S40) (x : Int), (∀ m ∈ l, m.f1 ≤ 1000) → 0 ≤ x → x ≤ 1000 → 0 ≤ l.foldl (fun a m => max a m.f1) x ∧ l.foldl (fun a m => max a m.f1) x ≤ 1000 := by
    intro l
    induction l with
    | nil => intro x _ h0 h1; exact ⟨h0, h1⟩
    | cons a l ih =>
      intro x hl h0 h1
      have := hl a (List.mem_cons_self ..)
      exact ih (max x a.f1) (fun m hm => hl m (List.mem_cons_of_mem _ hm)) (by omega) (by omega)
  exact this M 0 h (by decide) (by decide)
theorem mem23_f1 (l : List S72) : ∀ m ∈ mem23 l, m.f1 ≤ 1000 := by
  intro m hm
  obtain ⟨a, ha, rfl⟩ := List.mem_map.1 hm
  obtain ⟨i, _, rfl⟩ := List.mem_map.1 ha
  show Int.tmod _ 6 ≤ 1000
  have := Int.tmod_lt_of_pos (wrap64 ((rd_T72 l i).f1)) (show (0 : Int) < 6 by decide)
  omega
theorem feedV_yes (M : List S40) (s z : Int) (hF : Fit M.length s) (h1 : 1 ≤ z) (h2 : z ≤ lastP M.length s) (hl : 0 ≤ latN M ∧ latN M ≤ 1000) : feedV ⟨#[47, 99]⟩ ⟨#[120]⟩ M s z = (⟨0, atomB, feedB, [], feedK ⟨#[47, 99]⟩ ⟨#[120]⟩ M s z (latN M), ⟨#[]⟩⟩, 0) := by
  unfold feedV
  rw [if_neg (by unfold Bad; unfold Fit at hF; omega), if_neg (by omega), if_neg (by unfold inR; omega), if_neg (by rw [ByteArray.toList_eq, ByteArray.toList_eq]; decide)]
theorem feedV_no (M : List S40) (s z : Int) (hF : Fit M.length s) (h2 : lastP M.length s < z) : feedV ⟨#[47, 99]⟩ ⟨#[120]⟩ M s z = (z28, 10) := by
  unfold feedV
  rw [if_neg (by unfold Bad; unfold Fit at hF; omega), if_pos (.inr h2)]
/-- A kid that is read at a later world: its cells, and where its parts lie. -/
theorem kid_at {W : World} {ok : Nat → Prop} {A : Option Addr} {n : Nat} {ks : List S28} (h : Kd.F k28 W ok A n ks) (i : Nat) (h1 : i < n) (hl : i < ks.length) :
    ∃ ad v3 v4, A = some ad ∧ (∀ j u, ([.int .i64 ks[i].f0, .string ks[i].f1, .string ks[i].f2, v3, v4, .string ks[i].f5] : List Value)[j]? = some u → W.cell? (ad.add (i * 6 + j)) = some u) ∧ Kd.FK k28 W ok ks[i] [.int .i64 ks[i].f0, .string ks[i].f1, .string ks[i].f2, v3, v4, .string ks[i].f5] := by
  obtain ⟨ad, c, rfl, hcl, hK, hcc, _⟩ := Kd.F_get h z28 (i : Int) (by omega) (by omega)
  have e : ks.getD ((i : Nat) : Int).toNat z28 = ks[i] := by
    show ks.getD i z28 = _
    simp [List.getD, List.getElem?_eq_getElem hl]
  rw [e] at hK
  obtain ⟨A3, c3, A4, c4, rfl, _⟩ := k28_openF hK
  exact ⟨ad, _, _, rfl, hcc, hK⟩
set_option maxHeartbeats 4000000 in
theorem walks (A0 : Option Addr) (c0 : Nat) (l0 : List S72) (size : Int) (w : World) (hG : LaidW w) (hr0 : Kd.C k72 w A0 l0.length l0) (hc0 : l0.length ≤ c0) (hs0 : 0 ≤ size) (hs1 : size ≤ 255) :
    Calls Tryd.prog 5 #[.slice A0 l0.length c0, .int .u8 size] w fun e w' => e = .returned (.bool true) ∧ Below w.heap.size w w' := by
  obtain ⟨K, hK⟩ := members23_f l0
  have hk := hK K (Nat.le_refl _)
  have HMf := Lib.hid (mem23_fin l0)
  have hMe : ∀ m ∈ mem23 l0, isEnt m.f3 = true := fun m hm => by unfold isEnt; rw [mem23_name l0 m hm, ByteArray.toList_eq]; rfl
  have HME := Lib.hid hMe
  have HLB := Lib.hid (lat_bd _ (mem23_f1 l0))
  have hMl := mem23_len l0
  have HMc : Hid (∀ w1, Below w.heap.size w w1 → Calls Tryd.prog 13 #[.slice A0 l0.length c0] w1 fun e w' => ∃ v0_ : Value, e = .returned (v0_) ∧ Kd.N k40 40 w' w1.heap.size (fun k_ => w1.heap.size ≤ k_) v0_ (mem23 l0) ∧ Below w1.heap.size w1 w') :=
    fun w1 hb => broadsheetlaw23_members.calls K A0 c0 l0 (mem23 l0) w1 (Kd.C_below hr0 hb) hc0 hk
  have HG := Lib.hid hG
  generalize mem23 l0 = M at hMl HMf HME HLB HMc
  clear hr0 hk hK hMe hG
  have C0 := broadsheetlaw23_awake.calls 1 true w HG.out rfl (awake_f 0)
  go_enter Tryd.func5, Tryd.ntmps5
  go_wp2_with fail
  refine C0.mono ?_
  clear C0
  rintro e w1 ⟨rfl, hb1⟩
  have HB1 := Lib.hid hb1
  clear hb1
  go_wp2_with fail
  refine (HMc.out w1 HB1.out).mono ?_
  rintro e w2 ⟨v6, rfl, hN2, hb2⟩
  obtain ⟨A, c, rfl, hc, hC⟩ := Kd.N_reads hN2
  have HB2 : Hid (Below w.heap.size w w2) := HB1.out.trans (hb2.mono HB1.out.size)
  have HC := Lib.hid (Kd.C_F k40_heap hC)
  clear hN2 hb2 hC HMc HB1
  obtain ⟨n, hn⟩ : ∃ n, n = M.length := ⟨_, rfl⟩
  have HN := Lib.hid hn
  rw [← hn] at hc hMl ⊢
  clear hn
  go_wp2_with fail
  generalize hs : 1 + size % 15 = s
  have hsa : 1 ≤ s ∧ s ≤ 15 := by omega
  clear hs
  have hF : Fit (M.length : Int) s := by have := HN.out; unfold Fit; omega
  have HF := Lib.hid hF
  have hla := lastP_le hF (by have := HN.out; omega)
  clear hF
  obtain ⟨la, hl⟩ : ∃ la : Nat, (la : Int) = lastP M.length s := ⟨(lastP M.length s).toNat, by omega⟩
  obtain ⟨q, hq⟩ : ∃ q : Nat, (q : Int) = (n : Int) / s := ⟨((n : Int) / s).toNat, by have : 0 ≤ (n : Int) / s := Int.ediv_nonneg (by omega) (by omega); omega⟩
  have hq60 : q ≤ 60 := by
    have : (n : Int) / s ≤ (n : Int) := Int.ediv_le_self _ (by omega)
    omega
  have hlq : (la : Int) ≤ (q : Int) + 1 := by
    rw [hl, hq]
    unfold lastP
    rw [← HN.out]
    split
    · have : 0 ≤ (n : Int) / s := Int.ediv_nonneg (by omega) (by omega)
      omega
    · have : ((n : Int) - 1) / s ≤ (n : Int) / s := Int.ediv_le_ediv (by omega) (by omega)
      omega
  have hla1 : 1 ≤ la := by omega
  have HLA := Lib.hid hl
  have HQ := Lib.hid hq
  clear hl hla hq
  go_loopg [8, 9] (q + 1) (fun kx s8 s9 wr => ∃ (i : Nat) (z : Int) (Av : Option Addr) (nv cv : Nat), s9 = .int .i64 z ∧ Hid (z = (i : Int) + 1) ∧ i ≤ q + 1 ∧ q + 1 - i ≤ kx ∧ s8 = .slice Av nv cv ∧ Hid (Below w2.heap.size w2 wr ∧ Kd.N k28 28 wr w2.heap.size (fun _ => True) (.slice Av nv cv) (((isort ltM M).take ((i : Int) * s).toNat).map (·.f3))))
  case atStart => exact ⟨0, 1, none, 0, 0, rfl, Lib.hid rfl, by omega, by omega, rfl, ⟨Below.refl _ _, by simpa using Kd.N_nil _ _ _ _ _⟩⟩
  case round =>
    obtain ⟨i, z, Av, nv, cv, rfl, Hz, hiq, hkx, rfl, HW⟩ := hrel
    have hz1 : 1 ≤ z := by have := Hz.out; omega
    have hz2 : z ≤ 10000 := by have := Hz.out; omega
    have hs15 : s ≤ 15 := hsa.2
    have hs1 : 1 ≤ s := hsa.1
    have hd0 : 0 ≤ (n : Int) / s := Int.ediv_nonneg (by omega) (by omega)
    have hd1 : (n : Int) / s ≤ 60 := by have := HQ.out; omega
    by_cases hzq : z ≤ (n : Int) / s + 1
    · go_wp2_with fail
      have C8 := feedC ⟨#[47, 99]⟩ ⟨#[120]⟩ A c M s z wr (fun k => k < w2.heap.size) (Kd.F_below HC.out HW.out.1) (by rw [← HN.out]; exact hc) (by rw [← HN.out]; omega) ((HG.out.step HB2.out).step HW.out.1) (by decide) (by decide)
      rw [← HN.out] at C8
      have hzi := Hz.out
      by_cases hzl : z ≤ (la : Int)
      · rw [feedV_yes M s z HF.out hz1 (by rw [← HLA.out]; exact hzl) HLB.out] at C8
        have hents := feedK_ents ⟨#[47, 99]⟩ ⟨#[120]⟩ M s z (latN M) HME.out
        have hkl := feedK_len ⟨#[47, 99]⟩ ⟨#[120]⟩ M s z (latN M)
        generalize feedK ⟨#[47, 99]⟩ ⟨#[120]⟩ M s z (latN M) = ks at C8 hents hkl
        refine C8.mono ?_
        clear C8
        rintro e w4 ⟨A4, c4, rfl, _, hv, hb4⟩
        obtain ⟨m, hm⟩ : ∃ m, m = ks.length := ⟨_, rfl⟩
        have HM := Lib.hid hm
        have hm99 : m ≤ 200 := by have := HN.out; omega
        have hcv : m ≤ c4 := by rw [hm]; exact (Kd.V_reads' hv).2.1
        have hF4 := Kd.F_bound (Kd.V_F hv)
        have hpn := page_next M s i hsa.1
        have HXS : Hid ((((isort ltM M).take ((i : Int) * s).toNat).map (·.f3)) ++ ks.filter isEnt = ((isort ltM M).take (((i + 1 : Nat) : Int) * s).toNat).map (·.f3)) := by
          show _ = _
          rw [hents, hzi, ← List.map_append, hpn]
        obtain ⟨X0, hX0⟩ : ∃ X0, X0 = ((isort ltM M).take ((i : Int) * s).toNat).map (·.f3) := ⟨_, rfl⟩
        have hX60 : X0.length ≤ 60 := by rw [hX0, List.length_map, List.length_take, isort_len, ← HN.out]; omega
        have hks : (ks.filter isEnt).length ≤ 60 := by rw [hents, List.length_map]; unfold pageOf; rw [List.length_drop, List.length_take, isort_len, ← HN.out]; omega
        rw [← hX0] at HXS
        have HW4 : Hid (Below w2.heap.size w2 w4 ∧ Kd.N k28 28 w4 w2.heap.size (fun _ => True) (.slice Av nv cv) X0) := ⟨HW.out.1.trans (hb4.mono HW.out.1.size), by rw [hX0]; exact Kd.N_below HW.out.2 hb4⟩
        have hown : ∀ g, (Value.slice Av nv cv).ownBlock = some g → w2.heap.size ≤ g ∧ g < wr.heap.size := fun g hg => ⟨Kd.N_base HW.out.2 g hg, Kd.N_lt HW.out.2 g hg⟩
        have HOW := Lib.hid hown
        have hsz4 : wr.heap.size ≤ w4.heap.size := hb4.size
        have hsz2 : w2.heap.size ≤ wr.heap.size := HW.out.1.size
        rw [← hm] at hF4 ⊢
        have HF4 := Lib.hid hF4
        clear hv hb4 hm hents hkl hF4 hpn hX0 HW hown hzi
        go_wp2_with fail
        obtain ⟨wo, hwo⟩ : ∃ wo : World, wo = wr := ⟨_, rfl⟩
        rw [← hwo] at HOW HF4 hsz4 hsz2
        clear hwo
        have HBN : Hid ((w4.alloc (.cells #[.int .i64 0, .string atomB, .string feedB, .slice none 0 0, .slice A4 m c4, .string ⟨#[]⟩] 28)).heap[w4.heap.size]? = some (.cells #[.int .i64 0, .string atomB, .string feedB, .slice none 0 0, .slice A4 m c4, .string ⟨#[]⟩] 28 (0, 0))) := alloc_at _ _
        have HF5 : Hid (Kd.F k28 (w4.alloc (.cells #[.int .i64 0, .string atomB, .string feedB, .slice none 0 0, .slice A4 m c4, .string ⟨#[]⟩] 28)) (fun k => (k < w2.heap.size ∨ wo.heap.size ≤ k) ∧ k < w4.heap.size) A4 m ks) := Kd.F_alloc HF4.out _
        have HW5 : Hid (Below w2.heap.size w2 (w4.alloc (.cells #[.int .i64 0, .string atomB, .string feedB, .slice none 0 0, .slice A4 m c4, .string ⟨#[]⟩] 28)) ∧ Kd.N k28 28 (w4.alloc (.cells #[.int .i64 0, .string atomB, .string feedB, .slice none 0 0, .slice A4 m c4, .string ⟨#[]⟩] 28)) w2.heap.size (fun _ => True) (.slice Av nv cv) X0) := ⟨HW4.out.1.alloc HW4.out.1.size _, Kd.N_alloc HW4.out.2 _⟩
        clear HW4 HF4
        go_loopg [8, 12] m (fun ky s8 s12 wr => ∃ (j : Nat) (Aw : Option Addr) (nw cw : Nat), s12 = .int .i64 (j : Int) ∧ j ≤ m ∧ m - j ≤ ky ∧ s8 = .slice Aw nw cw ∧ Hid (Below w2.heap.size w2 wr ∧ wr.heap[w4.heap.size]? = some (.cells #[.int .i64 0, .string atomB, .string feedB, .slice none 0 0, .slice A4 m c4, .string ⟨#[]⟩] 28 (0, 0)) ∧ Kd.F k28 wr (fun k => (k < w2.heap.size ∨ wo.heap.size ≤ k) ∧ k < w4.heap.size) A4 m ks ∧ Kd.N k28 28 wr w2.heap.size (fun _ => True) (.slice Aw nw cw) (X0 ++ (ks.take j).filter isEnt) ∧ ∀ g, (Value.slice Aw nw cw).ownBlock = some g → (w2.heap.size ≤ g ∧ g < wo.heap.size) ∨ w4.heap.size < g))
        case atStart =>
          refine ⟨0, Av, nv, cv, rfl, by omega, by omega, rfl, HW5.out.1, HBN.out, HF5.out, ?_, fun g hg => .inl (HOW.out g hg)⟩
          rw [List.take_zero, List.filter_nil, List.append_nil]
          exact HW5.out.2
        case round =>
          obtain ⟨j, Aw, nw, cw, rfl, hjm, hky, rfl, HV⟩ := hrel
          clear HW5 HF5 HBN HOW
          obtain ⟨hv1, hv2, hv3, hv4, hv5⟩ := HV.out
          have dn := (Lnk.blk_cell hv2 4 _ rfl).1
          by_cases hlt : j < m
          · have hj0 : (0 : Int) ≤ (j : Int) := by omega
            have hj1 : (j : Int) < (m : Int) := by omega
            have hjk : j < ks.length := by rw [← HM.out]; exact hlt
            obtain ⟨ad, v3, v4, rfl, xc, hfk⟩ := kid_at hv3 j hlt hjk
            have htk : (ks.take (j + 1)).filter isEnt = (ks.take j).filter isEnt ++ [ks[j]].filter isEnt := by rw [List.take_succ_eq_append_getElem hjk, List.filter_append]
            have hlen : ((ks.take j).filter isEnt).length ≤ 60 := Nat.le_trans (List.Sublist.length_le ((List.take_sublist j ks).filter isEnt)) hks
            generalize hy : ks[j] = y at xc hfk htk
            have x0 := xc 0 _ rfl
            have x1 := xc 1 _ rfl
            have x2 := xc 2 _ rfl
            have x3 := xc 3 _ rfl
            have x4 := xc 4 _ rfl
            have x5 := xc 5 _ rfl
            clear xc hy
            rw [Nat.add_zero] at x0
            rw [add_field _ _ _ (by omega)] at x1 x2 x3 x4 x5
            have hbn : w4.heap.size < wr.heap.size := Fd.blk_lt hv2
            cases he : isEnt y
            · have hb2 : (y.f2.toList == ([101, 110, 116, 114, 121] : List UInt8)) = false := he
              have HT : Hid (X0 ++ (ks.take j).filter isEnt = X0 ++ (ks.take (j + 1)).filter isEnt) := by show _ = _; rw [htk]; simp [he]
              clear htk he hv1 hv2 hv3 hv4 hv5 hfk
              go_wp2_with fail
              go_roundg (m - (j + 1))
              case measure => omega
              case rel => exact ⟨j + 1, Aw, nw, cw, by go_num, by omega, by omega, rfl, HV.out.1, HV.out.2.1, HV.out.2.2.1, by rw [← HT.out]; exact HV.out.2.2.2.1, HV.out.2.2.2.2⟩
            · have hb2 : (y.f2.toList == ([101, 110, 116, 114, 121] : List UInt8)) = true := he
              have HT : Hid ((X0 ++ (ks.take j).filter isEnt) ++ [y] = X0 ++ (ks.take (j + 1)).filter isEnt) := by show _ = _; rw [htk, List.append_assoc]; simp [he]
              have i28 : (Tryd.prog.info? 28).map (fun i => (i.zero, i.size, i.bytes)) = some (some (.agg #[(.int .i64 0), (.string ⟨#[]⟩), (.string ⟨#[]⟩), (.slice none 0 0), (.slice none 0 0), (.string ⟨#[]⟩)]), 6, 104) := by kernel_rfl
              have I28 := Lib.hid i28
              have LN : Hid (((X0 ++ (ks.take j).filter isEnt).length + 1) * 104 ≤ 140737488355328) := by show _ ≤ _; rw [List.length_append]; omega
              have HFK := Lib.hid hfk
              have A8 : Hid (∀ k_, ((k_ < w2.heap.size ∨ wo.heap.size ≤ k_) ∧ k_ < w4.heap.size) → True ∧ some k_ ≠ (Value.slice Aw nw cw).ownBlock) := fun k_ hk => ⟨trivial, fun e => by rcases hv5 k_ e.symm with h | h <;> omega⟩
              obtain ⟨xs0, hxs0⟩ : ∃ xs0, xs0 = X0 ++ (ks.take j).filter isEnt := ⟨_, rfl⟩
              rw [← hxs0] at HT LN hv4
              have HN4 := Lib.hid hv4
              have hs4 : w2.heap.size ≤ wr.heap.size := hv1.size
              have HV1 := Lib.hid hv1
              have HV2 := Lib.hid hv2
              have HV3 := Lib.hid hv3
              have HV5 := Lib.hid hv5
              clear i28 htk he hv1 hv2 hv3 hv4 hv5 hfk hxs0 HV
              go_wp2_with (at_builtin; (refine Kd.N_append k28 (w0 := w2) w2.heap.size ?g1 ?s1 ?s2 26 28 _ 104 ?g2 Tryd.underlying26 I28.out ?g5 ?g6 ?g7 (.slice Aw nw cw) _ y _ (fun _ => True) (fun k_ => (k_ < w2.heap.size ∨ wo.heap.size ≤ k_) ∧ k_ < w4.heap.size) ?g3 ?g4 HFK.out A8.out (fun _ _ => trivial) HN4.out HV1.out hs4 LN.out ?gg); (case g1 => rfl); (case g2 => rfl); (case g3 => rfl); (case g4 => first | rfl | (go_simp; done) | (go_simp; rfl)); (case g5 => rfl); (case g6 => decide); (case g7 => decide))
              intro v1 w6 hn hb6 hg hat
              obtain ⟨A1, n1, c1, rfl⟩ := N_some hn
              have hbne : some w4.heap.size ≠ (Value.slice Aw nw cw).ownBlock := fun e => by rcases HV5.out _ e.symm with h | h <;> omega
              have HR : Hid (Below w2.heap.size w2 w6 ∧ w6.heap[w4.heap.size]? = some (.cells #[.int .i64 0, .string atomB, .string feedB, .slice none 0 0, .slice (some ad) m c4, .string ⟨#[]⟩] 28 (0, 0)) ∧ Kd.F k28 w6 (fun k => (k < w2.heap.size ∨ wo.heap.size ≤ k) ∧ k < w4.heap.size) (some ad) m ks ∧ Kd.N k28 28 w6 w2.heap.size (fun _ => True) (.slice A1 n1 c1) (X0 ++ (ks.take (j + 1)).filter isEnt) ∧ ∀ g, (Value.slice A1 n1 c1).ownBlock = some g → (w2.heap.size ≤ g ∧ g < wo.heap.size) ∨ w4.heap.size < g) := by
                refine ⟨hb6, (hg.block _ hbn hbne).trans HV2.out, Kd.F_grown HV3.out hg (fun k hk => (A8.out k hk).2), by rw [← HT.out]; exact hn, fun g hg2 => ?_⟩
                rcases hat with h | ⟨b, hb, hbl⟩
                · rw [h] at hg2; exact HV5.out g hg2
                · rw [hb] at hg2
                  injection hg2 with hg2
                  omega
              clear hn hb6 hg hat hbne
              go_wp2_with fail
              go_roundg (m - (j + 1))
              case measure => omega
              case rel => exact ⟨j + 1, A1, n1, c1, by go_num, by omega, by omega, rfl, HR.out⟩
          · obtain rfl : j = m := by omega
            have HE : Hid (Below w2.heap.size w2 wr ∧ Kd.N k28 28 wr w2.heap.size (fun _ => True) (.slice Aw nw cw) (((isort ltM M).take (((i + 1 : Nat) : Int) * s).toNat).map (·.f3))) := by
              refine ⟨hv1, ?_⟩
              rw [← HXS.out]
              have h9 : ks.take j = ks := List.take_of_length_le (by rw [HM.out]; exact Nat.le_refl _)
              rw [h9] at hv4
              exact hv4
            clear hv1 hv2 hv3 hv4 hv5
            go_wp2_with fail
            go_roundg (q + 1 - (i + 1))
            case measure => have := HQ.out; have := Hz.out; omega
            case rel => exact ⟨i + 1, z + 1, Aw, nw, cw, rfl, Lib.hid (by have := Hz.out; omega), by have := HQ.out; have := Hz.out; omega, Nat.le_refl _, rfl, HE.out⟩
      · rw [feedV_no M s z HF.out (by rw [← HLA.out]; omega)] at C8
        refine C8.mono ?_
        clear C8
        rintro e w4 ⟨A4, c4, rfl, _, hv, hb4⟩
        have HE : Hid (Below w2.heap.size w2 (w4.alloc (.cells #[.int .i64 0, .string ⟨#[]⟩, .string ⟨#[]⟩, .slice none 0 0, .slice A4 0 c4, .string ⟨#[]⟩] 28)) ∧ Kd.N k28 28 (w4.alloc (.cells #[.int .i64 0, .string ⟨#[]⟩, .string ⟨#[]⟩, .slice none 0 0, .slice A4 0 c4, .string ⟨#[]⟩] 28)) w2.heap.size (fun _ => True) (.slice Av nv cv) (((isort ltM M).take (((i + 1 : Nat) : Int) * s).toNat).map (·.f3))) := by
          have hbb := HW.out.1.trans (hb4.mono HW.out.1.size)
          refine ⟨hbb.alloc hbb.size _, ?_⟩
          have hN := Kd.N_alloc (Kd.N_below HW.out.2 hb4) (.cells #[.int .i64 0, .string ⟨#[]⟩, .string ⟨#[]⟩, .slice none 0 0, .slice A4 0 c4, .string ⟨#[]⟩] 28)
          rw [page_all M s HF.out i (by rw [← HLA.out]; omega)] at hN
          rw [page_all M s HF.out (i + 1) (by rw [← HLA.out]; omega)]
          exact hN
        clear hv hb4 HW hzi
        go_wp2_with fail
        go_roundg (q + 1 - (i + 1))
        case measure => have := HQ.out; have := Hz.out; omega
        case rel => exact ⟨i + 1, z + 1, Av, nv, cv, rfl, Lib.hid (by have := Hz.out; omega), by have := HQ.out; have := Hz.out; omega, Nat.le_refl _, rfl, HE.out⟩
    · have hzi := Hz.out
      have hall := page_all M s HF.out i (by rw [← HLA.out]; have := HQ.out; omega)
      obtain ⟨hw1, hw2⟩ := HW.out
      rw [hall] at hw2
      obtain ⟨hnv, hncv, _⟩ := Kd.N_reads' hw2
      rw [List.length_map, isort_len, ← HN.out] at hnv
      subst hnv
      have HX := Lib.hid hw2
      have C14 := rorderC A c M wr (Kd.C_below (Kd.F_now HC.out) hw1) (by rw [← HN.out]; omega)
      rw [← HN.out] at C14
      have HBw := Lib.hid hw1
      clear hw1 hw2 hall HW
      go_wp2_with fail
      refine C14.mono ?_
      clear C14
      rintro e w7 ⟨A9, c9, rfl, h9, hC9, hb7⟩
      rw [← HN.out] at h9 hC9 ⊢
      have HC9 := Lib.hid hC9
      have HX7 := Lib.hid (Kd.N_below HX.out hb7)
      have HB7 := Lib.hid (HBw.out.trans (hb7.mono HBw.out.size))
      clear hC9 hb7 HX HBw
      go_wp2_with fail
      go_loopg [14] nv (fun kx s14 wr => ∃ j : Nat, s14 = .int .i64 (j : Int) ∧ j ≤ nv ∧ nv - j ≤ kx ∧ Hid (Below w7.heap.size w7 wr))
      case atStart => exact ⟨0, rfl, by omega, by omega, Below.refl _ _⟩
      case round =>
        obtain ⟨j, rfl, hjn, hkz, HV⟩ := hrel
        by_cases hlt : j < nv
        · have hj0 : (0 : Int) ≤ (j : Int) := by omega
          have hj1 : (j : Int) < (nv : Int) := by omega
          have hil : (isort ltM M).length = nv := by rw [isort_len, ← HN.out]
          have hjl : j < ((isort ltM M).map (·.f3)).length := by rw [List.length_map, hil]; exact hlt
          have hjl2 : j < (isort ltM M).length := by rw [hil]; exact hlt
          obtain ⟨ad, v3, v4, rfl, xc, hfk⟩ := kid_at (Kd.N_F (Kd.N_below HX7.out HV.out)) j hlt hjl
          have hy1 : ((isort ltM M).map (·.f3))[j] = (isort ltM M)[j].f3 := List.getElem_map ..
          rw [hy1] at xc hfk
          obtain ⟨A3, c3, A4, c4, he, l3, g3, l4, g4⟩ := k28_open (Kd.FK_now hfk)
          simp only [List.cons.injEq] at he
          obtain ⟨_, _, _, rfl, rfl, _⟩ := he
          obtain ⟨ad2, A6, c6, A7, c7, rfl, _, _, _, y3, y4, y5, y6, y7, y8, l6, g6, l7, g7⟩ := at_T40 (Kd.C_below HC9.out HV.out) (j : Int) hj0 hj1
          have hrd : rd_T40 (isort ltM M) (j : Int) = (isort ltM M)[j] := by unfold rd_T40; simp [List.getD, List.getElem?_eq_getElem hjl2]
          rw [hrd] at y3 y4 y5 y6 y7 y8 l6 g6 l7 g7
          have hfin : Fin28 (isort ltM M)[j].f3 := HMf.out _ ((isort_mem ltM M _).1 (List.getElem_mem _))
          generalize (isort ltM M)[j].f3 = y at xc y3 y4 y5 y6 y7 y8 l3 g3 l4 g4 l6 g6 l7 g7 hfin
          have x0 := xc 0 _ rfl
          have x1 := xc 1 _ rfl
          have x2 := xc 2 _ rfl
          have x3 := xc 3 _ rfl
          have x4 := xc 4 _ rfl
          have x5 := xc 5 _ rfl
          rw [Nat.add_zero] at x0
          rw [add_field _ _ _ (by omega)] at x1 x2 x3 x4 x5
          rw [show ((j : Int)).toNat = j from rfl] at y3 y4 y5 y6 y7 y8
          obtain ⟨ke, hke⟩ := fin_end hfin
          have G3 := Lib.hid g3
          have G4 := Lib.hid g4
          have G6 := Lib.hid g6
          have G7 := Lib.hid g7
          have L3 := Lib.hid l3
          have L4 := Lib.hid l4
          have L6 := Lib.hid l6
          have L7 := Lib.hid l7
          have HKE := Lib.hid hke
          clear xc hfk hy1 hrd hil hjl hjl2 hke g3 g4 g6 g7 l3 l4 l6 l7 hfin
          go_wp2_with fail
          refine start_ (n := 11) (S := fun w' => w'.cell? (ad.add (j * 6)) = some (.int .i64 y.f0) ∧ w'.cell? ⟨(ad.add (j * 6)).block, (ad.add (j * 6)).off + 1, none⟩ = some (.string y.f1) ∧ w'.cell? ⟨(ad.add (j * 6)).block, (ad.add (j * 6)).off + 2, none⟩ = some (.string y.f2) ∧ w'.cell? ⟨(ad.add (j * 6)).block, (ad.add (j * 6)).off + 3, none⟩ = some (.slice A3 y.f3.length c3) ∧ w'.cell? ⟨(ad.add (j * 6)).block, (ad.add (j * 6)).off + 4, none⟩ = some (.slice A4 y.f4.length c4) ∧ w'.cell? ⟨(ad.add (j * 6)).block, (ad.add (j * 6)).off + 5, none⟩ = some (.string y.f5) ∧ w'.cell? ⟨(ad2.add (j * 9)).block, (ad2.add (j * 9)).off + 3, none⟩ = some (.int .i64 y.f0) ∧ w'.cell? ⟨(ad2.add (j * 9)).block, (ad2.add (j * 9)).off + 4, none⟩ = some (.string y.f1) ∧ w'.cell? ⟨(ad2.add (j * 9)).block, (ad2.add (j * 9)).off + 5, none⟩ = some (.string y.f2) ∧ w'.cell? ⟨(ad2.add (j * 9)).block, (ad2.add (j * 9)).off + 6, none⟩ = some (.slice A6 y.f3.length c6) ∧ w'.cell? ⟨(ad2.add (j * 9)).block, (ad2.add (j * 9)).off + 7, none⟩ = some (.slice A7 y.f4.length c7) ∧ w'.cell? ⟨(ad2.add (j * 9)).block, (ad2.add (j * 9)).off + 8, none⟩ = some (.string y.f5)) (ds := []) #[false, false, false, false, false, false, false, false, false, false, false] (by kernel_rfl) rfl rfl ⟨x0, x1, x2, x3, x4, x5, y3, y4, y5, y6, y7, y8⟩ (fun hHeld => ?_)
          refine pure_ (i := 0) (N := some 77) (v := ?_) (a' := ?_) #[true, false, false, false, false, false, false, false, false, false, false] rfl rfl (by kernel_rfl) (fun _ _ _ h => h) (Or.inl ⟨by rfl, ?_⟩) ?_ ?_
          rotate_left
          · intro w'
            go_simp
            with_reducible rfl
          rotate_left
          · simp only [Act.put, List.setIfInBounds_toArray, List.set_cons_zero, List.set_cons_succ, i64_w, i32_w]
            rfl
          refine pure_ (i := 1) (N := some 78) (v := ?_) (a' := ?_) #[true, true, false, false, false, false, false, false, false, false, false] rfl rfl (by kernel_rfl) (fun _ _ _ h => h) (Or.inl ⟨by rfl, ?_⟩) ?_ ?_
          rotate_left
          · intro w'
            go_simp
            with_reducible rfl
          rotate_left
          · simp only [Act.put, List.setIfInBounds_toArray, List.set_cons_zero, List.set_cons_succ, i64_w, i32_w]
            rfl
          refine pure_ (i := 2) (N := some 79) (v := ?_) (a' := ?_) #[true, true, true, false, false, false, false, false, false, false, false] rfl rfl (by kernel_rfl) (fun _ _ _ h => h) (Or.inl ⟨by rfl, ?_⟩) ?_ ?_
          rotate_left
          · intro w'
            go_simp
            with_reducible rfl
          rotate_left
          · simp only [Act.put, List.setIfInBounds_toArray, List.set_cons_zero, List.set_cons_succ, i64_w, i32_w]
            rfl
          refine pure_ (i := 4) (N := some 81) (v := ?_) (a' := ?_) #[true, true, true, false, true, false, false, false, false, false, false] rfl rfl (by kernel_rfl) (fun _ _ _ h => h) (Or.inl ⟨by rfl, ?_⟩) ?_ ?_
          rotate_left
          · intro w'
            go_simp
            with_reducible rfl
          rotate_left
          · simp only [Act.put, List.setIfInBounds_toArray, List.set_cons_zero, List.set_cons_succ, i64_w, i32_w]
            rfl
          refine pure_ (i := 5) (N := some 82) (v := ?_) (a' := ?_) #[true, true, true, false, true, true, false, false, false, false, false] rfl rfl (by kernel_rfl) (fun _ _ _ h => h) (Or.inl ⟨by rfl, ?_⟩) ?_ ?_
          rotate_left
          · intro w'
            go_simp
            with_reducible rfl
          rotate_left
          · simp only [Act.put, List.setIfInBounds_toArray, List.set_cons_zero, List.set_cons_succ, i64_w, i32_w]
            rfl
          refine pure_ (i := 6) (N := some 83) (v := ?_) (a' := ?_) #[true, true, true, false, true, true, true, false, false, false, false] rfl rfl (by kernel_rfl) (fun _ _ _ h => h) (Or.inl ⟨by rfl, ?_⟩) ?_ ?_
          rotate_left
          · intro w'
            go_simp
            with_reducible rfl
          rotate_left
          · simp only [Act.put, List.setIfInBounds_toArray, List.set_cons_zero, List.set_cons_succ, i64_w, i32_w]
            rfl
          refine pure_ (i := 7) (N := some 84) (v := ?_) (a' := ?_) #[true, true, true, false, true, true, true, true, false, false, false] rfl rfl (by kernel_rfl) (fun _ _ _ h => h) (Or.inl ⟨by rfl, ?_⟩) ?_ ?_
          rotate_left
          · intro w'
            go_simp
            with_reducible rfl
          rotate_left
          · simp only [Act.put, List.setIfInBounds_toArray, List.set_cons_zero, List.set_cons_succ, i64_w, i32_w]
            rfl
          refine take_ (i := 3) (N := some 80) (v := ?_) (a' := ?_) #[true, true, true, true, true, true, true, true, false, false, false] rfl rfl (by kernel_rfl) (fun _ _ _ h => h) (Or.inl ⟨by rfl, ?_⟩) hHeld ?_ ?_
          rotate_left
          · rintro w' ⟨s0, s1, s2, s3, s4, s5, s6, s7, s8, s9, s10, s11⟩
            go_simp
            with_reducible rfl
          rotate_left
          · simp only [Act.put, List.setIfInBounds_toArray, List.set_cons_zero, List.set_cons_succ, i64_w, i32_w]
            rfl
          refine take_ (i := 8) (N := some 85) (v := ?_) (a' := ?_) #[true, true, true, true, true, true, true, true, true, false, false] rfl rfl (by kernel_rfl) (fun _ _ _ h => h) (Or.inl ⟨by rfl, ?_⟩) hHeld ?_ ?_
          rotate_left
          · rintro w' ⟨s0, s1, s2, s3, s4, s5, s6, s7, s8, s9, s10, s11⟩
            go_simp
            with_reducible rfl
          rotate_left
          · simp only [Act.put, List.setIfInBounds_toArray, List.set_cons_zero, List.set_cons_succ, i64_w, i32_w]
            rfl
          refine one_ (i := 9) (N := some 86) #[true, true, true, true, true, true, true, true, true, true, false] rfl rfl (by kernel_rfl) (by decide) (fun K hK => ?_)
          refine goes_ Tryd.func12 (by kernel_rfl) rfl #[.agg #[.int .i64 y.f0, .string y.f1, .string y.f2, .slice A3 y.f3.length c3, .slice A4 y.f4.length c4, .string y.f5], .agg #[.int .i64 y.f0, .string y.f1, .string y.f2, .slice A6 y.f3.length c6, .slice A7 y.f4.length c7, .string y.f5]] (by rfl) rfl rfl (by (try simp only [List.map_toArray, List.map_cons, List.map_nil]); first | done | rfl) ?_
          refine (broadsheetref09_Same.calls ke y.f0 y.f1 y.f2 A3 c3 y.f3 A4 c4 y.f4 y.f5 y.f0 y.f1 y.f2 A6 c6 y.f3 A7 c7 y.f4 y.f5 true _ (Kd.C_drew G3.out) L3.out (Kd.C_drew G4.out) L4.out (Kd.C_drew G6.out) L6.out (Kd.C_drew G7.out) L7.out rfl HKE.out).mono ?_
          rintro e w8 ⟨rfl, hb8⟩
          refine ⟨_, rfl, ?_⟩
          have HB8 := Lib.hid ((HV.out.trans (Below.mono (pw_below_drewN (Below.refl _ _) 1) HV.out.size)).trans (hb8.mono (HV.out.trans (Below.mono (pw_below_drewN (Below.refl _ _) 1) HV.out.size)).size))
          have kp : ∀ {a : Addr} {v : Value}, wr.cell? a = some v → w8.cell? a = some v := fun h => cell_keep hb8 h
          refine hK.out _ _ ⟨kp x0, kp x1, kp x2, kp x3, kp x4, kp x5, kp y3, kp y4, kp y5, kp y6, kp y7, kp y8⟩ (fun hHeld => ?_)
          clear hK K
          refine norm_ (a' := ?_) ?_ ?_
          rotate_left
          · show Act.put _ (some 86) _ = _
            simp only [Act.put, List.setIfInBounds_toArray, List.set_cons_zero, List.set_cons_succ, i64_w, i32_w]
            rfl
          refine pure_ (i := 10) (N := some 87) (v := ?_) (a' := ?_) #[true, true, true, true, true, true, true, true, true, true, true] rfl rfl (by kernel_rfl) (fun _ _ _ h => h) (Or.inl ⟨by rfl, ?_⟩) ?_ ?_
          rotate_left
          · intro w'
            go_simp
            with_reducible rfl
          rotate_left
          · simp only [Act.put, List.setIfInBounds_toArray, List.set_cons_zero, List.set_cons_succ, i64_w, i32_w]
            rfl
          refine done_ (by kernel_rfl) ?_
          clear kp hb8
          go_wp2_with fail
          go_roundg (nv - (j + 1))
          case measure => omega
          case rel => exact ⟨j + 1, by go_num, by omega, Nat.le_refl _, HB8⟩
        · obtain rfl : j = nv := by omega
          go_wp2_with fail
          go_ret
          exact ⟨rfl, HB2.out.trans ((HB7.out.trans (HV.out.mono HB7.out.size)).mono HB2.out.size)⟩
end Go.Proofs.YtjbckpoepfbgbaaDoor.Fwk
namespace Go.Proofs.YtjbckpoepfbgbaaDoor.Pr
open Go.RowKit Go.Proofs.YtjbckpoepfbgbaaDoorW.PrintWords
theorem broadsheetlaw23_FeedWalks.calls (k : Nat) (A0 : Option Addr) (c0 : Nat) (l0 : List (S72)) (a1 : Int) (r : Bool) (w : World) (hG : Go.Proofs.YtjbckpoepfbgbaaDoor.Txt.LaidW w) (hr0 : Kd.C k72 w A0 l0.length l0) (hc0 : l0.length ≤ c0) (h : r = true ∧ 0 ≤ a1 ∧ a1 ≤ 255) :
    Calls Tryd.prog 5 #[.slice A0 l0.length c0, .int .u8 a1] w fun e w' => e = .returned (.bool r) ∧ Below w.heap.size w w' := by
  obtain ⟨rfl, h1, h2⟩ := h
  exact Fwk.walks A0 c0 l0 a1 w hG hr0 hc0 h1 h2
end Go.Proofs.YtjbckpoepfbgbaaDoor.Pr
end
section
/- FeedWalks: what is asked of its numbers. -/
set_option linter.unusedVariables false
namespace Go.Proofs.YtjbckpoepfbgbaaDoor.Pure
open Go.RowKit Go.Proofs.YtjbckpoepfbgbaaDoor.Pr
theorem FeedWalks (l : List S72) (a1 : Int) (h : (Lit.int .u8 a1).wf = true) : ∃ k : Nat, true = true ∧ 0 ≤ a1 ∧ a1 ≤ 255 := ⟨0, rfl, Go.bounds_u8 h⟩
end Go.Proofs.YtjbckpoepfbgbaaDoor.Pure
end
section
/- A slice of structs of two small numbers that comes in reads as a row of them. -/
set_option linter.unusedVariables false
set_option maxRecDepth 20000
namespace Go.Proofs.YtjbckpoepfbgbaaDoor.Opn
open Go.ChangeShapes Go.WideShapes Go.Deep Go.RowKit Go.Proofs.YtjbckpoepfbgbaaDoor.Pr Go.Proofs.YtjbckpoepfbgbaaDoorW.PrintWords
section
variable {H : Type} {enc : TypeId × Value → H} {P : Program} {w : World} {base : Nat} {spare : Nat → Bool} {held : Bool}
theorem open_slice_fields {t e : TypeId} {fs : Array Field} {fuel : Nat} {cs : List Value} {x : DataW H × List MemPlace} (ht : P.underlying t = some (.slice e)) (he : P.underlying e = some (.struct fs))
    (hone : oneCellFields P fs = true) (hC : P.cellsOf e = fs.size) (h : DataW.trod enc P w base spare held fuel t cs = some x) :
    (cs = [.slice none 0 0] ∧ x = (.nil, [])) ∨
    ∃ (a : Addr) (len cap m : Nat) (D : Nat → DataW H) (Pl : Nat → List MemPlace), cs = [.slice (some a) len cap] ∧ base ≤ a.block ∧ len ≤ cap ∧ cap ≤ maxLen ∧ m = (if spare a.block then cap else len) ∧
      x = (.slice ((List.range len).map D) ((List.range (m - len)).map fun j => D (len + j)), MemPlace.row a (m * fs.size) ++ (List.range m).flatMap Pl) ∧
      ∀ i, i < m → ∃ (ys : List (DataW H × List MemPlace)) (n : Nat), D i = .agg (ys.map (·.1)) ∧ Pl i = ys.flatMap (·.2) ∧ ys.length = fs.size ∧
        ∀ (j : Nat) (f : Field), fs[j]? = some f → ∃ (v : Value) (y : DataW H × List MemPlace), w.cell? (a.add (i * fs.size + j)) = some v ∧ ys[j]? = some y ∧ DataW.trod enc P w base spare held n f.type [v] = some y := by
  rcases open_slice ht h with h0 | ⟨a, len, cap, m, n, D, Pl, hcs, hb, hl, hm, hmm, hx, hi⟩
  · exact .inl h0
  · refine .inr ⟨a, len, cap, m, D, Pl, hcs, hb, hl, hm, hmm, by rw [hC] at hx; exact hx, fun i him => ?_⟩
    obtain ⟨cs', hc, ht'⟩ := hi i him
    rw [hC] at hc
    obtain ⟨ys, n', hn', hy, hlen, hyl, hf⟩ := DataW.trod_struct he ht'
    obtain ⟨_, hcl, hat⟩ := World.cells?_some hc
    simp only [Prod.mk.injEq] at hy
    refine ⟨ys, n', hy.1, hy.2, hyl, fun j f hj => ?_⟩
    obtain ⟨ho, hk⟩ := hone_of hone j f hj
    have hjl : j < fs.size := (Array.getElem?_eq_some_iff.1 hj).1
    have hcell := hat j hjl
    have hv : cs'[j]? = some (cs'[j]'(by omega)) := List.getElem?_eq_getElem (by omega)
    have h1 := hf j f hj
    rw [ho, hk] at h1
    have hone' : (cs'.drop j).take 1 = [cs'[j]'(by omega)] := by
      rw [List.drop_eq_getElem_cons (by omega)]
      rfl
    rw [hone'] at h1
    have hys : ys[j]? = some (ys[j]'(by omega)) := List.getElem?_eq_getElem (by omega)
    refine ⟨_, _, ?_, hys, h1.trans hys⟩
    rw [← Go.Deep.add_add, hcell, hv]
end
theorem cells72 : Tryd.prog.cellsOf 72 = 2 := by kernel_rfl
section
variable {H : Type} {enc : TypeId × Value → H} {w : World} {base : Nat} {spare : Nat → Bool} {held : Bool}
/-- A slice of bits. -/
theorem read_bits {a : Option Addr} {len cap : Nat} {d : DataW H} {p : List MemPlace} (h : DataW.Trod enc Tryd.prog w base spare held 35 (.slice a len cap) d p) : ∃ l : List S72, l.length = len ∧ len ≤ cap ∧ Kd.C k72 w a l.length l := by
  obtain ⟨fuel, hf⟩ := h
  rcases open_slice_fields (Tryd.underlying35) (Tryd.underlying72) (by kernel_rfl) cells72 hf with ⟨hcs, _⟩ | ⟨x, n, c, m, D, Pl, hcs, _, hl, hm, hmm, hx, hi⟩
  · simp [Value.cells] at hcs
    obtain ⟨rfl, rfl, rfl⟩ := hcs
    exact ⟨[], rfl, Nat.le_refl _, ⟨rfl, by decide, fun h => absurd h (by decide)⟩⟩
  · simp [Value.cells] at hcs
    obtain ⟨rfl, rfl, rfl⟩ := hcs
    have hmn : len ≤ m := by rw [hmm]; split <;> omega
    have hx2 : ∀ i, ∃ z : S72, i < m → w.cell? (x.add (i * 2 + 0)) = some (.int .u8 z.f0) ∧ w.cell? (x.add (i * 2 + 1)) = some (.int .u8 z.f1) := by
      intro i
      by_cases him : i < m
      · obtain ⟨ys, n', _, _, _, hfl⟩ := hi i him
        obtain ⟨v0, y0, hc0, _, ht0⟩ := hfl 0 _ rfl
        obtain ⟨v1, y1, hc1, _, ht1⟩ := hfl 1 _ rfl
        obtain ⟨n0, e0, _, _⟩ := DataW.trod_int (Tryd.underlying5) ht0
        obtain ⟨n1, e1, _, _⟩ := DataW.trod_int (Tryd.underlying5) ht1
        simp at e0 e1
        exact ⟨⟨n0, n1⟩, fun _ => ⟨by rw [← e0]; exact hc0, by rw [← e1]; exact hc1⟩⟩
      · exact ⟨⟨0, 0⟩, fun h => absurd h him⟩
    refine ⟨(List.range len).map (fun i => Classical.choose (hx2 i)), by simp, hl, ?_⟩
    rw [List.length_map, List.length_range]
    refine ⟨by simp, Nat.le_trans hl (Nat.le_trans hm (by decide)), fun hp => ⟨x, rfl, fun j q hj => ?_⟩⟩
    rw [List.getElem?_map] at hj
    obtain ⟨i, hi2, rfl⟩ := Option.map_eq_some_iff.1 hj
    obtain ⟨hjl, hij⟩ := List.getElem?_eq_some_iff.1 hi2
    simp at hij hjl
    subst hij
    obtain ⟨c0, c1⟩ := Classical.choose_spec (hx2 j) (by omega)
    refine ⟨_, rfl, k72_mk w _, fun i u hu => ?_⟩
    rcases i with _ | _ | i
    · obtain rfl := Option.some.inj hu; exact c0
    · obtain rfl := Option.some.inj hu; exact c1
    · simp at hu
end
end Go.Proofs.YtjbckpoepfbgbaaDoor.Opn
end
