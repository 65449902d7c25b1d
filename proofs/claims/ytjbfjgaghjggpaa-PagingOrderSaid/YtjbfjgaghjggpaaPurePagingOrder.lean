/- PagingOrder's plain statement: the order has each member just once, none ahead of one that was edited later, or then, and has a greater number. No memory in sight. -/
import Derived.Test.YtjbfjgaghjggpaaMem
import Derived.Test.YtjbfjgaghjggpaaByt
import Derived.Test.YtjbfjgaghjggpaaPrx3
set_option linter.unusedVariables false
namespace Go.Proofs.Ytjbfjgaghjggpaa.Pure
open Go.RowKit Go.Sort Go.Proofs.Ytjbfjgaghjggpaa.Mem Go.Proofs.Ytjbfjgaghjggpaa.Mrg Go.Proofs.Ytjbfjgaghjggpaa.Srt Go.Proofs.Ytjbfjgaghjggpaa.Pr Go.Proofs.YtjbfjgaghjggpaaW.PrintWords Go.Proofs.YtjbfjgaghjggpaaW.PrintLast Go.Proofs.YtjbfjgaghjggpaaW.PrintMore

/-- Member i's tag is the one byte 65 + i. -/
theorem tag_of (l : List S47) (i : Nat) (h : i < 60) : (mem l i).f2.toList = [UInt8.ofNat (65 + i)] := by
  have e : (wrap64 (65 + (i : Int)) % 256) = ((65 + i : Nat) : Int) := by unfold wrap64; omega
  unfold mem
  rw [e]
  rw [show (strOfNums [((65 + i : Nat) : Int)]).toList = [UInt8.ofNat (((65 + i : Nat) : Int)).toNat] by simp [strOfNums, ByteArray.toList, ByteArray.toList.loop, ByteArray.size, ByteArray.get!], Int.toNat_natCast]
theorem tag_inj (l : List S47) (i j : Nat) (hi : i < 60) (hj : j < 60) : ((mem l i).f2.toList = (mem l j).f2.toList) ↔ i = j := by
  rw [tag_of l i hi, tag_of l j hj]
  constructor
  · intro h
    have h := List.cons.inj h
    have := congrArg UInt8.toNat h.1
    simp at this
    omega
  · rintro rfl; rfl
theorem tag_less (l : List S47) (i j : Nat) (hi : i < 60) (hj : j < 60) : Op.bytesLess (mem l i).f2.toList (mem l j).f2.toList = true ↔ i < j := by
  rw [tag_of l i hi, tag_of l j hj]
  simp [Op.bytesLess, UInt8.lt_iff_toNat_lt]
  omega

/-- Sorted, those that are alike in the order in which they came. -/
def Stb (l : List S47) (a b : Nat) : Prop := ltM (mem l b) (mem l a) = false ∧ (ltM (mem l a) (mem l b) = false → a < b)
theorem ltM_trans {a b c : S32} (h1 : ltM a b = false) (h2 : ltM b c = false) : ltM a c = false := by
  unfold ltM at *
  rw [decide_eq_false_iff_not] at *
  omega
theorem ltM_asymm {a b : S32} (h : ltM a b = true) : ltM b a = false := by
  unfold ltM at *
  rw [decide_eq_false_iff_not]
  rw [decide_eq_true_eq] at h
  omega
theorem ins_stb (l : List S47) (x : Nat) : ∀ (s : List Nat), s.Pairwise (Stb l) → (∀ y ∈ s, y < x) → (ins (fun a b => ltM (mem l a) (mem l b)) x s).Pairwise (Stb l) := by
  intro s
  induction s with
  | nil => intro _ _; simp [ins]
  | cons y s ih =>
    intro h hx
    obtain ⟨h1, h2⟩ := List.pairwise_cons.1 h
    have hyx := hx y (List.mem_cons_self ..)
    unfold ins
    split
    · rename_i hlt
      refine List.pairwise_cons.2 ⟨fun z hz => ?_, h⟩
      rcases List.mem_cons.1 hz with rfl | hz
      · exact ⟨ltM_asymm hlt, fun e => by rw [e] at hlt; cases hlt⟩
      · have hzy := (h1 z hz).1
        refine ⟨ltM_trans hzy (ltM_asymm hlt), fun e => ?_⟩
        have := ltM_trans e hzy
        rw [this] at hlt; cases hlt
    · rename_i hlt
      refine List.pairwise_cons.2 ⟨fun z hz => ?_, ih h2 (fun z hz => hx z (List.mem_cons_of_mem _ hz))⟩
      rcases (ins_mem _ x s z).1 hz with rfl | hz
      · exact ⟨by simpa using hlt, fun _ => hyx⟩
      · exact h1 z hz
theorem isort_stb (l : List S47) (n : Nat) : (isort (fun a b => ltM (mem l a) (mem l b)) (List.range n)).Pairwise (Stb l) := by
  induction n with
  | zero => exact List.Pairwise.nil
  | succ n ih =>
    rw [List.range_succ, isort_snoc]
    exact ins_stb l n _ ih (fun y hy => by rw [isort_mem] at hy; simpa using hy)
/-- The order, as places. -/
def ord (l : List S47) (n : Nat) : List Nat := isort (fun a b => ltM (mem l a) (mem l b)) (List.range n)
theorem ord_map (l : List S47) (n : Nat) : isort ltM (mems l n) = (ord l n).map (mem l) := isort_map (mem l) _ ltM (fun _ _ => rfl) _
theorem ord_len (l : List S47) (n : Nat) : (ord l n).length = n := by unfold ord; rw [isort_len]; simp
theorem ord_perm {α : Type} (lt : α → α → Bool) (l : List α) : (isort lt l).Perm l := by
  have hi : ∀ (x : α) (s : List α), (ins lt x s).Perm (x :: s) := by
    intro x s
    induction s with
    | nil => exact List.Perm.refl _
    | cons y s ih =>
      unfold ins
      split
      · exact List.Perm.refl _
      · exact (List.Perm.cons y ih).trans (List.Perm.swap x y s)
  have H : ∀ (l s : List α), (l.foldl (fun s x => ins lt x s) s).Perm (s ++ l) := by
    intro l
    induction l with
    | nil => intro s; simp
    | cons x l ih =>
      intro s
      rw [List.foldl_cons]
      refine (ih _).trans ?_
      refine ((hi x s).append_right l).trans ?_
      exact (List.perm_middle (a := x) (l₁ := s) (l₂ := l)).symm
  have := H l []
  simpa [isort] using this
theorem ord_nodup (l : List S47) (n : Nat) : (ord l n).Nodup := (ord_perm _ _).nodup_iff.2 List.nodup_range
theorem ord_lt (l : List S47) (n : Nat) (j : Nat) (h : j ∈ ord l n) : j < n := by unfold ord at h; rw [isort_mem] at h; simpa using h

theorem rd_mems (l : List S47) (n i : Nat) (h : i < n) : rd_T32 (mems l n) (i : Int) = mem l i := by
  unfold rd_T32 mems
  rw [Int.toNat_natCast, List.getD_eq_getElem?_getD, List.getElem?_map, List.getElem?_range h]
  rfl
theorem rd_ord (l : List S47) (n j : Nat) (h : j < (ord l n).length) : rd_T32 ((ord l n).map (mem l)) (j : Int) = mem l ((ord l n)[j]) := by
  unfold rd_T32
  rw [Int.toNat_natCast, List.getD_eq_getElem?_getD, List.getElem?_map, List.getElem?_eq_getElem h]
  rfl
theorem neigh (l : List S47) (n i : Nat) (h : i + 1 < (ord l n).length) : Stb l ((ord l n)[i]) ((ord l n)[i + 1]) :=
  List.pairwise_iff_getElem.1 (show (ord l n).Pairwise (Stb l) from isort_stb l n) i (i + 1) (by omega) h (by omega)
theorem count_of (l : List S47) (n i : Nat) (h : i < n) : (ord l n).count i = 1 := by
  have hm : i ∈ ord l n := by unfold ord; rw [isort_mem]; simpa using h
  have h1 := List.count_pos_iff.2 hm
  have h2 := List.nodup_iff_count.1 (ord_nodup l n) i
  omega
theorem order_1 (l : List S47) (n i : Nat) (hn : n ≤ 60) (hi : i < n) (k0 : Nat) (h0 : broadsheetlaw22_PagingOrder.l0 k0 true (mems l n) ((ord l n).map (mem l)) ((i + 1 : Nat) : Int) = some true) (d : Nat) : ∀ j : Nat, j ≤ n → n - j = d → ∃ k, broadsheetlaw22_PagingOrder.l1 k true (mems l n) ((ord l n).map (mem l)) (i : Int) ((((ord l n).take j).count i : Nat) : Int) (j : Int) = some true := by
  have hol := ord_len l n
  induction d with
  | zero =>
    intro j hj hd
    have e : j = n := by omega
    subst e
    refine ⟨k0 + 1, ?_⟩
    simp only [broadsheetlaw22_PagingOrder.l1]
    rw [if_neg (by rw [List.length_map, hol]; omega), List.take_of_length_le (by omega), count_of l j i hi, if_pos (show ((1 : Nat) : Int) = 1 from rfl)]
    have hw : wrap64 ((i : Int) + 1) = ((i + 1 : Nat) : Int) := by unfold wrap64; omega
    rw [hw]
    by_cases c : (i : Int) > 0
    · obtain ⟨q, rfl⟩ : ∃ q, i = q + 1 := ⟨i - 1, by omega⟩
      have hp : wrap64 (((q + 1 : Nat) : Int) - 1) = ((q : Nat) : Int) := by unfold wrap64; omega
      rw [if_pos c, hp, if_pos (by omega), if_pos (by rw [List.length_map, hol]; omega), if_pos (by omega), if_pos (by rw [List.length_map, hol]; omega), rd_ord l j q (by omega), rd_ord l j (q + 1) (by omega)]
      obtain ⟨s1, s2⟩ := neigh l j q (by omega)
      unfold ltM at s1 s2
      rw [decide_eq_false_iff_not] at s1
      rw [decide_eq_false_iff_not] at s2
      have ha := ord_lt l j _ (List.getElem_mem (show q < (ord l j).length by omega))
      have hb := ord_lt l j _ (List.getElem_mem (show q + 1 < (ord l j).length by omega))
      rw [if_neg (by omega)]
      by_cases c1 : (mem l ((ord l j)[q])).f1 = (mem l ((ord l j)[q + 1])).f1
      · rw [if_pos c1, if_neg (by omega)]
        by_cases c2 : (mem l ((ord l j)[q])).f0 = (mem l ((ord l j)[q + 1])).f0
        · have hlt := s2 (by omega)
          rw [if_pos c2, if_neg (by rw [tag_less l _ _ (by omega) (by omega)]; omega)]
          exact h0
        · rw [if_neg c2]; exact h0
      · rw [if_neg c1]; exact h0
    · rw [if_neg c]; exact h0
  | succ d ih =>
    intro j hj hd
    obtain ⟨k, hk⟩ := ih (j + 1) (by omega) (by omega)
    refine ⟨k + 1, ?_⟩
    simp only [broadsheetlaw22_PagingOrder.l1]
    have hw : wrap64 ((j : Int) + 1) = ((j + 1 : Nat) : Int) := by unfold wrap64; omega
    have hjl : j < (ord l n).length := by omega
    have hx := ord_lt l n _ (List.getElem_mem hjl)
    rw [if_pos (by rw [List.length_map, hol]; omega), if_pos (by omega), if_pos (by omega), if_pos (by rw [mems_len]; omega), rd_mems l n i hi, rd_ord l n j hjl, hw]
    rw [List.take_succ_eq_append_getElem hjl, List.count_append, List.count_singleton] at hk
    have hc := (List.count_le_length (a := i) (l := (ord l n).take j))
    rw [List.length_take] at hc
    by_cases c : (ord l n)[j] = i
    · rw [if_pos ((tag_inj l _ _ (by omega) (by omega)).2 c)]
      rw [if_pos (by simpa using c)] at hk
      rw [show wrap64 (((((ord l n).take j).count i : Nat) : Int) + 1) = ((((ord l n).take j).count i + 1 : Nat) : Int) by unfold wrap64; omega]
      exact hk
    · rw [if_neg (fun e => c ((tag_inj l _ _ (by omega) (by omega)).1 e))]
      rw [if_neg (by simpa using c)] at hk
      exact hk
theorem order_0 (l : List S47) (n : Nat) (hn : n ≤ 60) (d : Nat) : ∀ i : Nat, i ≤ n → n - i = d → ∃ k, broadsheetlaw22_PagingOrder.l0 k true (mems l n) ((ord l n).map (mem l)) (i : Int) = some true := by
  have hol := ord_len l n
  induction d with
  | zero =>
    intro i hi hd
    refine ⟨1, ?_⟩
    simp only [broadsheetlaw22_PagingOrder.l0]
    rw [if_neg (by rw [List.length_map, hol]; omega)]
  | succ d ih =>
    intro i hi hd
    obtain ⟨k0, h0⟩ := ih (i + 1) (by omega) (by omega)
    obtain ⟨k, hk⟩ := order_1 l n i hn (by omega) k0 h0 n 0 (by omega) (by omega)
    refine ⟨k + 1, ?_⟩
    simp only [broadsheetlaw22_PagingOrder.l0]
    rw [if_pos (by rw [List.length_map, hol]; omega)]
    exact hk

theorem PagingOrder (l : List S47) : ∃ k, broadsheetlaw22_PagingOrder.f k l = some true := by
  obtain ⟨k1, h1⟩ := members_f l
  obtain ⟨k2, h2⟩ := order_0 l (min l.length 60) (by omega) (min l.length 60) 0 (by omega) (by omega)
  have m0 : ∀ k d, LeO (broadsheetlaw22_PagingOrder.l0 k true (mems l (min l.length 60)) ((ord l (min l.length 60)).map (mem l)) 0) (broadsheetlaw22_PagingOrder.l0 (k + d) true (mems l (min l.length 60)) ((ord l (min l.length 60)).map (mem l)) 0) := by
    intro k d
    induction d with
    | zero => exact fun _ h => h
    | succ d ih => exact fun r h => (broadsheetlaw22_PagingOrder.mono_l (k + d)).1 _ _ _ _ r (ih r h)
  have m1 : ∀ k d, LeO (broadsheetlaw22_Members.f k l) (broadsheetlaw22_Members.f (k + d) l) := by
    intro k d
    induction d with
    | zero => exact fun _ h => h
    | succ d ih => exact fun r h => (broadsheetlaw22_Members.mono l (k + d)) r (ih r h)
  refine ⟨k1 + k2, ?_⟩
  unfold broadsheetlaw22_PagingOrder.f Gv.broadsheetlaw22_awake.f Gv.paging_Order.f
  rw [m1 k1 k2 _ h1]
  simp only [Option.bind_some, if_true]
  rw [if_pos (by rw [mems_len]; omega)]
  simp only [Option.bind_some]
  rw [ord_map, if_pos (by rw [List.length_map, ord_len, mems_len]), Nat.add_comm k1 k2]
  exact m0 k2 k1 _ h2
end Go.Proofs.Ytjbfjgaghjggpaa.Pure
