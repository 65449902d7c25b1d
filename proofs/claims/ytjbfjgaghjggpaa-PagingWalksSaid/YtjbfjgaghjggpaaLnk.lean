/- How many pages there are, and a page's links: what the program and the document's answer tell, both alike. -/
import Derived.Test.YtjbfjgaghjggpaaPrx7
import Derived.Lib.Hide
set_option linter.unusedVariables false
namespace Go.Proofs.Ytjbfjgaghjggpaa.Lnk
open Go.RowKit Go.Proofs.Ytjbfjgaghjggpaa.Pr Go.Proofs.YtjbfjgaghjggpaaW.PrintWords

/-- The last page. -/
def lastP (n s : Int) : Int := if n = 0 then 1 else (n - 1) / s + 1
def Bad (n s : Int) : Prop := n < 0 ∨ s < 1 ∨ 100 < s
def Fit (n s : Int) : Prop := 0 ≤ n ∧ n ≤ 9223372036854775807 ∧ 1 ≤ s ∧ s ≤ 100
theorem lastP_bd {n s : Int} (h : Fit n s) : 1 ≤ lastP n s ∧ lastP n s ≤ 9223372036854775807 := by
  obtain ⟨h1, h2, h3, h4⟩ := h
  unfold lastP
  split
  · omega
  · have a := Int.ediv_le_self (a := n - 1) s (by omega)
    have b : 0 ≤ (n - 1) / s := Int.ediv_nonneg (by omega) (by omega)
    omega
theorem count_bad {n s : Int} (h : Bad n s) : paging_Count.f n s = some (0, 1) := by
  unfold paging_Count.f
  unfold Bad at h
  by_cases h1 : n < 0
  · rw [if_pos h1]
  · rw [if_neg h1]
    by_cases h2 : s < 1
    · rw [if_pos h2]
    · rw [if_neg h2, if_pos (by omega)]
theorem wrap_id {x : Int} (h1 : -9223372036854775808 ≤ x) (h2 : x ≤ 9223372036854775807) : wrap64 x = x := by unfold wrap64; omega
theorem count_fit {n s : Int} (h : Fit n s) : paging_Count.f n s = some (lastP n s, 0) := by
  have hb := lastP_bd h
  obtain ⟨h1, h2, h3, h4⟩ := h
  unfold paging_Count.f
  rw [if_neg (by omega), if_neg (by omega), if_neg (by omega), if_neg (by omega)]
  have hm : wrap64 (mx n 1 - 1) = if n = 0 then 0 else n - 1 := by
    unfold mx wrap64
    split <;> split <;> omega
  rw [hm]
  unfold lastP at hb ⊢
  by_cases h0 : n = 0
  · rw [if_pos h0, if_pos h0]; simp [wrap64]
  · rw [if_neg h0] at hb
    rw [if_neg h0, if_neg h0]
    rw [Int.tdiv_eq_ediv_of_nonneg (by omega), wrap_id (x := (n - 1) / s) (by omega) (by omega), wrap_id (by omega) (by omega)]
theorem rcount_bad {n s : Int} (h : Bad n s) : broadsheetref22_Count.f 1 n s = some (0, 1) := by
  unfold broadsheetref22_Count.f
  unfold Bad at h
  by_cases h1 : n < 0
  · rw [if_pos h1]; rfl
  · rw [if_neg h1]
    by_cases h2 : s < 1
    · rw [if_pos h2]; rfl
    · rw [if_neg h2, decide_eq_true (show s > 100 by omega)]; rfl
theorem rcount_fit {n s : Int} (h : Fit n s) : broadsheetref22_Count.f 1 n s = some (lastP n s, 0) := by
  have hb := lastP_bd h
  obtain ⟨h1, h2, h3, h4⟩ := h
  unfold broadsheetref22_Count.f
  rw [if_neg (by omega), if_neg (by omega), decide_eq_false (show ¬ s > 100 by omega)]
  simp only [broadsheetref22_Count.j0]
  rw [if_neg (by decide)]
  unfold lastP at hb ⊢
  by_cases h0 : n = 0
  · rw [if_pos h0, if_pos h0]
  · rw [if_neg h0] at hb
    rw [if_neg h0, if_neg h0, if_neg (by omega), wrap_id (show -9223372036854775808 ≤ n - 1 by omega) (by omega)]
    rw [Int.tdiv_eq_ediv_of_nonneg (by omega), wrap_id (x := (n - 1) / s) (by omega) (by omega), wrap_id (by omega) (by omega)]

theorem countB {n s : Int} (w : World) (h : Bad n s) : Calls Try.prog 11 #[.int .i64 n, .int .i64 s] w fun e w' => e = .returned (.tuple #[.int .i64 0, .int .i64 1]) ∧ Below w.heap.size w w' := paging_Count.calls n s 0 1 w (count_bad h)
theorem countF {n s : Int} (w : World) (h : Fit n s) : Calls Try.prog 11 #[.int .i64 n, .int .i64 s] w fun e w' => e = .returned (.tuple #[.int .i64 (lastP n s), .int .i64 0]) ∧ Below w.heap.size w w' := paging_Count.calls n s _ 0 w (count_fit h)
theorem drawn_below {w w' : World} (h : Drawn0 w w') : Below w.heap.size w w' := by
  obtain ⟨⟨n, rfl⟩⟩ := h
  exact pw_below_drewN (Below.refl _ _) n
theorem rcountB {n s : Int} (w : World) (h : Bad n s) : Calls Try.prog 20 #[.int .i64 n, .int .i64 s] w fun e w' => e = .returned (.tuple #[.int .i64 0, .int .i64 1]) ∧ Below w.heap.size w w' := (broadsheetref22_Count.calls 1 n s 0 1 w (rcount_bad h)).mono fun _ _ ⟨a, b⟩ => ⟨a, drawn_below b⟩
theorem rcountF {n s : Int} (w : World) (h : Fit n s) : Calls Try.prog 20 #[.int .i64 n, .int .i64 s] w fun e w' => e = .returned (.tuple #[.int .i64 (lastP n s), .int .i64 0]) ∧ Below w.heap.size w w' := (broadsheetref22_Count.calls 1 n s _ 0 w (rcount_fit h)).mono fun _ _ ⟨a, b⟩ => ⟨a, drawn_below b⟩

def four (a b c d : Int) : Value := .agg #[.int .i64 a, .int .i64 b, .int .i64 c, .int .i64 d]
theorem blk_cell {w : World} {g : Nat} {cs : Array Value} {T : TypeId} (h : w.heap[g]? = some (.cells cs T (0, 0))) (j : Nat) (v : Value) (hv : cs[j]? = some v) : w.cell? ⟨g, j, none⟩ = some v ∧ w.frozen? ⟨g, j, none⟩ = false := by
  constructor
  · simp [World.cell?, h, hv]
  · simp [World.frozen?, h]
theorem new_blk (w : World) (o : Obj) (w1 : World) (hb : Below (w.alloc o).heap.size (w.alloc o) w1) : w1.heap[w.heap.size]? = some o ∧ w.heap.size < w1.heap.size := by
  have h1 : (w.alloc o).heap[w.heap.size]? = some o := by
    show (w.heap.push o)[w.heap.size]? = some o
    simp
  have h2 : (w.alloc o).heap.size = w.heap.size + 1 := by simp
  exact ⟨(hb.block _ (by omega)).trans h1, by have := hb.size; omega⟩

/-- A page's links, as the program and the document's answer tell them: last p the last page. -/
def nextP (n s k : Int) : Int := if k = lastP n s then 0 else k + 1

set_option maxHeartbeats 1000000 in
theorem linksB {n s : Int} (k : Int) (w : World) (h : Bad n s) : Calls Try.prog 13 #[.int .i64 n, .int .i64 s, .int .i64 k] w fun e w' => e = .returned (.tuple #[four 0 0 0 0, .int .i64 1]) ∧ Below w.heap.size w w' := by
  have C1 := countB (w.alloc (.cells #[.int .i64 0, .int .i64 0, .int .i64 0, .int .i64 0] 41)) h
  go_enter Try.func13, Try.ntmps13
  go_wp2_with fail
  refine C1.mono ?_
  clear C1
  rintro e w1 ⟨rfl, hb⟩
  have hn := new_blk _ _ _ hb
  have c0 := blk_cell hn.1 0 (.int .i64 0) rfl
  have c1 := blk_cell hn.1 1 (.int .i64 0) rfl
  have c2 := blk_cell hn.1 2 (.int .i64 0) rfl
  have c3 := blk_cell hn.1 3 (.int .i64 0) rfl
  have hs := hn.2
  have HB : Hid (Below w.heap.size w w1) := ((Below.refl _ _).alloc (Nat.le_refl _) _).trans (hb.mono (by simp))
  have HN := Lib.hid hn.1
  clear hb hn
  go_wp2_with fail
  refine bodyPost_ret (v := .tuple #[four 0 0 0 0, .int .i64 1]) (by simp [results, Try.results13, go_sem, c0, c1, c2, c3, four]) rfl ⟨rfl, ?_⟩
  exact (((HB.out.setCell (by simp) _).setCell (by simp) _).setCell (by simp) _).setCell (by simp) _

set_option maxHeartbeats 1000000 in
theorem rlinksB {n s : Int} (k : Int) (w : World) (h : Bad n s) : Calls Try.prog 22 #[.int .i64 n, .int .i64 s, .int .i64 k] w fun e w' => e = .returned (.tuple #[four 0 0 0 0, .int .i64 1]) ∧ Below w.heap.size w w' := by
  have C1 := rcountB (w.alloc (.cells #[.int .i64 0, .int .i64 0, .int .i64 0, .int .i64 0] 41)) h
  go_enter Try.func22, Try.ntmps22
  go_wp2_with fail
  refine C1.mono ?_
  clear C1
  rintro e w1 ⟨rfl, hb⟩
  have hn := new_blk _ _ _ hb
  have c0 := blk_cell hn.1 0 (.int .i64 0) rfl
  have c1 := blk_cell hn.1 1 (.int .i64 0) rfl
  have c2 := blk_cell hn.1 2 (.int .i64 0) rfl
  have c3 := blk_cell hn.1 3 (.int .i64 0) rfl
  have hs := hn.2
  have HB : Hid (Below w.heap.size w w1) := ((Below.refl _ _).alloc (Nat.le_refl _) _).trans (hb.mono (by simp))
  have HN := Lib.hid hn.1
  clear hb hn
  go_wp2_with fail
  refine bodyPost_ret (v := .tuple #[four 0 0 0 0, .int .i64 1]) (by simp [results, Try.results22, go_sem, c0, c1, c2, c3, four]) rfl ⟨rfl, ?_⟩
  exact (((HB.out.setCell (by simp) _).setCell (by simp) _).setCell (by simp) _).setCell (by simp) _

set_option maxHeartbeats 1000000 in
theorem linksN_1 {n s : Int} (k : Int) (w : World) (h : Fit n s) (h2 : k < 1) : Calls Try.prog 13 #[.int .i64 n, .int .i64 s, .int .i64 k] w fun e w' => e = .returned (.tuple #[four 0 0 0 0, .int .i64 10]) ∧ Below w.heap.size w w' := by
  have C1 := countF (w.alloc (.cells #[.int .i64 0, .int .i64 0, .int .i64 0, .int .i64 0] 41)) h
  go_enter Try.func13, Try.ntmps13
  go_wp2_with fail
  refine C1.mono ?_
  clear C1
  rintro e w1 ⟨rfl, hb⟩
  have hn := new_blk _ _ _ hb
  have c0 := blk_cell hn.1 0 (.int .i64 0) rfl
  have c1 := blk_cell hn.1 1 (.int .i64 0) rfl
  have c2 := blk_cell hn.1 2 (.int .i64 0) rfl
  have c3 := blk_cell hn.1 3 (.int .i64 0) rfl
  have hs := hn.2
  have HB : Hid (Below w.heap.size w w1) := ((Below.refl _ _).alloc (Nat.le_refl _) _).trans (hb.mono (by simp))
  have HN := Lib.hid hn.1
  clear hb hn
  go_wp2_with fail
  refine bodyPost_ret (v := .tuple #[four 0 0 0 0, .int .i64 10]) (by simp [results, Try.results13, go_sem, c0, c1, c2, c3, four]) rfl ⟨rfl, ?_⟩
  exact (((HB.out.setCell (by simp) _).setCell (by simp) _).setCell (by simp) _).setCell (by simp) _

set_option maxHeartbeats 1000000 in
theorem linksN_2 {n s : Int} (k : Int) (w : World) (h : Fit n s) (h3 : 1 ≤ k) (h2 : lastP n s < k) : Calls Try.prog 13 #[.int .i64 n, .int .i64 s, .int .i64 k] w fun e w' => e = .returned (.tuple #[four 0 0 0 0, .int .i64 10]) ∧ Below w.heap.size w w' := by
  have C1 := countF (w.alloc (.cells #[.int .i64 0, .int .i64 0, .int .i64 0, .int .i64 0] 41)) h
  have hl := lastP_bd h
  clear h
  generalize lastP n s = last at *
  go_enter Try.func13, Try.ntmps13
  go_wp2_with fail
  refine C1.mono ?_
  clear C1
  rintro e w1 ⟨rfl, hb⟩
  have hn := new_blk _ _ _ hb
  have c0 := blk_cell hn.1 0 (.int .i64 0) rfl
  have c1 := blk_cell hn.1 1 (.int .i64 0) rfl
  have c2 := blk_cell hn.1 2 (.int .i64 0) rfl
  have c3 := blk_cell hn.1 3 (.int .i64 0) rfl
  have hs := hn.2
  have HB : Hid (Below w.heap.size w w1) := ((Below.refl _ _).alloc (Nat.le_refl _) _).trans (hb.mono (by simp))
  have HN := Lib.hid hn.1
  clear hb hn
  go_wp2_with fail
  refine bodyPost_ret (v := .tuple #[four 0 0 0 0, .int .i64 10]) (by simp [results, Try.results13, go_sem, c0, c1, c2, c3, four]) rfl ⟨rfl, ?_⟩
  exact (((HB.out.setCell (by simp) _).setCell (by simp) _).setCell (by simp) _).setCell (by simp) _

set_option maxHeartbeats 1000000 in
theorem rlinksN_1 {n s : Int} (k : Int) (w : World) (h : Fit n s) (h2 : k < 1) : Calls Try.prog 22 #[.int .i64 n, .int .i64 s, .int .i64 k] w fun e w' => e = .returned (.tuple #[four 0 0 0 0, .int .i64 10]) ∧ Below w.heap.size w w' := by
  have C1 := rcountF (w.alloc (.cells #[.int .i64 0, .int .i64 0, .int .i64 0, .int .i64 0] 41)) h
  go_enter Try.func22, Try.ntmps22
  go_wp2_with fail
  refine C1.mono ?_
  clear C1
  rintro e w1 ⟨rfl, hb⟩
  have hn := new_blk _ _ _ hb
  have c0 := blk_cell hn.1 0 (.int .i64 0) rfl
  have c1 := blk_cell hn.1 1 (.int .i64 0) rfl
  have c2 := blk_cell hn.1 2 (.int .i64 0) rfl
  have c3 := blk_cell hn.1 3 (.int .i64 0) rfl
  have hs := hn.2
  have HB : Hid (Below w.heap.size w w1) := ((Below.refl _ _).alloc (Nat.le_refl _) _).trans (hb.mono (by simp))
  have HN := Lib.hid hn.1
  clear hb hn
  go_wp2_with fail
  refine bodyPost_ret (v := .tuple #[four 0 0 0 0, .int .i64 10]) (by simp [results, Try.results22, go_sem, c0, c1, c2, c3, four]) rfl ⟨rfl, ?_⟩
  exact (((HB.out.setCell (by simp) _).setCell (by simp) _).setCell (by simp) _).setCell (by simp) _

set_option maxHeartbeats 1000000 in
theorem rlinksN_2 {n s : Int} (k : Int) (w : World) (h : Fit n s) (h3 : 1 ≤ k) (h2 : lastP n s < k) : Calls Try.prog 22 #[.int .i64 n, .int .i64 s, .int .i64 k] w fun e w' => e = .returned (.tuple #[four 0 0 0 0, .int .i64 10]) ∧ Below w.heap.size w w' := by
  have C1 := rcountF (w.alloc (.cells #[.int .i64 0, .int .i64 0, .int .i64 0, .int .i64 0] 41)) h
  have hl := lastP_bd h
  clear h
  generalize lastP n s = last at *
  go_enter Try.func22, Try.ntmps22
  go_wp2_with fail
  refine C1.mono ?_
  clear C1
  rintro e w1 ⟨rfl, hb⟩
  have hn := new_blk _ _ _ hb
  have c0 := blk_cell hn.1 0 (.int .i64 0) rfl
  have c1 := blk_cell hn.1 1 (.int .i64 0) rfl
  have c2 := blk_cell hn.1 2 (.int .i64 0) rfl
  have c3 := blk_cell hn.1 3 (.int .i64 0) rfl
  have hs := hn.2
  have HB : Hid (Below w.heap.size w w1) := ((Below.refl _ _).alloc (Nat.le_refl _) _).trans (hb.mono (by simp))
  have HN := Lib.hid hn.1
  clear hb hn
  go_wp2_with fail
  refine bodyPost_ret (v := .tuple #[four 0 0 0 0, .int .i64 10]) (by simp [results, Try.results22, go_sem, c0, c1, c2, c3, four]) rfl ⟨rfl, ?_⟩
  exact (((HB.out.setCell (by simp) _).setCell (by simp) _).setCell (by simp) _).setCell (by simp) _

set_option maxHeartbeats 1000000 in
theorem linksO_1 {n s : Int} (k : Int) (w : World) (h : Fit n s) (h2 : 1 ≤ k) (h3 : k < lastP n s) : Calls Try.prog 13 #[.int .i64 n, .int .i64 s, .int .i64 k] w fun e w' => e = .returned (.tuple #[four 1 (k - 1) (nextP n s k) (lastP n s), .int .i64 0]) ∧ Below w.heap.size w w' := by
  have C1 := countF (w.alloc (.cells #[.int .i64 0, .int .i64 0, .int .i64 0, .int .i64 0] 41)) h
  have hl := lastP_bd h
  have hN : nextP n s k = k + 1 := by unfold nextP; rw [if_neg (by omega)]
  rw [hN]
  clear h hN
  generalize lastP n s = last at *
  have hz : ¬ wrap64 (last + 1) = 0 := by unfold wrap64; omega
  have hm : (k + 1) % wrap64 (last + 1) = k + 1 := by
    by_cases hx : last + 1 ≤ 9223372036854775807
    · rw [wrap_id (by omega) hx]; exact Int.emod_eq_of_lt (by omega) (by omega)
    · have : wrap64 (last + 1) = -9223372036854775808 := by unfold wrap64; omega
      rw [this, Int.emod_neg]; exact Int.emod_eq_of_lt (by omega) (by omega)
  have HM := Lib.hid hm
  clear hm
  go_enter Try.func13, Try.ntmps13
  go_wp2_with fail
  refine C1.mono ?_
  clear C1
  rintro e w1 ⟨rfl, hb⟩
  have hn := new_blk _ _ _ hb
  have c0 := blk_cell hn.1 0 (.int .i64 0) rfl
  have c1 := blk_cell hn.1 1 (.int .i64 0) rfl
  have c2 := blk_cell hn.1 2 (.int .i64 0) rfl
  have c3 := blk_cell hn.1 3 (.int .i64 0) rfl
  have hs := hn.2
  have HB : Hid (Below w.heap.size w w1) := ((Below.refl _ _).alloc (Nat.le_refl _) _).trans (hb.mono (by simp))
  have HN := Lib.hid hn.1
  clear hb hn
  go_wp2_with fail
  have hm := HM.out
  refine bodyPost_ret (v := .tuple #[four 1 (k - 1) (k + 1) last, .int .i64 0]) (by simp [results, Try.results13, go_sem, c0, c1, c2, c3, four, hm]) rfl ⟨rfl, ?_⟩
  exact (((HB.out.setCell (by simp) _).setCell (by simp) _).setCell (by simp) _).setCell (by simp) _

set_option maxHeartbeats 1000000 in
theorem linksO_2 {n s : Int} (k : Int) (w : World) (h : Fit n s) (h2 : 1 ≤ k) (h3 : k = lastP n s) : Calls Try.prog 13 #[.int .i64 n, .int .i64 s, .int .i64 k] w fun e w' => e = .returned (.tuple #[four 1 (k - 1) (nextP n s k) (lastP n s), .int .i64 0]) ∧ Below w.heap.size w w' := by
  have C1 := countF (w.alloc (.cells #[.int .i64 0, .int .i64 0, .int .i64 0, .int .i64 0] 41)) h
  have hl := lastP_bd h
  have hN : nextP n s k = 0 := by unfold nextP; rw [if_pos h3]
  rw [hN]
  clear h hN
  generalize lastP n s = last at *
  subst h3
  have hz : ¬ wrap64 (k + 1) = 0 := by unfold wrap64; omega
  go_enter Try.func13, Try.ntmps13
  go_wp2_with fail
  refine C1.mono ?_
  clear C1
  rintro e w1 ⟨rfl, hb⟩
  have hn := new_blk _ _ _ hb
  have c0 := blk_cell hn.1 0 (.int .i64 0) rfl
  have c1 := blk_cell hn.1 1 (.int .i64 0) rfl
  have c2 := blk_cell hn.1 2 (.int .i64 0) rfl
  have c3 := blk_cell hn.1 3 (.int .i64 0) rfl
  have hs := hn.2
  have HB : Hid (Below w.heap.size w w1) := ((Below.refl _ _).alloc (Nat.le_refl _) _).trans (hb.mono (by simp))
  have HN := Lib.hid hn.1
  clear hb hn
  go_wp2_with fail
  refine bodyPost_ret (v := .tuple #[four 1 (k - 1) 0 k, .int .i64 0]) (by simp [results, Try.results13, go_sem, c0, c1, c2, c3, four]) rfl ⟨rfl, ?_⟩
  exact (((HB.out.setCell (by simp) _).setCell (by simp) _).setCell (by simp) _).setCell (by simp) _

set_option maxHeartbeats 1000000 in
theorem rlinksO_1 {n s : Int} (k : Int) (w : World) (h : Fit n s) (h2 : 1 ≤ k) (h3 : k < lastP n s) : Calls Try.prog 22 #[.int .i64 n, .int .i64 s, .int .i64 k] w fun e w' => e = .returned (.tuple #[four 1 (k - 1) (nextP n s k) (lastP n s), .int .i64 0]) ∧ Below w.heap.size w w' := by
  have C1 := rcountF (w.alloc (.cells #[.int .i64 0, .int .i64 0, .int .i64 0, .int .i64 0] 41)) h
  have hl := lastP_bd h
  have hN : nextP n s k = k + 1 := by unfold nextP; rw [if_neg (by omega)]
  rw [hN]
  clear h hN
  generalize lastP n s = last at *
  go_enter Try.func22, Try.ntmps22
  go_wp2_with fail
  refine C1.mono ?_
  clear C1
  rintro e w1 ⟨rfl, hb⟩
  have hn := new_blk _ _ _ hb
  have c0 := blk_cell hn.1 0 (.int .i64 0) rfl
  have c1 := blk_cell hn.1 1 (.int .i64 0) rfl
  have c2 := blk_cell hn.1 2 (.int .i64 0) rfl
  have c3 := blk_cell hn.1 3 (.int .i64 0) rfl
  have hs := hn.2
  have HB : Hid (Below w.heap.size w w1) := ((Below.refl _ _).alloc (Nat.le_refl _) _).trans (hb.mono (by simp))
  have HN := Lib.hid hn.1
  clear hb hn
  go_wp2_with fail
  refine bodyPost_ret (v := .tuple #[four 1 (k - 1) (k + 1) last, .int .i64 0]) (by simp [results, Try.results22, go_sem, c0, c1, c2, c3, four, hs]) rfl ⟨rfl, ?_⟩
  exact ((((HB.out.setCell (by simp) _).setCell (by simp) _).setCell (by simp) _).setCell (by simp) _).alloc (by simp; omega) _

set_option maxHeartbeats 1000000 in
theorem rlinksO_2 {n s : Int} (k : Int) (w : World) (h : Fit n s) (h2 : 1 ≤ k) (h3 : k = lastP n s) : Calls Try.prog 22 #[.int .i64 n, .int .i64 s, .int .i64 k] w fun e w' => e = .returned (.tuple #[four 1 (k - 1) (nextP n s k) (lastP n s), .int .i64 0]) ∧ Below w.heap.size w w' := by
  have C1 := rcountF (w.alloc (.cells #[.int .i64 0, .int .i64 0, .int .i64 0, .int .i64 0] 41)) h
  have hl := lastP_bd h
  have hN : nextP n s k = 0 := by unfold nextP; rw [if_pos h3]
  rw [hN]
  clear h hN
  generalize lastP n s = last at *
  subst h3
  go_enter Try.func22, Try.ntmps22
  go_wp2_with fail
  refine C1.mono ?_
  clear C1
  rintro e w1 ⟨rfl, hb⟩
  have hn := new_blk _ _ _ hb
  have c0 := blk_cell hn.1 0 (.int .i64 0) rfl
  have c1 := blk_cell hn.1 1 (.int .i64 0) rfl
  have c2 := blk_cell hn.1 2 (.int .i64 0) rfl
  have c3 := blk_cell hn.1 3 (.int .i64 0) rfl
  have hs := hn.2
  have HB : Hid (Below w.heap.size w w1) := ((Below.refl _ _).alloc (Nat.le_refl _) _).trans (hb.mono (by simp))
  have HN := Lib.hid hn.1
  clear hb hn
  go_wp2_with fail
  refine bodyPost_ret (v := .tuple #[four 1 (k - 1) 0 k, .int .i64 0]) (by simp [results, Try.results22, go_sem, c0, c1, c2, c3, four, hs]) rfl ⟨rfl, ?_⟩
  exact ((((HB.out.setCell (by simp) _).setCell (by simp) _).setCell (by simp) _).setCell (by simp) _).alloc (by simp; omega) _

end Go.Proofs.Ytjbfjgaghjggpaa.Lnk
