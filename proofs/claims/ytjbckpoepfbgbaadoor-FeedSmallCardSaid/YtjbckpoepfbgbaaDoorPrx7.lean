-- Written by given.py, a program of this session, over the kit's printer.
import Derived.Test.YtjbckpoepfbgbaaDoorBd2
import Derived.Test.YtjbckpoepfbgbaaDoorPrx5
import Derived.Test.YtjbckpoepfbgbaaDoorBd3
namespace Go.Proofs.YtjbckpoepfbgbaaDoor.Pr
open Go.RowKit Go.Proofs.YtjbckpoepfbgbaaDoorW.PrintWords Go.Proofs.YtjbckpoepfbgbaaDoorW.PrintLast Go.Proofs.YtjbckpoepfbgbaaDoorW.PrintMore
attribute [local go_sem] max2_int min2_int max_two min_two max_three min_three max_four min_four
set_option linter.unusedVariables false
set_option linter.unusedSimpArgs false
mutual
def broadsheetref11_Print.j0 : Nat → Bool → Int → Int → Option (ByteArray × Int)
  | 0, _, _, _ => none
  | k + 1, x28, x327000, x327001 => if x28 = true then (some ((⟨#[]⟩ : ByteArray), 110)) else (broadsheetref11_Print.l0 k (wrap64 ((wrap64 (Int.tdiv (wrap64 (x327000 + 62167219200)) 86400)) - 719528)) 0 x327000 x327001)
def broadsheetref11_Print.l0 : Nat → Int → Int → Int → Int → Option (ByteArray × Int)
  | 0, _, _, _, _ => none
  | k + 1, x4, x5, x327000, x327001 => (broadsheetref11_since.f k (wrap64 (x5 + 400)) 1 1).bind fun t327 => (if t327 ≤ x4 then (broadsheetref11_Print.l0 k x4 (wrap64 (x5 + 400)) x327000 x327001) else (broadsheetref11_Print.l1 k x4 x5 x327000 x327001))
def broadsheetref11_Print.l1 : Nat → Int → Int → Int → Int → Option (ByteArray × Int)
  | 0, _, _, _, _ => none
  | k + 1, x4, x5, x327000, x327001 => (broadsheetref11_since.f k (wrap64 (x5 + 1)) 1 1).bind fun t328 => (if t328 ≤ x4 then (broadsheetref11_Print.l1 k x4 (wrap64 (x5 + 1)) x327000 x327001) else (broadsheetref11_Print.l2 k x4 x5 1 x327000 x327001))
def broadsheetref11_Print.j4 : Nat → Int → Int → Int → Int → Int → Option (ByteArray × Int)
  | 0, _, _, _, _, _ => none
  | k + 1, x4, x5, x6, x327000, x327001 => (broadsheetref11_since.f k x5 x6 1).bind fun t330 => ((broadsheetref11_pad.f k x5 4).bind fun t331 => (if t331.size + 1 ≤ 9223372036854775807 then ((broadsheetref11_pad.f k x6 2).bind fun t332 => (if (t331 ++ (⟨#[45]⟩ : ByteArray)).size + t332.size ≤ 9223372036854775807 then (if ((t331 ++ (⟨#[45]⟩ : ByteArray)) ++ t332).size + 1 ≤ 9223372036854775807 then ((broadsheetref11_pad.f k (wrap64 ((wrap64 (x4 - t330)) + 1)) 2).bind fun t333 => (if (((t331 ++ (⟨#[45]⟩ : ByteArray)) ++ t332) ++ (⟨#[45]⟩ : ByteArray)).size + t333.size ≤ 9223372036854775807 then (if ((((t331 ++ (⟨#[45]⟩ : ByteArray)) ++ t332) ++ (⟨#[45]⟩ : ByteArray)) ++ t333).size + 1 ≤ 9223372036854775807 then ((broadsheetref11_pad.f k (wrap64 (Int.tdiv (Int.tmod (wrap64 (x327000 + 62167219200)) 86400) 3600)) 2).bind fun t334 => (if (((((t331 ++ (⟨#[45]⟩ : ByteArray)) ++ t332) ++ (⟨#[45]⟩ : ByteArray)) ++ t333) ++ (⟨#[84]⟩ : ByteArray)).size + t334.size ≤ 9223372036854775807 then (if ((((((t331 ++ (⟨#[45]⟩ : ByteArray)) ++ t332) ++ (⟨#[45]⟩ : ByteArray)) ++ t333) ++ (⟨#[84]⟩ : ByteArray)) ++ t334).size + 1 ≤ 9223372036854775807 then ((broadsheetref11_pad.f k (Int.tmod (wrap64 (Int.tdiv (Int.tmod (wrap64 (x327000 + 62167219200)) 86400) 60)) 60) 2).bind fun t335 => (if (((((((t331 ++ (⟨#[45]⟩ : ByteArray)) ++ t332) ++ (⟨#[45]⟩ : ByteArray)) ++ t333) ++ (⟨#[84]⟩ : ByteArray)) ++ t334) ++ (⟨#[58]⟩ : ByteArray)).size + t335.size ≤ 9223372036854775807 then (if ((((((((t331 ++ (⟨#[45]⟩ : ByteArray)) ++ t332) ++ (⟨#[45]⟩ : ByteArray)) ++ t333) ++ (⟨#[84]⟩ : ByteArray)) ++ t334) ++ (⟨#[58]⟩ : ByteArray)) ++ t335).size + 1 ≤ 9223372036854775807 then ((broadsheetref11_pad.f k (Int.tmod (Int.tmod (wrap64 (x327000 + 62167219200)) 86400) 60) 2).bind fun t336 => (if (((((((((t331 ++ (⟨#[45]⟩ : ByteArray)) ++ t332) ++ (⟨#[45]⟩ : ByteArray)) ++ t333) ++ (⟨#[84]⟩ : ByteArray)) ++ t334) ++ (⟨#[58]⟩ : ByteArray)) ++ t335) ++ (⟨#[58]⟩ : ByteArray)).size + t336.size ≤ 9223372036854775807 then (if x327001 > 0 then ((broadsheetref11_pad.f k x327001 9).bind fun t337 => (broadsheetref11_Print.l3 k ((((((((((t331 ++ (⟨#[45]⟩ : ByteArray)) ++ t332) ++ (⟨#[45]⟩ : ByteArray)) ++ t333) ++ (⟨#[84]⟩ : ByteArray)) ++ t334) ++ (⟨#[58]⟩ : ByteArray)) ++ t335) ++ (⟨#[58]⟩ : ByteArray)) ++ t336) t337)) else (if ((((((((((t331 ++ (⟨#[45]⟩ : ByteArray)) ++ t332) ++ (⟨#[45]⟩ : ByteArray)) ++ t333) ++ (⟨#[84]⟩ : ByteArray)) ++ t334) ++ (⟨#[58]⟩ : ByteArray)) ++ t335) ++ (⟨#[58]⟩ : ByteArray)) ++ t336).size + 1 ≤ 9223372036854775807 then (some (((((((((((t331 ++ (⟨#[45]⟩ : ByteArray)) ++ t332) ++ (⟨#[45]⟩ : ByteArray)) ++ t333) ++ (⟨#[84]⟩ : ByteArray)) ++ t334) ++ (⟨#[58]⟩ : ByteArray)) ++ t335) ++ (⟨#[58]⟩ : ByteArray)) ++ t336) ++ (⟨#[90]⟩ : ByteArray), 0)) else (none))) else (none))) else (none)) else (none))) else (none)) else (none))) else (none)) else (none))) else (none)) else (none))) else (none)))
def broadsheetref11_Print.l3 : Nat → ByteArray → ByteArray → Option (ByteArray × Int)
  | 0, _, _ => none
  | k + 1, x9, x10 => if 0 ≤ (wrap64 ((x10.size : Int) - 1)) then (if (wrap64 ((x10.size : Int) - 1)) < (x10.size : Int) then (if (bt x10 (wrap64 ((x10.size : Int) - 1))) = 48 then (if (wrap64 ((x10.size : Int) - 1)) ≤ (x10.size : Int) then (broadsheetref11_Print.l3 k x9 (x10.extract 0 ((wrap64 ((x10.size : Int) - 1)) : Int).toNat)) else (none)) else (if x9.size + 1 ≤ 9223372036854775807 then (if (x9 ++ (⟨#[46]⟩ : ByteArray)).size + x10.size ≤ 9223372036854775807 then (if ((x9 ++ (⟨#[46]⟩ : ByteArray)) ++ x10).size + 1 ≤ 9223372036854775807 then (some (((x9 ++ (⟨#[46]⟩ : ByteArray)) ++ x10) ++ (⟨#[90]⟩ : ByteArray), 0)) else (none)) else (none)) else (none))) else (none)) else (none)
def broadsheetref11_Print.l2 : Nat → Int → Int → Int → Int → Int → Option (ByteArray × Int)
  | 0, _, _, _, _, _ => none
  | k + 1, x4, x5, x6, x327000, x327001 => if x6 < 12 then ((broadsheetref11_since.f k x5 (wrap64 (x6 + 1)) 1).bind fun t329 => (if t329 ≤ x4 then (broadsheetref11_Print.l2 k x4 x5 (wrap64 (x6 + 1)) x327000 x327001) else (broadsheetref11_Print.j4 k x4 x5 x6 x327000 x327001))) else (broadsheetref11_Print.j4 k x4 x5 x6 x327000 x327001)
end
def broadsheetref11_Print.f (k : Nat) (a0_0 : Int) (a0_1 : Int) : Option (ByteArray × Int) := if a0_0 < (-62167219200) then (broadsheetref11_Print.j0 k true a0_0 a0_1) else (if a0_0 > 253402300799 then (broadsheetref11_Print.j0 k true a0_0 a0_1) else (if a0_1 < 0 then (broadsheetref11_Print.j0 k true a0_0 a0_1) else (broadsheetref11_Print.j0 k (decide (a0_1 > 999999999)) a0_0 a0_1)))
set_option maxHeartbeats 8000000 in
set_option maxRecDepth 100000 in
theorem broadsheetref11_Print.calls (k : Nat) (a0_0 : Int) (a0_1 : Int) (r1 : ByteArray) (r2 : Int) (w : World) (h : broadsheetref11_Print.f k a0_0 a0_1 = some (r1, r2)) :
    Calls Tryd.prog 28 #[.agg #[.int .i64 a0_0, .int .i64 a0_1]] w fun e w' => e = .returned (.tuple #[.string r1, .int .i64 r2]) ∧ Below w.heap.size w w' := by
  have hu50 := Tryd.underlying50
  have HB := Aside0.mk (Below.refl w.heap.size w)
  have H : (if a0_0 < (-62167219200) then (broadsheetref11_Print.j0 k true a0_0 a0_1) else (if a0_0 > 253402300799 then (broadsheetref11_Print.j0 k true a0_0 a0_1) else (if a0_1 < 0 then (broadsheetref11_Print.j0 k true a0_0 a0_1) else (broadsheetref11_Print.j0 k (decide (a0_1 > 999999999)) a0_0 a0_1)))) = some (r1, r2) := h
  clear h
  have HC2 := Aside0.mk H
  clear H
  go_enter Tryd.func28, Tryd.ntmps28
  go_upto_region 1 with (first | ((with_reducible refine gate_dst (N := 1) rfl ?_); refine box_event ?hg (N := 1) ?hd (cs := #[.int .i64 a0_0, .int .i64 a0_1]) (t := 50) ?hr ?_; (case hd => rfl); (case hg => rfl); (case hr => first | (go_simp; done) | (go_simp; rfl)); intro gb326 hg w3 hbox hb; have n0_ := Aside0.mk (below_step (by repeat (first | (with_reducible first | exact HB.out | apply below_alloc | apply pw_below_drewN | apply below_drew1) | exact HB.out)) hb); have n1_ := Aside0.mk (hbox); have n2_ := Aside0.mk ((by rw [hg]; exact (below_size (by repeat (first | (with_reducible first | exact HB.out | apply below_alloc | apply pw_below_drewN | apply below_drew1) | exact HB.out))) : w.heap.size ≤ gb326)); have n3_ := Aside0.mk ((by rw [hg]; exact (below_size (by repeat (first | (with_reducible first | exact HB.out | apply below_alloc | apply pw_below_drewN | apply below_drew1) | exact HB.out))) : w.heap.size ≤ gb326)); clear HB; have HB := n0_; have BK326 := n1_; have GW326 := n2_; have GE326 := n3_; clear n0_ n1_ n2_ n3_; clear hb hbox hg))
  (try simp only [Act.put, List.setIfInBounds_toArray, List.set_cons_zero, List.set_cons_succ])
  go_cut [28] (fun v28 wc => ∃ (kq : Nat) (x28_1 : Bool), v28 = .bool x28_1 ∧ Aside0 (broadsheetref11_Print.j0 kq x28_1 a0_0 a0_1 = some (r1, r2)) ∧ Aside0 (kq ≤ k) ∧ Aside0 (wc.heap[gb326]? = some (.cells #[.int .i64 a0_0, .int .i64 a0_1] 50 (0, 0))) ∧ Aside0 (Below w.heap.size w wc))
  case first =>
    have H := HC2.out
    clear HC2
    by_cases c4 : a0_0 < (-62167219200)
    · rw [if_pos c4] at H
      have c4b0 : decide (a0_0 < (-62167219200)) = true := decide_eq_true c4
      clear c4
      (first | rw [c4b0] | (simp only [i64_w, i32_w]; rw [c4b0]) | skip)
      have H' := Aside0.mk H
      clear H
      have hcz5_0 : w3.cell? ⟨gb326, 0, none⟩ = some (.int .i64 a0_0) := (blk_cell BK326.out 0).trans rfl
      have hcz5_1 : w3.cell? ⟨gb326, 1, none⟩ = some (.int .i64 a0_1) := (blk_cell BK326.out 1).trans rfl
      have hfz5_0 := blk_frozen BK326.out 0
      have hfz5_1 := blk_frozen BK326.out 1
      go_wp2
      go_meet
      case rel => exact ⟨_, (true), (by first | rfl | (simp; done) | (simp [*]; done)), H', ⟨by first | omega | exact Nat.le_refl _⟩, ⟨by (with_reducible repeat (first | refine blk_drewN ?_ _ | refine blk_drew ?_ | refine blk_alloc ?_ _)); exact BK326.out⟩, ⟨by repeat (first | (with_reducible first | exact HB.out | apply below_alloc | apply pw_below_drewN | apply below_drew1 | refine below_set ?_ GE326.out) | exact HB.out)⟩⟩
    · rw [if_neg c4] at H
      have c4b0 : decide (a0_0 < (-62167219200)) = false := decide_eq_false c4
      clear c4
      (first | rw [c4b0] | (simp only [i64_w, i32_w]; rw [c4b0]) | skip)
      by_cases c6 : a0_0 > 253402300799
      · rw [if_pos c6] at H
        have c6b0 : decide (253402300799 < a0_0) = true := decide_eq_true c6
        clear c6
        have H' := Aside0.mk H
        clear H
        have hcz7_0 : w3.cell? ⟨gb326, 0, none⟩ = some (.int .i64 a0_0) := (blk_cell BK326.out 0).trans rfl
        have hcz7_1 : w3.cell? ⟨gb326, 1, none⟩ = some (.int .i64 a0_1) := (blk_cell BK326.out 1).trans rfl
        have hfz7_0 := blk_frozen BK326.out 0
        have hfz7_1 := blk_frozen BK326.out 1
        go_wp2
        go_meet
        case rel => exact ⟨_, (true), (by first | rfl | (simp; done) | (simp [*]; done)), H', ⟨by first | omega | exact Nat.le_refl _⟩, ⟨by (with_reducible repeat (first | refine blk_drewN ?_ _ | refine blk_drew ?_ | refine blk_alloc ?_ _)); exact BK326.out⟩, ⟨by repeat (first | (with_reducible first | exact HB.out | apply below_alloc | apply pw_below_drewN | apply below_drew1 | refine below_set ?_ GE326.out) | exact HB.out)⟩⟩
      · rw [if_neg c6] at H
        have c6b0 : decide (253402300799 < a0_0) = false := decide_eq_false c6
        clear c6
        by_cases c8 : a0_1 < 0
        · rw [if_pos c8] at H
          have c8b0 : decide (a0_1 < 0) = true := decide_eq_true c8
          clear c8
          have H' := Aside0.mk H
          clear H
          have hcz9_0 : w3.cell? ⟨gb326, 0, none⟩ = some (.int .i64 a0_0) := (blk_cell BK326.out 0).trans rfl
          have hcz9_1 : w3.cell? ⟨gb326, 1, none⟩ = some (.int .i64 a0_1) := (blk_cell BK326.out 1).trans rfl
          have hfz9_0 := blk_frozen BK326.out 0
          have hfz9_1 := blk_frozen BK326.out 1
          go_wp2
          go_meet
          case rel => exact ⟨_, (true), (by first | rfl | (simp; done) | (simp [*]; done)), H', ⟨by first | omega | exact Nat.le_refl _⟩, ⟨by (with_reducible repeat (first | refine blk_drewN ?_ _ | refine blk_drew ?_ | refine blk_alloc ?_ _)); exact BK326.out⟩, ⟨by repeat (first | (with_reducible first | exact HB.out | apply below_alloc | apply pw_below_drewN | apply below_drew1 | refine below_set ?_ GE326.out) | exact HB.out)⟩⟩
        · rw [if_neg c8] at H
          have c8b0 : decide (a0_1 < 0) = false := decide_eq_false c8
          clear c8
          have H' := Aside0.mk H
          clear H
          have hcz10_0 : w3.cell? ⟨gb326, 0, none⟩ = some (.int .i64 a0_0) := (blk_cell BK326.out 0).trans rfl
          have hcz10_1 : w3.cell? ⟨gb326, 1, none⟩ = some (.int .i64 a0_1) := (blk_cell BK326.out 1).trans rfl
          have hfz10_0 := blk_frozen BK326.out 0
          have hfz10_1 := blk_frozen BK326.out 1
          go_wp2
          go_meet
          case rel => exact ⟨_, (decide (a0_1 > 999999999)), (by first | rfl | (simp; done) | (simp [*]; done)), H', ⟨by first | omega | exact Nat.le_refl _⟩, ⟨by (with_reducible repeat (first | refine blk_drewN ?_ _ | refine blk_drew ?_ | refine blk_alloc ?_ _)); exact BK326.out⟩, ⟨by repeat (first | (with_reducible first | exact HB.out | apply below_alloc | apply pw_below_drewN | apply below_drew1 | refine below_set ?_ GE326.out) | exact HB.out)⟩⟩
  case rest =>
    clear HC2
    try clear c2
    try clear p2
    try clear c4
    try clear c4b0
    try clear c6
    try clear c6b0
    try clear c8
    try clear c8b0
    try clear hcz10_0
    try clear hcz10_1
    try clear hcz5_0
    try clear hcz5_1
    try clear hcz7_0
    try clear hcz7_1
    try clear hcz9_0
    try clear hcz9_1
    try clear hfz10_0
    try clear hfz10_1
    try clear hfz5_0
    try clear hfz5_1
    try clear hfz7_0
    try clear hfz7_1
    try clear hfz9_0
    try clear hfz9_1
    obtain ⟨kq, x28_1, rfl, HA, HJ1, BK326, HB⟩ := hcut
    cases kq with
    | zero => exact absurd HA.out (by simp [broadsheetref11_Print.j0])
    | succ kj1 =>
      have H := HA.out
      clear HA
      simp only [broadsheetref11_Print.j0] at H
      by_cases c11 : x28_1 = true
      · subst c11
        have H1 : (some ((⟨#[]⟩ : ByteArray), 110)) = some (r1, r2) := by rw [if_pos rfl] at H; exact H
        clear H
        have H := H1
        clear H1
        simp only [Option.some.injEq, Prod.mk.injEq] at H
        obtain ⟨rfl, rfl⟩ := H
        go_wp2
        go_ret2
        exact ⟨by first | rfl | (simp [errW_none, errW_some] <;> rfl) | (simp [*, errW_none, errW_some] <;> rfl), by repeat (first | (with_reducible first | exact HB.out | apply below_alloc | apply pw_below_drewN | apply below_drew1 | refine below_set ?_ GE326.out) | exact HB.out)⟩
      · replace c11 := Bool.eq_false_iff.mpr c11
        subst c11
        have H1 : (broadsheetref11_Print.l0 kj1 (wrap64 ((wrap64 (Int.tdiv (wrap64 (a0_0 + 62167219200)) 86400)) - 719528)) 0 a0_0 a0_1) = some (r1, r2) := by rw [if_neg (show ¬ (false = true) by decide)] at H; exact H
        clear H
        have H := H1
        clear H1
        have H' := Aside0.mk H
        clear H
        have hcz12_0 : wc.cell? ⟨gb326, 0, none⟩ = some (.int .i64 a0_0) := (blk_cell BK326.out 0).trans rfl
        have hcz12_1 : wc.cell? ⟨gb326, 1, none⟩ = some (.int .i64 a0_1) := (blk_cell BK326.out 1).trans rfl
        have hfz12_0 := blk_frozen BK326.out 0
        have hfz12_1 := blk_frozen BK326.out 1
        go_wp2
        go_loopg [5] kj1 (fun kq v5 w' => ∃ (x5_2 : Int), v5 = .int .i64 x5_2 ∧ Aside0 (broadsheetref11_Print.l0 kq (wrap64 ((wrap64 (Int.tdiv (wrap64 (a0_0 + 62167219200)) 86400)) - 719528)) x5_2 a0_0 a0_1 = some (r1, r2)) ∧ Aside0 (kq ≤ kj1) ∧ Aside0 (w'.heap[gb326]? = some (.cells #[.int .i64 a0_0, .int .i64 a0_1] 50 (0, 0))) ∧ Aside0 (Below w.heap.size w w'))
        case atStart => exact ⟨(0), (by first | rfl | (simp; done) | (simp [*]; done)), H', ⟨Nat.le_refl _⟩, ⟨by (with_reducible repeat (first | refine blk_drewN ?_ _ | refine blk_drew ?_ | refine blk_alloc ?_ _)); exact BK326.out⟩, ⟨by repeat (first | (with_reducible first | exact HB.out | apply below_alloc | apply pw_below_drewN | apply below_drew1 | refine below_set ?_ GE326.out) | exact HB.out)⟩⟩
        case round =>
          clear H'
          try clear c1
          try clear c2
          try clear p2
          try clear c4
          try clear c4b0
          try clear c6
          try clear c6b0
          try clear p6
          try clear c8
          try clear c8b0
          try clear c11
          try clear hcz10_0
          try clear hcz10_1
          try clear hcz12_0
          try clear hcz12_1
          try clear hcz5_0
          try clear hcz5_1
          try clear hcz7_0
          try clear hcz7_1
          try clear hcz9_0
          try clear hcz9_1
          try clear hfz10_0
          try clear hfz10_1
          try clear hfz12_0
          try clear hfz12_1
          try clear hfz5_0
          try clear hfz5_1
          try clear hfz7_0
          try clear hfz7_1
          try clear hfz9_0
          try clear hfz9_1
          try clear p2
          obtain ⟨x5_2, rfl, HA, HK2, BK326, HB⟩ := hrel
          cases gk with
          | zero => exact absurd HA.out (by simp [broadsheetref11_Print.l0])
          | succ k2 =>
            have H := HA.out
            clear HA
            simp only [broadsheetref11_Print.l0] at H
            replace H := Option.bind_eq_some_iff.mp H
            obtain ⟨t327, A130, H⟩ := H
            replace H : (if t327 ≤ (wrap64 ((wrap64 (Int.tdiv (wrap64 (a0_0 + 62167219200)) 86400)) - 719528)) then (broadsheetref11_Print.l0 k2 (wrap64 ((wrap64 (Int.tdiv (wrap64 (a0_0 + 62167219200)) 86400)) - 719528)) (wrap64 (x5_2 + 400)) a0_0 a0_1) else (broadsheetref11_Print.l1 k2 (wrap64 ((wrap64 (Int.tdiv (wrap64 (a0_0 + 62167219200)) 86400)) - 719528)) x5_2 a0_0 a0_1)) = some (r1, r2) := H
            have A13 := Aside0.mk A130
            clear A130
            by_cases c14 : t327 ≤ (wrap64 ((wrap64 (Int.tdiv (wrap64 (a0_0 + 62167219200)) 86400)) - 719528))
            · rw [if_pos c14] at H
              have c14b0 : decide (t327 ≤ (wrap64 ((wrap64 (Int.tdiv (wrap64 (a0_0 + 62167219200)) 86400)) - 719528))) = true := decide_eq_true c14
              clear c14
              have H' := Aside0.mk H
              clear H
              go_wp2_with (first | ((with_reducible refine gate_callee (f := 42) rfl ?_); refine goesL_ (some 36) rfl rfl Tryd.func42 (by kernel_rfl) rfl #[.int .i64 (wrap64 (x5_2 + 400)), .int .i64 1, .int .i64 1] rfl (by (try simp only [List.map_toArray, List.map_cons, List.map_nil]); first | done | rfl | (simp only [List.length_drop, List.length_take]; rfl) | (simp only [Int.tmod_tmod_of_dvd _ (show (60 : Int) ∣ 86400 by decide)]; rfl)) ?_; (with_reducible refine (broadsheetref11_since.calls k2 (wrap64 (x5_2 + 400)) 1 1 t327 _ A13.out).mono ?_); rintro e w' ⟨rfl, ⟨nd, rfl⟩⟩; refine ⟨_, rfl, ?_⟩))
              go_roundg k2
              case measure => have := HJ1.out; have := HK2.out; omega
              case rel => exact ⟨(wrap64 (x5_2 + 400)), (by first | rfl | (simp; done) | (simp [*]; done)), H', ⟨by have := HJ1.out; have := HK2.out; omega⟩, ⟨by (with_reducible repeat (first | refine blk_drewN ?_ _ | refine blk_drew ?_ | refine blk_alloc ?_ _)); exact BK326.out⟩, ⟨by repeat (first | (with_reducible first | exact HB.out | apply below_alloc | apply pw_below_drewN | apply below_drew1 | refine below_set ?_ GE326.out) | exact HB.out)⟩⟩
            · rw [if_neg c14] at H
              have c14b0 : decide (t327 ≤ (wrap64 ((wrap64 (Int.tdiv (wrap64 (a0_0 + 62167219200)) 86400)) - 719528))) = false := decide_eq_false c14
              clear c14
              have H' := Aside0.mk H
              clear H
              go_wp2_with (first | ((with_reducible refine gate_callee (f := 42) rfl ?_); refine goesL_ (some 36) rfl rfl Tryd.func42 (by kernel_rfl) rfl #[.int .i64 (wrap64 (x5_2 + 400)), .int .i64 1, .int .i64 1] rfl (by (try simp only [List.map_toArray, List.map_cons, List.map_nil]); first | done | rfl | (simp only [List.length_drop, List.length_take]; rfl) | (simp only [Int.tmod_tmod_of_dvd _ (show (60 : Int) ∣ 86400 by decide)]; rfl)) ?_; (with_reducible refine (broadsheetref11_since.calls k2 (wrap64 (x5_2 + 400)) 1 1 t327 _ A13.out).mono ?_); rintro e w' ⟨rfl, ⟨nd, rfl⟩⟩; refine ⟨_, rfl, ?_⟩))
              go_loopg [5] k2 (fun kq v5 w' => ∃ (x5_3 : Int), v5 = .int .i64 x5_3 ∧ Aside0 (broadsheetref11_Print.l1 kq (wrap64 ((wrap64 (Int.tdiv (wrap64 (a0_0 + 62167219200)) 86400)) - 719528)) x5_3 a0_0 a0_1 = some (r1, r2)) ∧ Aside0 (kq ≤ k2) ∧ Aside0 (w'.heap[gb326]? = some (.cells #[.int .i64 a0_0, .int .i64 a0_1] 50 (0, 0))) ∧ Aside0 (Below w.heap.size w w'))
              case atStart => exact ⟨(x5_2), (by first | rfl | (simp; done) | (simp [*]; done)), H', ⟨Nat.le_refl _⟩, ⟨by (with_reducible repeat (first | refine blk_drewN ?_ _ | refine blk_drew ?_ | refine blk_alloc ?_ _)); exact BK326.out⟩, ⟨by repeat (first | (with_reducible first | exact HB.out | apply below_alloc | apply pw_below_drewN | apply below_drew1 | refine below_set ?_ GE326.out) | exact HB.out)⟩⟩
              case round =>
                clear H'
                try clear c1
                try clear c2
                try clear p2
                try clear c4
                try clear c4b0
                try clear c6
                try clear c6b0
                try clear p6
                try clear c8
                try clear c8b0
                try clear c11
                try clear c14
                try clear c14b0
                try clear hcz10_0
                try clear hcz10_1
                try clear hcz12_0
                try clear hcz12_1
                try clear hcz5_0
                try clear hcz5_1
                try clear hcz7_0
                try clear hcz7_1
                try clear hcz9_0
                try clear hcz9_1
                try clear hfz10_0
                try clear hfz10_1
                try clear hfz12_0
                try clear hfz12_1
                try clear hfz5_0
                try clear hfz5_1
                try clear hfz7_0
                try clear hfz7_1
                try clear hfz9_0
                try clear hfz9_1
                try clear p2
                try clear p6
                obtain ⟨x5_3, rfl, HA, HK3, BK326, HB⟩ := hrel
                cases gk with
                | zero => exact absurd HA.out (by simp [broadsheetref11_Print.l1])
                | succ k3 =>
                  have H := HA.out
                  clear HA
                  simp only [broadsheetref11_Print.l1] at H
                  replace H := Option.bind_eq_some_iff.mp H
                  obtain ⟨t328, A150, H⟩ := H
                  replace H : (if t328 ≤ (wrap64 ((wrap64 (Int.tdiv (wrap64 (a0_0 + 62167219200)) 86400)) - 719528)) then (broadsheetref11_Print.l1 k3 (wrap64 ((wrap64 (Int.tdiv (wrap64 (a0_0 + 62167219200)) 86400)) - 719528)) (wrap64 (x5_3 + 1)) a0_0 a0_1) else (broadsheetref11_Print.l2 k3 (wrap64 ((wrap64 (Int.tdiv (wrap64 (a0_0 + 62167219200)) 86400)) - 719528)) x5_3 1 a0_0 a0_1)) = some (r1, r2) := H
                  have A15 := Aside0.mk A150
                  clear A150
                  by_cases c16 : t328 ≤ (wrap64 ((wrap64 (Int.tdiv (wrap64 (a0_0 + 62167219200)) 86400)) - 719528))
                  · rw [if_pos c16] at H
                    have c16b0 : decide (t328 ≤ (wrap64 ((wrap64 (Int.tdiv (wrap64 (a0_0 + 62167219200)) 86400)) - 719528))) = true := decide_eq_true c16
                    clear c16
                    have H' := Aside0.mk H
                    clear H
                    go_wp2_with (first | ((with_reducible refine gate_callee (f := 42) rfl ?_); refine goesL_ (some 43) rfl rfl Tryd.func42 (by kernel_rfl) rfl #[.int .i64 (wrap64 (x5_3 + 1)), .int .i64 1, .int .i64 1] rfl (by (try simp only [List.map_toArray, List.map_cons, List.map_nil]); first | done | rfl | (simp only [List.length_drop, List.length_take]; rfl) | (simp only [Int.tmod_tmod_of_dvd _ (show (60 : Int) ∣ 86400 by decide)]; rfl)) ?_; (with_reducible refine (broadsheetref11_since.calls k3 (wrap64 (x5_3 + 1)) 1 1 t328 _ A15.out).mono ?_); rintro e w' ⟨rfl, ⟨nd, rfl⟩⟩; refine ⟨_, rfl, ?_⟩))
                    go_roundg k3
                    case measure => have := HJ1.out; have := HK2.out; have := HK3.out; omega
                    case rel => exact ⟨(wrap64 (x5_3 + 1)), (by first | rfl | (simp; done) | (simp [*]; done)), H', ⟨by have := HJ1.out; have := HK2.out; have := HK3.out; omega⟩, ⟨by (with_reducible repeat (first | refine blk_drewN ?_ _ | refine blk_drew ?_ | refine blk_alloc ?_ _)); exact BK326.out⟩, ⟨by repeat (first | (with_reducible first | exact HB.out | apply below_alloc | apply pw_below_drewN | apply below_drew1 | refine below_set ?_ GE326.out) | exact HB.out)⟩⟩
                  · rw [if_neg c16] at H
                    have c16b0 : decide (t328 ≤ (wrap64 ((wrap64 (Int.tdiv (wrap64 (a0_0 + 62167219200)) 86400)) - 719528))) = false := decide_eq_false c16
                    clear c16
                    have HC17 := Aside0.mk H
                    clear H
                    go_upto_block 4 with (first | ((with_reducible refine gate_callee (f := 42) rfl ?_); refine goesL_ (some 43) rfl rfl Tryd.func42 (by kernel_rfl) rfl #[.int .i64 (wrap64 (x5_3 + 1)), .int .i64 1, .int .i64 1] rfl (by (try simp only [List.map_toArray, List.map_cons, List.map_nil]); first | done | rfl | (simp only [List.length_drop, List.length_take]; rfl) | (simp only [Int.tmod_tmod_of_dvd _ (show (60 : Int) ∣ 86400 by decide)]; rfl)) ?_; (with_reducible refine (broadsheetref11_since.calls k3 (wrap64 (x5_3 + 1)) 1 1 t328 _ A15.out).mono ?_); rintro e w' ⟨rfl, ⟨nd, rfl⟩⟩; refine ⟨_, rfl, ?_⟩))
                    (try simp only [Act.put, List.setIfInBounds_toArray, List.set_cons_zero, List.set_cons_succ])
                    go_cut [6] (fun v6 wc => ∃ (kq : Nat) (x6_16 : Int), v6 = .int .i64 x6_16 ∧ Aside0 (broadsheetref11_Print.j4 kq (wrap64 ((wrap64 (Int.tdiv (wrap64 (a0_0 + 62167219200)) 86400)) - 719528)) x5_3 x6_16 a0_0 a0_1 = some (r1, r2)) ∧ Aside0 (kq ≤ k3) ∧ Aside0 (wc.heap[gb326]? = some (.cells #[.int .i64 a0_0, .int .i64 a0_1] 50 (0, 0))) ∧ Aside0 (Below w.heap.size w wc))
                    case first =>
                      have H := HC17.out
                      clear HC17
                      have H' := Aside0.mk H
                      clear H
                      go_wp2
                      go_loopg [6] k3 (fun kq v6 w' => ∃ (x6_4 : Int), v6 = .int .i64 x6_4 ∧ Aside0 (broadsheetref11_Print.l2 kq (wrap64 ((wrap64 (Int.tdiv (wrap64 (a0_0 + 62167219200)) 86400)) - 719528)) x5_3 x6_4 a0_0 a0_1 = some (r1, r2)) ∧ Aside0 (kq ≤ k3) ∧ Aside0 (w'.heap[gb326]? = some (.cells #[.int .i64 a0_0, .int .i64 a0_1] 50 (0, 0))) ∧ Aside0 (Below w.heap.size w w'))
                      case atStart => exact ⟨(1), (by first | rfl | (simp; done) | (simp [*]; done)), H', ⟨Nat.le_refl _⟩, ⟨by (with_reducible repeat (first | refine blk_drewN ?_ _ | refine blk_drew ?_ | refine blk_alloc ?_ _)); exact BK326.out⟩, ⟨by repeat (first | (with_reducible first | exact HB.out | apply below_alloc | apply pw_below_drewN | apply below_drew1 | refine below_set ?_ GE326.out) | exact HB.out)⟩⟩
                      case round =>
                        clear H'
                        try clear c1
                        try clear c2
                        try clear p2
                        try clear c4
                        try clear c4b0
                        try clear c6
                        try clear c6b0
                        try clear p6
                        try clear c8
                        try clear c8b0
                        try clear c11
                        try clear c14
                        try clear c14b0
                        try clear c16
                        try clear c16b0
                        try clear hcz10_0
                        try clear hcz10_1
                        try clear hcz12_0
                        try clear hcz12_1
                        try clear hcz5_0
                        try clear hcz5_1
                        try clear hcz7_0
                        try clear hcz7_1
                        try clear hcz9_0
                        try clear hcz9_1
                        try clear hfz10_0
                        try clear hfz10_1
                        try clear hfz12_0
                        try clear hfz12_1
                        try clear hfz5_0
                        try clear hfz5_1
                        try clear hfz7_0
                        try clear hfz7_1
                        try clear hfz9_0
                        try clear hfz9_1
                        try clear p2
                        try clear p6
                        obtain ⟨x6_4, rfl, HA, HK4, BK326, HB⟩ := hrel
                        cases gk with
                        | zero => exact absurd HA.out (by simp [broadsheetref11_Print.l2])
                        | succ k4 =>
                          have H := HA.out
                          clear HA
                          simp only [broadsheetref11_Print.l2] at H
                          by_cases c18 : x6_4 < 12
                          · rw [if_pos c18] at H
                            have c18b0 : decide (x6_4 < 12) = true := decide_eq_true c18
                            clear c18
                            (first | rw [c18b0] | (simp only [i64_w, i32_w]; rw [c18b0]) | skip)
                            replace H := Option.bind_eq_some_iff.mp H
                            obtain ⟨t329, A190, H⟩ := H
                            replace H : (if t329 ≤ (wrap64 ((wrap64 (Int.tdiv (wrap64 (a0_0 + 62167219200)) 86400)) - 719528)) then (broadsheetref11_Print.l2 k4 (wrap64 ((wrap64 (Int.tdiv (wrap64 (a0_0 + 62167219200)) 86400)) - 719528)) x5_3 (wrap64 (x6_4 + 1)) a0_0 a0_1) else (broadsheetref11_Print.j4 k4 (wrap64 ((wrap64 (Int.tdiv (wrap64 (a0_0 + 62167219200)) 86400)) - 719528)) x5_3 x6_4 a0_0 a0_1)) = some (r1, r2) := H
                            have A19 := Aside0.mk A190
                            clear A190
                            by_cases c20 : t329 ≤ (wrap64 ((wrap64 (Int.tdiv (wrap64 (a0_0 + 62167219200)) 86400)) - 719528))
                            · rw [if_pos c20] at H
                              have c20b0 : decide (t329 ≤ (wrap64 ((wrap64 (Int.tdiv (wrap64 (a0_0 + 62167219200)) 86400)) - 719528))) = true := decide_eq_true c20
                              clear c20
                              have H' := Aside0.mk H
                              clear H
                              go_wp2_with (first | (go_at_call 42; (with_reducible refine (broadsheetref11_since.calls k4 x5_3 (wrap64 (x6_4 + 1)) 1 t329 _ A19.out).mono ?_); rintro e w' ⟨rfl, ⟨nd, rfl⟩⟩))
                              go_roundg k4
                              case measure => have := HJ1.out; have := HK2.out; have := HK3.out; have := HK4.out; omega
                              case rel => exact ⟨(wrap64 (x6_4 + 1)), (by first | rfl | (simp; done) | (simp [*]; done)), H', ⟨by have := HJ1.out; have := HK2.out; have := HK3.out; have := HK4.out; omega⟩, ⟨by (with_reducible repeat (first | refine blk_drewN ?_ _ | refine blk_drew ?_ | refine blk_alloc ?_ _)); exact BK326.out⟩, ⟨by repeat (first | (with_reducible first | exact HB.out | apply below_alloc | apply pw_below_drewN | apply below_drew1 | refine below_set ?_ GE326.out) | exact HB.out)⟩⟩
                            · rw [if_neg c20] at H
                              have c20b0 : decide (t329 ≤ (wrap64 ((wrap64 (Int.tdiv (wrap64 (a0_0 + 62167219200)) 86400)) - 719528))) = false := decide_eq_false c20
                              clear c20
                              have H' := Aside0.mk H
                              clear H
                              go_wp2_with (first | (go_at_call 42; (with_reducible refine (broadsheetref11_since.calls k4 x5_3 (wrap64 (x6_4 + 1)) 1 t329 _ A19.out).mono ?_); rintro e w' ⟨rfl, ⟨nd, rfl⟩⟩))
                              go_meet
                              case rel => exact ⟨_, (x6_4), (by first | rfl | (simp; done) | (simp [*]; done)), H', ⟨by have := HJ1.out; have := HK2.out; have := HK3.out; have := HK4.out; first | omega | exact Nat.le_refl _⟩, ⟨by (with_reducible repeat (first | refine blk_drewN ?_ _ | refine blk_drew ?_ | refine blk_alloc ?_ _)); exact BK326.out⟩, ⟨by repeat (first | (with_reducible first | exact HB.out | apply below_alloc | apply pw_below_drewN | apply below_drew1 | refine below_set ?_ GE326.out) | exact HB.out)⟩⟩
                          · rw [if_neg c18] at H
                            have c18b0 : decide (x6_4 < 12) = false := decide_eq_false c18
                            clear c18
                            (first | rw [c18b0] | (simp only [i64_w, i32_w]; rw [c18b0]) | skip)
                            have H' := Aside0.mk H
                            clear H
                            go_wp2
                            go_meet
                            case rel => exact ⟨_, (x6_4), (by first | rfl | (simp; done) | (simp [*]; done)), H', ⟨by have := HJ1.out; have := HK2.out; have := HK3.out; have := HK4.out; first | omega | exact Nat.le_refl _⟩, ⟨by (with_reducible repeat (first | refine blk_drewN ?_ _ | refine blk_drew ?_ | refine blk_alloc ?_ _)); exact BK326.out⟩, ⟨by repeat (first | (with_reducible first | exact HB.out | apply below_alloc | apply pw_below_drewN | apply below_drew1 | refine below_set ?_ GE326.out) | exact HB.out)⟩⟩
                    case rest =>
                      clear HC17
                      try clear c1
                      try clear c2
                      try clear p2
                      try clear c4
                      try clear c4b0
                      try clear c6
                      try clear c6b0
                      try clear p6
                      try clear c8
                      try clear c8b0
                      try clear c11
                      try clear c14
                      try clear c14b0
                      try clear c16
                      try clear c16b0
                      try clear c18
                      try clear c18b0
                      try clear c20
                      try clear c20b0
                      try clear hcz10_0
                      try clear hcz10_1
                      try clear hcz12_0
                      try clear hcz12_1
                      try clear hcz5_0
                      try clear hcz5_1
                      try clear hcz7_0
                      try clear hcz7_1
                      try clear hcz9_0
                      try clear hcz9_1
                      try clear hfz10_0
                      try clear hfz10_1
                      try clear hfz12_0
                      try clear hfz12_1
                      try clear hfz5_0
                      try clear hfz5_1
                      try clear hfz7_0
                      try clear hfz7_1
                      try clear hfz9_0
                      try clear hfz9_1
                      try clear p2
                      try clear p6
                      obtain ⟨kq, x6_16, rfl, HA, HJ16, BK326, HB⟩ := hcut
                      cases kq with
                      | zero => exact absurd HA.out (by simp [broadsheetref11_Print.j4])
                      | succ kj16 =>
                        have H := HA.out
                        clear HA
                        simp only [broadsheetref11_Print.j4] at H
                        replace H := Option.bind_eq_some_iff.mp H
                        obtain ⟨t330, A210, H⟩ := H
                        replace H : ((broadsheetref11_pad.f kj16 x5_3 4).bind fun t331 => (if t331.size + 1 ≤ 9223372036854775807 then ((broadsheetref11_pad.f kj16 x6_16 2).bind fun t332 => (if (t331 ++ (⟨#[45]⟩ : ByteArray)).size + t332.size ≤ 9223372036854775807 then (if ((t331 ++ (⟨#[45]⟩ : ByteArray)) ++ t332).size + 1 ≤ 9223372036854775807 then ((broadsheetref11_pad.f kj16 (wrap64 ((wrap64 ((wrap64 ((wrap64 (Int.tdiv (wrap64 (a0_0 + 62167219200)) 86400)) - 719528)) - t330)) + 1)) 2).bind fun t333 => (if (((t331 ++ (⟨#[45]⟩ : ByteArray)) ++ t332) ++ (⟨#[45]⟩ : ByteArray)).size + t333.size ≤ 9223372036854775807 then (if ((((t331 ++ (⟨#[45]⟩ : ByteArray)) ++ t332) ++ (⟨#[45]⟩ : ByteArray)) ++ t333).size + 1 ≤ 9223372036854775807 then ((broadsheetref11_pad.f kj16 (wrap64 (Int.tdiv (Int.tmod (wrap64 (a0_0 + 62167219200)) 86400) 3600)) 2).bind fun t334 => (if (((((t331 ++ (⟨#[45]⟩ : ByteArray)) ++ t332) ++ (⟨#[45]⟩ : ByteArray)) ++ t333) ++ (⟨#[84]⟩ : ByteArray)).size + t334.size ≤ 9223372036854775807 then (if ((((((t331 ++ (⟨#[45]⟩ : ByteArray)) ++ t332) ++ (⟨#[45]⟩ : ByteArray)) ++ t333) ++ (⟨#[84]⟩ : ByteArray)) ++ t334).size + 1 ≤ 9223372036854775807 then ((broadsheetref11_pad.f kj16 (Int.tmod (wrap64 (Int.tdiv (Int.tmod (wrap64 (a0_0 + 62167219200)) 86400) 60)) 60) 2).bind fun t335 => (if (((((((t331 ++ (⟨#[45]⟩ : ByteArray)) ++ t332) ++ (⟨#[45]⟩ : ByteArray)) ++ t333) ++ (⟨#[84]⟩ : ByteArray)) ++ t334) ++ (⟨#[58]⟩ : ByteArray)).size + t335.size ≤ 9223372036854775807 then (if ((((((((t331 ++ (⟨#[45]⟩ : ByteArray)) ++ t332) ++ (⟨#[45]⟩ : ByteArray)) ++ t333) ++ (⟨#[84]⟩ : ByteArray)) ++ t334) ++ (⟨#[58]⟩ : ByteArray)) ++ t335).size + 1 ≤ 9223372036854775807 then ((broadsheetref11_pad.f kj16 (Int.tmod (Int.tmod (wrap64 (a0_0 + 62167219200)) 86400) 60) 2).bind fun t336 => (if (((((((((t331 ++ (⟨#[45]⟩ : ByteArray)) ++ t332) ++ (⟨#[45]⟩ : ByteArray)) ++ t333) ++ (⟨#[84]⟩ : ByteArray)) ++ t334) ++ (⟨#[58]⟩ : ByteArray)) ++ t335) ++ (⟨#[58]⟩ : ByteArray)).size + t336.size ≤ 9223372036854775807 then (if a0_1 > 0 then ((broadsheetref11_pad.f kj16 a0_1 9).bind fun t337 => (broadsheetref11_Print.l3 kj16 ((((((((((t331 ++ (⟨#[45]⟩ : ByteArray)) ++ t332) ++ (⟨#[45]⟩ : ByteArray)) ++ t333) ++ (⟨#[84]⟩ : ByteArray)) ++ t334) ++ (⟨#[58]⟩ : ByteArray)) ++ t335) ++ (⟨#[58]⟩ : ByteArray)) ++ t336) t337)) else (if ((((((((((t331 ++ (⟨#[45]⟩ : ByteArray)) ++ t332) ++ (⟨#[45]⟩ : ByteArray)) ++ t333) ++ (⟨#[84]⟩ : ByteArray)) ++ t334) ++ (⟨#[58]⟩ : ByteArray)) ++ t335) ++ (⟨#[58]⟩ : ByteArray)) ++ t336).size + 1 ≤ 9223372036854775807 then (some (((((((((((t331 ++ (⟨#[45]⟩ : ByteArray)) ++ t332) ++ (⟨#[45]⟩ : ByteArray)) ++ t333) ++ (⟨#[84]⟩ : ByteArray)) ++ t334) ++ (⟨#[58]⟩ : ByteArray)) ++ t335) ++ (⟨#[58]⟩ : ByteArray)) ++ t336) ++ (⟨#[90]⟩ : ByteArray), 0)) else (none))) else (none))) else (none)) else (none))) else (none)) else (none))) else (none)) else (none))) else (none)) else (none))) else (none))) = some (r1, r2) := H
                        have A21 := Aside0.mk A210
                        clear A210
                        replace H := Option.bind_eq_some_iff.mp H
                        obtain ⟨t331, A220, H⟩ := H
                        replace H : (if t331.size + 1 ≤ 9223372036854775807 then ((broadsheetref11_pad.f kj16 x6_16 2).bind fun t332 => (if (t331 ++ (⟨#[45]⟩ : ByteArray)).size + t332.size ≤ 9223372036854775807 then (if ((t331 ++ (⟨#[45]⟩ : ByteArray)) ++ t332).size + 1 ≤ 9223372036854775807 then ((broadsheetref11_pad.f kj16 (wrap64 ((wrap64 ((wrap64 ((wrap64 (Int.tdiv (wrap64 (a0_0 + 62167219200)) 86400)) - 719528)) - t330)) + 1)) 2).bind fun t333 => (if (((t331 ++ (⟨#[45]⟩ : ByteArray)) ++ t332) ++ (⟨#[45]⟩ : ByteArray)).size + t333.size ≤ 9223372036854775807 then (if ((((t331 ++ (⟨#[45]⟩ : ByteArray)) ++ t332) ++ (⟨#[45]⟩ : ByteArray)) ++ t333).size + 1 ≤ 9223372036854775807 then ((broadsheetref11_pad.f kj16 (wrap64 (Int.tdiv (Int.tmod (wrap64 (a0_0 + 62167219200)) 86400) 3600)) 2).bind fun t334 => (if (((((t331 ++ (⟨#[45]⟩ : ByteArray)) ++ t332) ++ (⟨#[45]⟩ : ByteArray)) ++ t333) ++ (⟨#[84]⟩ : ByteArray)).size + t334.size ≤ 9223372036854775807 then (if ((((((t331 ++ (⟨#[45]⟩ : ByteArray)) ++ t332) ++ (⟨#[45]⟩ : ByteArray)) ++ t333) ++ (⟨#[84]⟩ : ByteArray)) ++ t334).size + 1 ≤ 9223372036854775807 then ((broadsheetref11_pad.f kj16 (Int.tmod (wrap64 (Int.tdiv (Int.tmod (wrap64 (a0_0 + 62167219200)) 86400) 60)) 60) 2).bind fun t335 => (if (((((((t331 ++ (⟨#[45]⟩ : ByteArray)) ++ t332) ++ (⟨#[45]⟩ : ByteArray)) ++ t333) ++ (⟨#[84]⟩ : ByteArray)) ++ t334) ++ (⟨#[58]⟩ : ByteArray)).size + t335.size ≤ 9223372036854775807 then (if ((((((((t331 ++ (⟨#[45]⟩ : ByteArray)) ++ t332) ++ (⟨#[45]⟩ : ByteArray)) ++ t333) ++ (⟨#[84]⟩ : ByteArray)) ++ t334) ++ (⟨#[58]⟩ : ByteArray)) ++ t335).size + 1 ≤ 9223372036854775807 then ((broadsheetref11_pad.f kj16 (Int.tmod (Int.tmod (wrap64 (a0_0 + 62167219200)) 86400) 60) 2).bind fun t336 => (if (((((((((t331 ++ (⟨#[45]⟩ : ByteArray)) ++ t332) ++ (⟨#[45]⟩ : ByteArray)) ++ t333) ++ (⟨#[84]⟩ : ByteArray)) ++ t334) ++ (⟨#[58]⟩ : ByteArray)) ++ t335) ++ (⟨#[58]⟩ : ByteArray)).size + t336.size ≤ 9223372036854775807 then (if a0_1 > 0 then ((broadsheetref11_pad.f kj16 a0_1 9).bind fun t337 => (broadsheetref11_Print.l3 kj16 ((((((((((t331 ++ (⟨#[45]⟩ : ByteArray)) ++ t332) ++ (⟨#[45]⟩ : ByteArray)) ++ t333) ++ (⟨#[84]⟩ : ByteArray)) ++ t334) ++ (⟨#[58]⟩ : ByteArray)) ++ t335) ++ (⟨#[58]⟩ : ByteArray)) ++ t336) t337)) else (if ((((((((((t331 ++ (⟨#[45]⟩ : ByteArray)) ++ t332) ++ (⟨#[45]⟩ : ByteArray)) ++ t333) ++ (⟨#[84]⟩ : ByteArray)) ++ t334) ++ (⟨#[58]⟩ : ByteArray)) ++ t335) ++ (⟨#[58]⟩ : ByteArray)) ++ t336).size + 1 ≤ 9223372036854775807 then (some (((((((((((t331 ++ (⟨#[45]⟩ : ByteArray)) ++ t332) ++ (⟨#[45]⟩ : ByteArray)) ++ t333) ++ (⟨#[84]⟩ : ByteArray)) ++ t334) ++ (⟨#[58]⟩ : ByteArray)) ++ t335) ++ (⟨#[58]⟩ : ByteArray)) ++ t336) ++ (⟨#[90]⟩ : ByteArray), 0)) else (none))) else (none))) else (none)) else (none))) else (none)) else (none))) else (none)) else (none))) else (none)) else (none))) else (none)) = some (r1, r2) := H
                        have A22 := Aside0.mk A220
                        clear A220
                        by_cases c23 : t331.size + 1 ≤ 9223372036854775807
                        · rw [if_pos c23] at H
                          have c23b0 := eq_true c23
                          have c23b1 : decide (t331.size + 1 ≤ 9223372036854775807) = true := decide_eq_true c23
                          try have c23b2 : (9223372036854775807 < t331.size + 1) = False := eq_false (Nat.not_lt.2 c23)
                          replace H := Option.bind_eq_some_iff.mp H
                          obtain ⟨t332, A240, H⟩ := H
                          replace H : (if (t331 ++ (⟨#[45]⟩ : ByteArray)).size + t332.size ≤ 9223372036854775807 then (if ((t331 ++ (⟨#[45]⟩ : ByteArray)) ++ t332).size + 1 ≤ 9223372036854775807 then ((broadsheetref11_pad.f kj16 (wrap64 ((wrap64 ((wrap64 ((wrap64 (Int.tdiv (wrap64 (a0_0 + 62167219200)) 86400)) - 719528)) - t330)) + 1)) 2).bind fun t333 => (if (((t331 ++ (⟨#[45]⟩ : ByteArray)) ++ t332) ++ (⟨#[45]⟩ : ByteArray)).size + t333.size ≤ 9223372036854775807 then (if ((((t331 ++ (⟨#[45]⟩ : ByteArray)) ++ t332) ++ (⟨#[45]⟩ : ByteArray)) ++ t333).size + 1 ≤ 9223372036854775807 then ((broadsheetref11_pad.f kj16 (wrap64 (Int.tdiv (Int.tmod (wrap64 (a0_0 + 62167219200)) 86400) 3600)) 2).bind fun t334 => (if (((((t331 ++ (⟨#[45]⟩ : ByteArray)) ++ t332) ++ (⟨#[45]⟩ : ByteArray)) ++ t333) ++ (⟨#[84]⟩ : ByteArray)).size + t334.size ≤ 9223372036854775807 then (if ((((((t331 ++ (⟨#[45]⟩ : ByteArray)) ++ t332) ++ (⟨#[45]⟩ : ByteArray)) ++ t333) ++ (⟨#[84]⟩ : ByteArray)) ++ t334).size + 1 ≤ 9223372036854775807 then ((broadsheetref11_pad.f kj16 (Int.tmod (wrap64 (Int.tdiv (Int.tmod (wrap64 (a0_0 + 62167219200)) 86400) 60)) 60) 2).bind fun t335 => (if (((((((t331 ++ (⟨#[45]⟩ : ByteArray)) ++ t332) ++ (⟨#[45]⟩ : ByteArray)) ++ t333) ++ (⟨#[84]⟩ : ByteArray)) ++ t334) ++ (⟨#[58]⟩ : ByteArray)).size + t335.size ≤ 9223372036854775807 then (if ((((((((t331 ++ (⟨#[45]⟩ : ByteArray)) ++ t332) ++ (⟨#[45]⟩ : ByteArray)) ++ t333) ++ (⟨#[84]⟩ : ByteArray)) ++ t334) ++ (⟨#[58]⟩ : ByteArray)) ++ t335).size + 1 ≤ 9223372036854775807 then ((broadsheetref11_pad.f kj16 (Int.tmod (Int.tmod (wrap64 (a0_0 + 62167219200)) 86400) 60) 2).bind fun t336 => (if (((((((((t331 ++ (⟨#[45]⟩ : ByteArray)) ++ t332) ++ (⟨#[45]⟩ : ByteArray)) ++ t333) ++ (⟨#[84]⟩ : ByteArray)) ++ t334) ++ (⟨#[58]⟩ : ByteArray)) ++ t335) ++ (⟨#[58]⟩ : ByteArray)).size + t336.size ≤ 9223372036854775807 then (if a0_1 > 0 then ((broadsheetref11_pad.f kj16 a0_1 9).bind fun t337 => (broadsheetref11_Print.l3 kj16 ((((((((((t331 ++ (⟨#[45]⟩ : ByteArray)) ++ t332) ++ (⟨#[45]⟩ : ByteArray)) ++ t333) ++ (⟨#[84]⟩ : ByteArray)) ++ t334) ++ (⟨#[58]⟩ : ByteArray)) ++ t335) ++ (⟨#[58]⟩ : ByteArray)) ++ t336) t337)) else (if ((((((((((t331 ++ (⟨#[45]⟩ : ByteArray)) ++ t332) ++ (⟨#[45]⟩ : ByteArray)) ++ t333) ++ (⟨#[84]⟩ : ByteArray)) ++ t334) ++ (⟨#[58]⟩ : ByteArray)) ++ t335) ++ (⟨#[58]⟩ : ByteArray)) ++ t336).size + 1 ≤ 9223372036854775807 then (some (((((((((((t331 ++ (⟨#[45]⟩ : ByteArray)) ++ t332) ++ (⟨#[45]⟩ : ByteArray)) ++ t333) ++ (⟨#[84]⟩ : ByteArray)) ++ t334) ++ (⟨#[58]⟩ : ByteArray)) ++ t335) ++ (⟨#[58]⟩ : ByteArray)) ++ t336) ++ (⟨#[90]⟩ : ByteArray), 0)) else (none))) else (none))) else (none)) else (none))) else (none)) else (none))) else (none)) else (none))) else (none)) else (none)) = some (r1, r2) := H
                          have A24 := Aside0.mk A240
                          clear A240
                          by_cases c25 : (t331 ++ (⟨#[45]⟩ : ByteArray)).size + t332.size ≤ 9223372036854775807
                          · rw [if_pos c25] at H
                            have c25b0 := eq_true c25
                            have c25b1 : decide ((t331 ++ (⟨#[45]⟩ : ByteArray)).size + t332.size ≤ 9223372036854775807) = true := decide_eq_true c25
                            try have c25b2 : (9223372036854775807 < (t331 ++ (⟨#[45]⟩ : ByteArray)).size + t332.size) = False := eq_false (Nat.not_lt.2 c25)
                            try have c25b3 : (9223372036854775807 < t331.size + 1 + t332.size) = False := eq_false (by have h_ := c25; simp only [ByteArray.size_append] at h_; exact Nat.not_lt.2 h_)
                            by_cases c26 : ((t331 ++ (⟨#[45]⟩ : ByteArray)) ++ t332).size + 1 ≤ 9223372036854775807
                            · rw [if_pos c26] at H
                              have c26b0 := eq_true c26
                              have c26b1 : decide (((t331 ++ (⟨#[45]⟩ : ByteArray)) ++ t332).size + 1 ≤ 9223372036854775807) = true := decide_eq_true c26
                              try have c26b2 : (9223372036854775807 < ((t331 ++ (⟨#[45]⟩ : ByteArray)) ++ t332).size + 1) = False := eq_false (Nat.not_lt.2 c26)
                              try have c26b3 : (9223372036854775807 < t331.size + 1 + t332.size + 1) = False := eq_false (by have h_ := c26; simp only [ByteArray.size_append] at h_; exact Nat.not_lt.2 h_)
                              replace H := Option.bind_eq_some_iff.mp H
                              obtain ⟨t333, A270, H⟩ := H
                              replace H : (if (((t331 ++ (⟨#[45]⟩ : ByteArray)) ++ t332) ++ (⟨#[45]⟩ : ByteArray)).size + t333.size ≤ 9223372036854775807 then (if ((((t331 ++ (⟨#[45]⟩ : ByteArray)) ++ t332) ++ (⟨#[45]⟩ : ByteArray)) ++ t333).size + 1 ≤ 9223372036854775807 then ((broadsheetref11_pad.f kj16 (wrap64 (Int.tdiv (Int.tmod (wrap64 (a0_0 + 62167219200)) 86400) 3600)) 2).bind fun t334 => (if (((((t331 ++ (⟨#[45]⟩ : ByteArray)) ++ t332) ++ (⟨#[45]⟩ : ByteArray)) ++ t333) ++ (⟨#[84]⟩ : ByteArray)).size + t334.size ≤ 9223372036854775807 then (if ((((((t331 ++ (⟨#[45]⟩ : ByteArray)) ++ t332) ++ (⟨#[45]⟩ : ByteArray)) ++ t333) ++ (⟨#[84]⟩ : ByteArray)) ++ t334).size + 1 ≤ 9223372036854775807 then ((broadsheetref11_pad.f kj16 (Int.tmod (wrap64 (Int.tdiv (Int.tmod (wrap64 (a0_0 + 62167219200)) 86400) 60)) 60) 2).bind fun t335 => (if (((((((t331 ++ (⟨#[45]⟩ : ByteArray)) ++ t332) ++ (⟨#[45]⟩ : ByteArray)) ++ t333) ++ (⟨#[84]⟩ : ByteArray)) ++ t334) ++ (⟨#[58]⟩ : ByteArray)).size + t335.size ≤ 9223372036854775807 then (if ((((((((t331 ++ (⟨#[45]⟩ : ByteArray)) ++ t332) ++ (⟨#[45]⟩ : ByteArray)) ++ t333) ++ (⟨#[84]⟩ : ByteArray)) ++ t334) ++ (⟨#[58]⟩ : ByteArray)) ++ t335).size + 1 ≤ 9223372036854775807 then ((broadsheetref11_pad.f kj16 (Int.tmod (Int.tmod (wrap64 (a0_0 + 62167219200)) 86400) 60) 2).bind fun t336 => (if (((((((((t331 ++ (⟨#[45]⟩ : ByteArray)) ++ t332) ++ (⟨#[45]⟩ : ByteArray)) ++ t333) ++ (⟨#[84]⟩ : ByteArray)) ++ t334) ++ (⟨#[58]⟩ : ByteArray)) ++ t335) ++ (⟨#[58]⟩ : ByteArray)).size + t336.size ≤ 9223372036854775807 then (if a0_1 > 0 then ((broadsheetref11_pad.f kj16 a0_1 9).bind fun t337 => (broadsheetref11_Print.l3 kj16 ((((((((((t331 ++ (⟨#[45]⟩ : ByteArray)) ++ t332) ++ (⟨#[45]⟩ : ByteArray)) ++ t333) ++ (⟨#[84]⟩ : ByteArray)) ++ t334) ++ (⟨#[58]⟩ : ByteArray)) ++ t335) ++ (⟨#[58]⟩ : ByteArray)) ++ t336) t337)) else (if ((((((((((t331 ++ (⟨#[45]⟩ : ByteArray)) ++ t332) ++ (⟨#[45]⟩ : ByteArray)) ++ t333) ++ (⟨#[84]⟩ : ByteArray)) ++ t334) ++ (⟨#[58]⟩ : ByteArray)) ++ t335) ++ (⟨#[58]⟩ : ByteArray)) ++ t336).size + 1 ≤ 9223372036854775807 then (some (((((((((((t331 ++ (⟨#[45]⟩ : ByteArray)) ++ t332) ++ (⟨#[45]⟩ : ByteArray)) ++ t333) ++ (⟨#[84]⟩ : ByteArray)) ++ t334) ++ (⟨#[58]⟩ : ByteArray)) ++ t335) ++ (⟨#[58]⟩ : ByteArray)) ++ t336) ++ (⟨#[90]⟩ : ByteArray), 0)) else (none))) else (none))) else (none)) else (none))) else (none)) else (none))) else (none)) else (none)) = some (r1, r2) := H
                              have A27 := Aside0.mk A270
                              clear A270
                              by_cases c28 : (((t331 ++ (⟨#[45]⟩ : ByteArray)) ++ t332) ++ (⟨#[45]⟩ : ByteArray)).size + t333.size ≤ 9223372036854775807
                              · rw [if_pos c28] at H
                                have c28b0 := eq_true c28
                                have c28b1 : decide ((((t331 ++ (⟨#[45]⟩ : ByteArray)) ++ t332) ++ (⟨#[45]⟩ : ByteArray)).size + t333.size ≤ 9223372036854775807) = true := decide_eq_true c28
                                try have c28b2 : (9223372036854775807 < (((t331 ++ (⟨#[45]⟩ : ByteArray)) ++ t332) ++ (⟨#[45]⟩ : ByteArray)).size + t333.size) = False := eq_false (Nat.not_lt.2 c28)
                                try have c28b3 : (9223372036854775807 < t331.size + 1 + t332.size + 1 + t333.size) = False := eq_false (by have h_ := c28; simp only [ByteArray.size_append] at h_; exact Nat.not_lt.2 h_)
                                by_cases c29 : ((((t331 ++ (⟨#[45]⟩ : ByteArray)) ++ t332) ++ (⟨#[45]⟩ : ByteArray)) ++ t333).size + 1 ≤ 9223372036854775807
                                · rw [if_pos c29] at H
                                  have c29b0 := eq_true c29
                                  have c29b1 : decide (((((t331 ++ (⟨#[45]⟩ : ByteArray)) ++ t332) ++ (⟨#[45]⟩ : ByteArray)) ++ t333).size + 1 ≤ 9223372036854775807) = true := decide_eq_true c29
                                  try have c29b2 : (9223372036854775807 < ((((t331 ++ (⟨#[45]⟩ : ByteArray)) ++ t332) ++ (⟨#[45]⟩ : ByteArray)) ++ t333).size + 1) = False := eq_false (Nat.not_lt.2 c29)
                                  try have c29b3 : (9223372036854775807 < t331.size + 1 + t332.size + 1 + t333.size + 1) = False := eq_false (by have h_ := c29; simp only [ByteArray.size_append] at h_; exact Nat.not_lt.2 h_)
                                  replace H := Option.bind_eq_some_iff.mp H
                                  obtain ⟨t334, A300, H⟩ := H
                                  replace H : (if (((((t331 ++ (⟨#[45]⟩ : ByteArray)) ++ t332) ++ (⟨#[45]⟩ : ByteArray)) ++ t333) ++ (⟨#[84]⟩ : ByteArray)).size + t334.size ≤ 9223372036854775807 then (if ((((((t331 ++ (⟨#[45]⟩ : ByteArray)) ++ t332) ++ (⟨#[45]⟩ : ByteArray)) ++ t333) ++ (⟨#[84]⟩ : ByteArray)) ++ t334).size + 1 ≤ 9223372036854775807 then ((broadsheetref11_pad.f kj16 (Int.tmod (wrap64 (Int.tdiv (Int.tmod (wrap64 (a0_0 + 62167219200)) 86400) 60)) 60) 2).bind fun t335 => (if (((((((t331 ++ (⟨#[45]⟩ : ByteArray)) ++ t332) ++ (⟨#[45]⟩ : ByteArray)) ++ t333) ++ (⟨#[84]⟩ : ByteArray)) ++ t334) ++ (⟨#[58]⟩ : ByteArray)).size + t335.size ≤ 9223372036854775807 then (if ((((((((t331 ++ (⟨#[45]⟩ : ByteArray)) ++ t332) ++ (⟨#[45]⟩ : ByteArray)) ++ t333) ++ (⟨#[84]⟩ : ByteArray)) ++ t334) ++ (⟨#[58]⟩ : ByteArray)) ++ t335).size + 1 ≤ 9223372036854775807 then ((broadsheetref11_pad.f kj16 (Int.tmod (Int.tmod (wrap64 (a0_0 + 62167219200)) 86400) 60) 2).bind fun t336 => (if (((((((((t331 ++ (⟨#[45]⟩ : ByteArray)) ++ t332) ++ (⟨#[45]⟩ : ByteArray)) ++ t333) ++ (⟨#[84]⟩ : ByteArray)) ++ t334) ++ (⟨#[58]⟩ : ByteArray)) ++ t335) ++ (⟨#[58]⟩ : ByteArray)).size + t336.size ≤ 9223372036854775807 then (if a0_1 > 0 then ((broadsheetref11_pad.f kj16 a0_1 9).bind fun t337 => (broadsheetref11_Print.l3 kj16 ((((((((((t331 ++ (⟨#[45]⟩ : ByteArray)) ++ t332) ++ (⟨#[45]⟩ : ByteArray)) ++ t333) ++ (⟨#[84]⟩ : ByteArray)) ++ t334) ++ (⟨#[58]⟩ : ByteArray)) ++ t335) ++ (⟨#[58]⟩ : ByteArray)) ++ t336) t337)) else (if ((((((((((t331 ++ (⟨#[45]⟩ : ByteArray)) ++ t332) ++ (⟨#[45]⟩ : ByteArray)) ++ t333) ++ (⟨#[84]⟩ : ByteArray)) ++ t334) ++ (⟨#[58]⟩ : ByteArray)) ++ t335) ++ (⟨#[58]⟩ : ByteArray)) ++ t336).size + 1 ≤ 9223372036854775807 then (some (((((((((((t331 ++ (⟨#[45]⟩ : ByteArray)) ++ t332) ++ (⟨#[45]⟩ : ByteArray)) ++ t333) ++ (⟨#[84]⟩ : ByteArray)) ++ t334) ++ (⟨#[58]⟩ : ByteArray)) ++ t335) ++ (⟨#[58]⟩ : ByteArray)) ++ t336) ++ (⟨#[90]⟩ : ByteArray), 0)) else (none))) else (none))) else (none)) else (none))) else (none)) else (none)) = some (r1, r2) := H
                                  have A30 := Aside0.mk A300
                                  clear A300
                                  by_cases c31 : (((((t331 ++ (⟨#[45]⟩ : ByteArray)) ++ t332) ++ (⟨#[45]⟩ : ByteArray)) ++ t333) ++ (⟨#[84]⟩ : ByteArray)).size + t334.size ≤ 9223372036854775807
                                  · rw [if_pos c31] at H
                                    have c31b0 := eq_true c31
                                    have c31b1 : decide ((((((t331 ++ (⟨#[45]⟩ : ByteArray)) ++ t332) ++ (⟨#[45]⟩ : ByteArray)) ++ t333) ++ (⟨#[84]⟩ : ByteArray)).size + t334.size ≤ 9223372036854775807) = true := decide_eq_true c31
                                    try have c31b2 : (9223372036854775807 < (((((t331 ++ (⟨#[45]⟩ : ByteArray)) ++ t332) ++ (⟨#[45]⟩ : ByteArray)) ++ t333) ++ (⟨#[84]⟩ : ByteArray)).size + t334.size) = False := eq_false (Nat.not_lt.2 c31)
                                    try have c31b3 : (9223372036854775807 < t331.size + 1 + t332.size + 1 + t333.size + 1 + t334.size) = False := eq_false (by have h_ := c31; simp only [ByteArray.size_append] at h_; exact Nat.not_lt.2 h_)
                                    by_cases c32 : ((((((t331 ++ (⟨#[45]⟩ : ByteArray)) ++ t332) ++ (⟨#[45]⟩ : ByteArray)) ++ t333) ++ (⟨#[84]⟩ : ByteArray)) ++ t334).size + 1 ≤ 9223372036854775807
                                    · rw [if_pos c32] at H
                                      have c32b0 := eq_true c32
                                      have c32b1 : decide (((((((t331 ++ (⟨#[45]⟩ : ByteArray)) ++ t332) ++ (⟨#[45]⟩ : ByteArray)) ++ t333) ++ (⟨#[84]⟩ : ByteArray)) ++ t334).size + 1 ≤ 9223372036854775807) = true := decide_eq_true c32
                                      try have c32b2 : (9223372036854775807 < ((((((t331 ++ (⟨#[45]⟩ : ByteArray)) ++ t332) ++ (⟨#[45]⟩ : ByteArray)) ++ t333) ++ (⟨#[84]⟩ : ByteArray)) ++ t334).size + 1) = False := eq_false (Nat.not_lt.2 c32)
                                      try have c32b3 : (9223372036854775807 < t331.size + 1 + t332.size + 1 + t333.size + 1 + t334.size + 1) = False := eq_false (by have h_ := c32; simp only [ByteArray.size_append] at h_; exact Nat.not_lt.2 h_)
                                      replace H := Option.bind_eq_some_iff.mp H
                                      obtain ⟨t335, A330, H⟩ := H
                                      replace H : (if (((((((t331 ++ (⟨#[45]⟩ : ByteArray)) ++ t332) ++ (⟨#[45]⟩ : ByteArray)) ++ t333) ++ (⟨#[84]⟩ : ByteArray)) ++ t334) ++ (⟨#[58]⟩ : ByteArray)).size + t335.size ≤ 9223372036854775807 then (if ((((((((t331 ++ (⟨#[45]⟩ : ByteArray)) ++ t332) ++ (⟨#[45]⟩ : ByteArray)) ++ t333) ++ (⟨#[84]⟩ : ByteArray)) ++ t334) ++ (⟨#[58]⟩ : ByteArray)) ++ t335).size + 1 ≤ 9223372036854775807 then ((broadsheetref11_pad.f kj16 (Int.tmod (Int.tmod (wrap64 (a0_0 + 62167219200)) 86400) 60) 2).bind fun t336 => (if (((((((((t331 ++ (⟨#[45]⟩ : ByteArray)) ++ t332) ++ (⟨#[45]⟩ : ByteArray)) ++ t333) ++ (⟨#[84]⟩ : ByteArray)) ++ t334) ++ (⟨#[58]⟩ : ByteArray)) ++ t335) ++ (⟨#[58]⟩ : ByteArray)).size + t336.size ≤ 9223372036854775807 then (if a0_1 > 0 then ((broadsheetref11_pad.f kj16 a0_1 9).bind fun t337 => (broadsheetref11_Print.l3 kj16 ((((((((((t331 ++ (⟨#[45]⟩ : ByteArray)) ++ t332) ++ (⟨#[45]⟩ : ByteArray)) ++ t333) ++ (⟨#[84]⟩ : ByteArray)) ++ t334) ++ (⟨#[58]⟩ : ByteArray)) ++ t335) ++ (⟨#[58]⟩ : ByteArray)) ++ t336) t337)) else (if ((((((((((t331 ++ (⟨#[45]⟩ : ByteArray)) ++ t332) ++ (⟨#[45]⟩ : ByteArray)) ++ t333) ++ (⟨#[84]⟩ : ByteArray)) ++ t334) ++ (⟨#[58]⟩ : ByteArray)) ++ t335) ++ (⟨#[58]⟩ : ByteArray)) ++ t336).size + 1 ≤ 9223372036854775807 then (some (((((((((((t331 ++ (⟨#[45]⟩ : ByteArray)) ++ t332) ++ (⟨#[45]⟩ : ByteArray)) ++ t333) ++ (⟨#[84]⟩ : ByteArray)) ++ t334) ++ (⟨#[58]⟩ : ByteArray)) ++ t335) ++ (⟨#[58]⟩ : ByteArray)) ++ t336) ++ (⟨#[90]⟩ : ByteArray), 0)) else (none))) else (none))) else (none)) else (none)) = some (r1, r2) := H
                                      have A33 := Aside0.mk A330
                                      clear A330
                                      by_cases c34 : (((((((t331 ++ (⟨#[45]⟩ : ByteArray)) ++ t332) ++ (⟨#[45]⟩ : ByteArray)) ++ t333) ++ (⟨#[84]⟩ : ByteArray)) ++ t334) ++ (⟨#[58]⟩ : ByteArray)).size + t335.size ≤ 9223372036854775807
                                      · rw [if_pos c34] at H
                                        have c34b0 := eq_true c34
                                        have c34b1 : decide ((((((((t331 ++ (⟨#[45]⟩ : ByteArray)) ++ t332) ++ (⟨#[45]⟩ : ByteArray)) ++ t333) ++ (⟨#[84]⟩ : ByteArray)) ++ t334) ++ (⟨#[58]⟩ : ByteArray)).size + t335.size ≤ 9223372036854775807) = true := decide_eq_true c34
                                        try have c34b2 : (9223372036854775807 < (((((((t331 ++ (⟨#[45]⟩ : ByteArray)) ++ t332) ++ (⟨#[45]⟩ : ByteArray)) ++ t333) ++ (⟨#[84]⟩ : ByteArray)) ++ t334) ++ (⟨#[58]⟩ : ByteArray)).size + t335.size) = False := eq_false (Nat.not_lt.2 c34)
                                        try have c34b3 : (9223372036854775807 < t331.size + 1 + t332.size + 1 + t333.size + 1 + t334.size + 1 + t335.size) = False := eq_false (by have h_ := c34; simp only [ByteArray.size_append] at h_; exact Nat.not_lt.2 h_)
                                        by_cases c35 : ((((((((t331 ++ (⟨#[45]⟩ : ByteArray)) ++ t332) ++ (⟨#[45]⟩ : ByteArray)) ++ t333) ++ (⟨#[84]⟩ : ByteArray)) ++ t334) ++ (⟨#[58]⟩ : ByteArray)) ++ t335).size + 1 ≤ 9223372036854775807
                                        · rw [if_pos c35] at H
                                          have c35b0 := eq_true c35
                                          have c35b1 : decide (((((((((t331 ++ (⟨#[45]⟩ : ByteArray)) ++ t332) ++ (⟨#[45]⟩ : ByteArray)) ++ t333) ++ (⟨#[84]⟩ : ByteArray)) ++ t334) ++ (⟨#[58]⟩ : ByteArray)) ++ t335).size + 1 ≤ 9223372036854775807) = true := decide_eq_true c35
                                          try have c35b2 : (9223372036854775807 < ((((((((t331 ++ (⟨#[45]⟩ : ByteArray)) ++ t332) ++ (⟨#[45]⟩ : ByteArray)) ++ t333) ++ (⟨#[84]⟩ : ByteArray)) ++ t334) ++ (⟨#[58]⟩ : ByteArray)) ++ t335).size + 1) = False := eq_false (Nat.not_lt.2 c35)
                                          try have c35b3 : (9223372036854775807 < t331.size + 1 + t332.size + 1 + t333.size + 1 + t334.size + 1 + t335.size + 1) = False := eq_false (by have h_ := c35; simp only [ByteArray.size_append] at h_; exact Nat.not_lt.2 h_)
                                          replace H := Option.bind_eq_some_iff.mp H
                                          obtain ⟨t336, A360, H⟩ := H
                                          replace H : (if (((((((((t331 ++ (⟨#[45]⟩ : ByteArray)) ++ t332) ++ (⟨#[45]⟩ : ByteArray)) ++ t333) ++ (⟨#[84]⟩ : ByteArray)) ++ t334) ++ (⟨#[58]⟩ : ByteArray)) ++ t335) ++ (⟨#[58]⟩ : ByteArray)).size + t336.size ≤ 9223372036854775807 then (if a0_1 > 0 then ((broadsheetref11_pad.f kj16 a0_1 9).bind fun t337 => (broadsheetref11_Print.l3 kj16 ((((((((((t331 ++ (⟨#[45]⟩ : ByteArray)) ++ t332) ++ (⟨#[45]⟩ : ByteArray)) ++ t333) ++ (⟨#[84]⟩ : ByteArray)) ++ t334) ++ (⟨#[58]⟩ : ByteArray)) ++ t335) ++ (⟨#[58]⟩ : ByteArray)) ++ t336) t337)) else (if ((((((((((t331 ++ (⟨#[45]⟩ : ByteArray)) ++ t332) ++ (⟨#[45]⟩ : ByteArray)) ++ t333) ++ (⟨#[84]⟩ : ByteArray)) ++ t334) ++ (⟨#[58]⟩ : ByteArray)) ++ t335) ++ (⟨#[58]⟩ : ByteArray)) ++ t336).size + 1 ≤ 9223372036854775807 then (some (((((((((((t331 ++ (⟨#[45]⟩ : ByteArray)) ++ t332) ++ (⟨#[45]⟩ : ByteArray)) ++ t333) ++ (⟨#[84]⟩ : ByteArray)) ++ t334) ++ (⟨#[58]⟩ : ByteArray)) ++ t335) ++ (⟨#[58]⟩ : ByteArray)) ++ t336) ++ (⟨#[90]⟩ : ByteArray), 0)) else (none))) else (none)) = some (r1, r2) := H
                                          have A36 := Aside0.mk A360
                                          clear A360
                                          by_cases c37 : (((((((((t331 ++ (⟨#[45]⟩ : ByteArray)) ++ t332) ++ (⟨#[45]⟩ : ByteArray)) ++ t333) ++ (⟨#[84]⟩ : ByteArray)) ++ t334) ++ (⟨#[58]⟩ : ByteArray)) ++ t335) ++ (⟨#[58]⟩ : ByteArray)).size + t336.size ≤ 9223372036854775807
                                          · rw [if_pos c37] at H
                                            have c37b0 := eq_true c37
                                            have c37b1 : decide ((((((((((t331 ++ (⟨#[45]⟩ : ByteArray)) ++ t332) ++ (⟨#[45]⟩ : ByteArray)) ++ t333) ++ (⟨#[84]⟩ : ByteArray)) ++ t334) ++ (⟨#[58]⟩ : ByteArray)) ++ t335) ++ (⟨#[58]⟩ : ByteArray)).size + t336.size ≤ 9223372036854775807) = true := decide_eq_true c37
                                            try have c37b2 : (9223372036854775807 < (((((((((t331 ++ (⟨#[45]⟩ : ByteArray)) ++ t332) ++ (⟨#[45]⟩ : ByteArray)) ++ t333) ++ (⟨#[84]⟩ : ByteArray)) ++ t334) ++ (⟨#[58]⟩ : ByteArray)) ++ t335) ++ (⟨#[58]⟩ : ByteArray)).size + t336.size) = False := eq_false (Nat.not_lt.2 c37)
                                            try have c37b3 : (9223372036854775807 < t331.size + 1 + t332.size + 1 + t333.size + 1 + t334.size + 1 + t335.size + 1 + t336.size) = False := eq_false (by have h_ := c37; simp only [ByteArray.size_append] at h_; exact Nat.not_lt.2 h_)
                                            by_cases c38 : a0_1 > 0
                                            · rw [if_pos c38] at H
                                              have c38b0 : decide (0 < a0_1) = true := decide_eq_true c38
                                              clear c38
                                              replace H := Option.bind_eq_some_iff.mp H
                                              obtain ⟨t337, A390, H⟩ := H
                                              replace H : (broadsheetref11_Print.l3 kj16 ((((((((((t331 ++ (⟨#[45]⟩ : ByteArray)) ++ t332) ++ (⟨#[45]⟩ : ByteArray)) ++ t333) ++ (⟨#[84]⟩ : ByteArray)) ++ t334) ++ (⟨#[58]⟩ : ByteArray)) ++ t335) ++ (⟨#[58]⟩ : ByteArray)) ++ t336) t337) = some (r1, r2) := H
                                              have A39 := Aside0.mk A390
                                              clear A390
                                              have H' := Aside0.mk H
                                              clear H
                                              go_wp2_with (first | ((with_reducible refine gate_callee (f := 42) rfl ?_); refine goesL_ (some 63) rfl rfl Tryd.func42 (by kernel_rfl) rfl #[.int .i64 x5_3, .int .i64 x6_16, .int .i64 1] rfl (by (try simp only [List.map_toArray, List.map_cons, List.map_nil]); first | done | rfl | (simp only [List.length_drop, List.length_take]; rfl) | (simp only [Int.tmod_tmod_of_dvd _ (show (60 : Int) ∣ 86400 by decide)]; rfl)) ?_; (with_reducible refine (broadsheetref11_since.calls kj16 x5_3 x6_16 1 t330 _ A21.out).mono ?_); rintro e w' ⟨rfl, ⟨nd, rfl⟩⟩; refine ⟨_, rfl, ?_⟩; have hcz40_0 : wc.cell? ⟨gb326, 0, none⟩ = some (.int .i64 a0_0) := (blk_cell BK326.out 0).trans rfl; have hcz40_1 : wc.cell? ⟨gb326, 1, none⟩ = some (.int .i64 a0_1) := (blk_cell BK326.out 1).trans rfl; have hfz40_0 := blk_frozen BK326.out 0; have hfz40_1 := blk_frozen BK326.out 1) | ((with_reducible refine gate_callee (f := 43) rfl ?_); refine goesL_ (some 71) rfl rfl Tryd.func43 (by kernel_rfl) rfl #[.int .i64 x5_3, .int .i64 4] rfl (by (try simp only [List.map_toArray, List.map_cons, List.map_nil]); first | done | rfl | (simp only [List.length_drop, List.length_take]; rfl) | (simp only [Int.tmod_tmod_of_dvd _ (show (60 : Int) ∣ 86400 by decide)]; rfl)) ?_; (with_reducible refine (broadsheetref11_pad.calls kj16 x5_3 4 t331 _ A22.out).mono ?_); rintro e w41 ⟨rfl, hb⟩; refine ⟨_, rfl, ?_⟩; have n0_ := Aside0.mk (blk_below (g := gb326) (o := .cells #[.int .i64 a0_0, .int .i64 a0_1] 50 (0, 0)) (by (with_reducible repeat (first | refine blk_drewN ?_ _ | refine blk_drew ?_ | refine blk_alloc ?_ _)); exact BK326.out) hb); have n1_ := Aside0.mk (below_step (by repeat (first | (with_reducible first | exact HB.out | apply below_alloc | apply pw_below_drewN | apply below_drew1 | refine below_set ?_ GE326.out) | exact HB.out)) hb); clear BK326; clear HB; have BK326 := n0_; have HB := n1_; clear n0_ n1_; (try clear hb); (try clear hb2); (try clear hk); (try clear hi)) | ((with_reducible refine gate_callee (f := 43) rfl ?_); refine goesL_ (some 74) rfl rfl Tryd.func43 (by kernel_rfl) rfl #[.int .i64 x6_16, .int .i64 2] rfl (by (try simp only [List.map_toArray, List.map_cons, List.map_nil]); first | done | rfl | (simp only [List.length_drop, List.length_take]; rfl) | (simp only [Int.tmod_tmod_of_dvd _ (show (60 : Int) ∣ 86400 by decide)]; rfl)) ?_; (with_reducible refine (broadsheetref11_pad.calls kj16 x6_16 2 t332 _ A24.out).mono ?_); rintro e w42 ⟨rfl, hb⟩; refine ⟨_, rfl, ?_⟩; have n0_ := Aside0.mk (blk_below (g := gb326) (o := .cells #[.int .i64 a0_0, .int .i64 a0_1] 50 (0, 0)) (by (with_reducible repeat (first | refine blk_drewN ?_ _ | refine blk_drew ?_ | refine blk_alloc ?_ _)); exact BK326.out) hb); have n1_ := Aside0.mk (below_step (by repeat (first | (with_reducible first | exact HB.out | apply below_alloc | apply pw_below_drewN | apply below_drew1 | refine below_set ?_ GE326.out) | exact HB.out)) hb); clear BK326; clear HB; have BK326 := n0_; have HB := n1_; clear n0_ n1_; (try clear hb); (try clear hb2); (try clear hk); (try clear hi)) | ((with_reducible refine gate_callee (f := 43) rfl ?_); refine goesL_ (some 78) rfl rfl Tryd.func43 (by kernel_rfl) rfl #[.int .i64 (wrap64 ((wrap64 ((wrap64 ((wrap64 (Int.tdiv (wrap64 (a0_0 + 62167219200)) 86400)) - 719528)) - t330)) + 1)), .int .i64 2] rfl (by (try simp only [List.map_toArray, List.map_cons, List.map_nil]); first | done | rfl | (simp only [List.length_drop, List.length_take]; rfl) | (simp only [Int.tmod_tmod_of_dvd _ (show (60 : Int) ∣ 86400 by decide)]; rfl)) ?_; (with_reducible refine (broadsheetref11_pad.calls kj16 (wrap64 ((wrap64 ((wrap64 ((wrap64 (Int.tdiv (wrap64 (a0_0 + 62167219200)) 86400)) - 719528)) - t330)) + 1)) 2 t333 _ A27.out).mono ?_); rintro e w43 ⟨rfl, hb⟩; refine ⟨_, rfl, ?_⟩; have n0_ := Aside0.mk (blk_below (g := gb326) (o := .cells #[.int .i64 a0_0, .int .i64 a0_1] 50 (0, 0)) (by (with_reducible repeat (first | refine blk_drewN ?_ _ | refine blk_drew ?_ | refine blk_alloc ?_ _)); exact BK326.out) hb); have n1_ := Aside0.mk (below_step (by repeat (first | (with_reducible first | exact HB.out | apply below_alloc | apply pw_below_drewN | apply below_drew1 | refine below_set ?_ GE326.out) | exact HB.out)) hb); clear BK326; clear HB; have BK326 := n0_; have HB := n1_; clear n0_ n1_; (try clear hb); (try clear hb2); (try clear hk); (try clear hi)) | ((with_reducible refine gate_callee (f := 43) rfl ?_); refine goesL_ (some 83) rfl rfl Tryd.func43 (by kernel_rfl) rfl #[.int .i64 (wrap64 (Int.tdiv (Int.tmod (wrap64 (a0_0 + 62167219200)) 86400) 3600)), .int .i64 2] rfl (by (try simp only [List.map_toArray, List.map_cons, List.map_nil]); first | done | rfl | (simp only [List.length_drop, List.length_take]; rfl) | (simp only [Int.tmod_tmod_of_dvd _ (show (60 : Int) ∣ 86400 by decide)]; rfl)) ?_; (with_reducible refine (broadsheetref11_pad.calls kj16 (wrap64 (Int.tdiv (Int.tmod (wrap64 (a0_0 + 62167219200)) 86400) 3600)) 2 t334 _ A30.out).mono ?_); rintro e w44 ⟨rfl, hb⟩; refine ⟨_, rfl, ?_⟩; have n0_ := Aside0.mk (blk_below (g := gb326) (o := .cells #[.int .i64 a0_0, .int .i64 a0_1] 50 (0, 0)) (by (with_reducible repeat (first | refine blk_drewN ?_ _ | refine blk_drew ?_ | refine blk_alloc ?_ _)); exact BK326.out) hb); have n1_ := Aside0.mk (below_step (by repeat (first | (with_reducible first | exact HB.out | apply below_alloc | apply pw_below_drewN | apply below_drew1 | refine below_set ?_ GE326.out) | exact HB.out)) hb); clear BK326; clear HB; have BK326 := n0_; have HB := n1_; clear n0_ n1_; (try clear hb); (try clear hb2); (try clear hk); (try clear hi)) | ((with_reducible refine gate_callee (f := 43) rfl ?_); refine goesL_ (some 89) rfl rfl Tryd.func43 (by kernel_rfl) rfl #[.int .i64 (Int.tmod (wrap64 (Int.tdiv (Int.tmod (wrap64 (a0_0 + 62167219200)) 86400) 60)) 60), .int .i64 2] rfl (by (try simp only [List.map_toArray, List.map_cons, List.map_nil]); first | done | rfl | (simp only [List.length_drop, List.length_take]; rfl) | (simp only [Int.tmod_tmod_of_dvd _ (show (60 : Int) ∣ 86400 by decide)]; rfl)) ?_; (with_reducible refine (broadsheetref11_pad.calls kj16 (Int.tmod (wrap64 (Int.tdiv (Int.tmod (wrap64 (a0_0 + 62167219200)) 86400) 60)) 60) 2 t335 _ A33.out).mono ?_); rintro e w45 ⟨rfl, hb⟩; refine ⟨_, rfl, ?_⟩; have n0_ := Aside0.mk (blk_below (g := gb326) (o := .cells #[.int .i64 a0_0, .int .i64 a0_1] 50 (0, 0)) (by (with_reducible repeat (first | refine blk_drewN ?_ _ | refine blk_drew ?_ | refine blk_alloc ?_ _)); exact BK326.out) hb); have n1_ := Aside0.mk (below_step (by repeat (first | (with_reducible first | exact HB.out | apply below_alloc | apply pw_below_drewN | apply below_drew1 | refine below_set ?_ GE326.out) | exact HB.out)) hb); clear BK326; clear HB; have BK326 := n0_; have HB := n1_; clear n0_ n1_; (try clear hb); (try clear hb2); (try clear hk); (try clear hi)) | ((with_reducible refine gate_callee (f := 43) rfl ?_); refine goesL_ (some 94) rfl rfl Tryd.func43 (by kernel_rfl) rfl #[.int .i64 (Int.tmod (Int.tmod (wrap64 (a0_0 + 62167219200)) 86400) 60), .int .i64 2] rfl (by (try simp only [List.map_toArray, List.map_cons, List.map_nil]); first | done | rfl | (simp only [List.length_drop, List.length_take]; rfl) | (simp only [Int.tmod_tmod_of_dvd _ (show (60 : Int) ∣ 86400 by decide)]; rfl)) ?_; (with_reducible refine (broadsheetref11_pad.calls kj16 (Int.tmod (Int.tmod (wrap64 (a0_0 + 62167219200)) 86400) 60) 2 t336 _ A36.out).mono ?_); rintro e w46 ⟨rfl, hb⟩; refine ⟨_, rfl, ?_⟩; have n0_ := Aside0.mk (blk_below (g := gb326) (o := .cells #[.int .i64 a0_0, .int .i64 a0_1] 50 (0, 0)) (by (with_reducible repeat (first | refine blk_drewN ?_ _ | refine blk_drew ?_ | refine blk_alloc ?_ _)); exact BK326.out) hb); have n1_ := Aside0.mk (below_step (by repeat (first | (with_reducible first | exact HB.out | apply below_alloc | apply pw_below_drewN | apply below_drew1 | refine below_set ?_ GE326.out) | exact HB.out)) hb); clear BK326; clear HB; have BK326 := n0_; have HB := n1_; clear n0_ n1_; (try clear hb); (try clear hb2); (try clear hk); (try clear hi); have hcz47_0 : w46.cell? ⟨gb326, 0, none⟩ = some (.int .i64 a0_0) := (blk_cell BK326.out 0).trans rfl; have hcz47_1 : w46.cell? ⟨gb326, 1, none⟩ = some (.int .i64 a0_1) := (blk_cell BK326.out 1).trans rfl; have hfz47_0 := blk_frozen BK326.out 0; have hfz47_1 := blk_frozen BK326.out 1) | ((with_reducible refine gate_callee (f := 43) rfl ?_); refine goesL_ (some 101) rfl rfl Tryd.func43 (by kernel_rfl) rfl #[.int .i64 a0_1, .int .i64 9] rfl (by (try simp only [List.map_toArray, List.map_cons, List.map_nil]); first | done | rfl | (simp only [List.length_drop, List.length_take]; rfl) | (simp only [Int.tmod_tmod_of_dvd _ (show (60 : Int) ∣ 86400 by decide)]; rfl)) ?_; (with_reducible refine (broadsheetref11_pad.calls kj16 a0_1 9 t337 _ A39.out).mono ?_); rintro e w48 ⟨rfl, hb⟩; refine ⟨_, rfl, ?_⟩; have n0_ := Aside0.mk (blk_below (g := gb326) (o := .cells #[.int .i64 a0_0, .int .i64 a0_1] 50 (0, 0)) (by (with_reducible repeat (first | refine blk_drewN ?_ _ | refine blk_drew ?_ | refine blk_alloc ?_ _)); exact BK326.out) hb); have n1_ := Aside0.mk (below_step (by repeat (first | (with_reducible first | exact HB.out | apply below_alloc | apply pw_below_drewN | apply below_drew1 | refine below_set ?_ GE326.out) | exact HB.out)) hb); clear BK326; clear HB; have BK326 := n0_; have HB := n1_; clear n0_ n1_; (try clear hb); (try clear hb2); (try clear hk); (try clear hi)))
                                              go_loopg [10] kj16 (fun kq v10 w' => ∃ (x10_5 : ByteArray), v10 = .string x10_5 ∧ Aside0 (broadsheetref11_Print.l3 kq ((((((((((t331 ++ (⟨#[45]⟩ : ByteArray)) ++ t332) ++ (⟨#[45]⟩ : ByteArray)) ++ t333) ++ (⟨#[84]⟩ : ByteArray)) ++ t334) ++ (⟨#[58]⟩ : ByteArray)) ++ t335) ++ (⟨#[58]⟩ : ByteArray)) ++ t336) x10_5 = some (r1, r2)) ∧ Aside0 (kq ≤ kj16) ∧ Aside0 (w'.heap[gb326]? = some (.cells #[.int .i64 a0_0, .int .i64 a0_1] 50 (0, 0))) ∧ Aside0 (Below w.heap.size w w'))
                                              case atStart => exact ⟨(t337), (by first | rfl | (simp; done) | (simp [*]; done)), H', ⟨Nat.le_refl _⟩, ⟨by (with_reducible repeat (first | refine blk_drewN ?_ _ | refine blk_drew ?_ | refine blk_alloc ?_ _)); exact BK326.out⟩, ⟨by repeat (first | (with_reducible first | exact HB.out | apply below_alloc | apply pw_below_drewN | apply below_drew1 | refine below_set ?_ GE326.out) | exact HB.out)⟩⟩
                                              case round =>
                                                clear H'
                                                try clear c1
                                                try clear c2
                                                try clear p2
                                                try clear c3
                                                try clear c4
                                                try clear c4b0
                                                try clear c6
                                                try clear c6b0
                                                try clear p6
                                                try clear c8
                                                try clear c8b0
                                                try clear c11
                                                try clear c14
                                                try clear c14b0
                                                try clear c16
                                                try clear c16b0
                                                try clear c18
                                                try clear c18b0
                                                try clear c20
                                                try clear c20b0
                                                try clear c23
                                                try clear c23b0
                                                try clear c23b1
                                                try clear c23b2
                                                try clear c25
                                                try clear c25b0
                                                try clear c25b1
                                                try clear c25b2
                                                try clear c26
                                                try clear c26b0
                                                try clear c26b1
                                                try clear c26b2
                                                try clear c28
                                                try clear c28b0
                                                try clear c28b1
                                                try clear c28b2
                                                try clear c29
                                                try clear c29b0
                                                try clear c29b1
                                                try clear c29b2
                                                try clear c31
                                                try clear c31b0
                                                try clear c31b1
                                                try clear c31b2
                                                try clear c32
                                                try clear c32b0
                                                try clear c32b1
                                                try clear c32b2
                                                try clear c34
                                                try clear c34b0
                                                try clear c34b1
                                                try clear c34b2
                                                try clear c35
                                                try clear c35b0
                                                try clear c35b1
                                                try clear c35b2
                                                try clear c37
                                                try clear c37b0
                                                try clear c37b1
                                                try clear c37b2
                                                try clear c38
                                                try clear c38b0
                                                try clear c42
                                                try clear c43
                                                try clear hcz10_0
                                                try clear hcz10_1
                                                try clear hcz12_0
                                                try clear hcz12_1
                                                try clear hcz40_0
                                                try clear hcz40_1
                                                try clear hcz47_0
                                                try clear hcz47_1
                                                try clear hcz5_0
                                                try clear hcz5_1
                                                try clear hcz7_0
                                                try clear hcz7_1
                                                try clear hcz9_0
                                                try clear hcz9_1
                                                try clear hfz10_0
                                                try clear hfz10_1
                                                try clear hfz12_0
                                                try clear hfz12_1
                                                try clear hfz40_0
                                                try clear hfz40_1
                                                try clear hfz47_0
                                                try clear hfz47_1
                                                try clear hfz5_0
                                                try clear hfz5_1
                                                try clear hfz7_0
                                                try clear hfz7_1
                                                try clear hfz9_0
                                                try clear hfz9_1
                                                try clear p2
                                                try clear p6
                                                obtain ⟨x10_5, rfl, HA, HK5, BK326, HB⟩ := hrel
                                                cases gk with
                                                | zero => exact absurd HA.out (by simp [broadsheetref11_Print.l3])
                                                | succ k5 =>
                                                  have H := HA.out
                                                  clear HA
                                                  simp only [broadsheetref11_Print.l3] at H
                                                  obtain ⟨ji49, hji49⟩ : ∃ j_ : Int, (wrap64 ((x10_5.size : Int) - 1)) = j_ := ⟨_, rfl⟩
                                                  replace H : (if 0 ≤ (ji49) then (if (ji49) < (x10_5.size : Int) then (if (bt x10_5 (ji49)) = 48 then (if (ji49) ≤ (x10_5.size : Int) then (broadsheetref11_Print.l3 k5 ((((((((((t331 ++ (⟨#[45]⟩ : ByteArray)) ++ t332) ++ (⟨#[45]⟩ : ByteArray)) ++ t333) ++ (⟨#[84]⟩ : ByteArray)) ++ t334) ++ (⟨#[58]⟩ : ByteArray)) ++ t335) ++ (⟨#[58]⟩ : ByteArray)) ++ t336) (x10_5.extract 0 ((ji49) : Int).toNat)) else (none)) else (if ((((((((((t331 ++ (⟨#[45]⟩ : ByteArray)) ++ t332) ++ (⟨#[45]⟩ : ByteArray)) ++ t333) ++ (⟨#[84]⟩ : ByteArray)) ++ t334) ++ (⟨#[58]⟩ : ByteArray)) ++ t335) ++ (⟨#[58]⟩ : ByteArray)) ++ t336).size + 1 ≤ 9223372036854775807 then (if (((((((((((t331 ++ (⟨#[45]⟩ : ByteArray)) ++ t332) ++ (⟨#[45]⟩ : ByteArray)) ++ t333) ++ (⟨#[84]⟩ : ByteArray)) ++ t334) ++ (⟨#[58]⟩ : ByteArray)) ++ t335) ++ (⟨#[58]⟩ : ByteArray)) ++ t336) ++ (⟨#[46]⟩ : ByteArray)).size + x10_5.size ≤ 9223372036854775807 then (if ((((((((((((t331 ++ (⟨#[45]⟩ : ByteArray)) ++ t332) ++ (⟨#[45]⟩ : ByteArray)) ++ t333) ++ (⟨#[84]⟩ : ByteArray)) ++ t334) ++ (⟨#[58]⟩ : ByteArray)) ++ t335) ++ (⟨#[58]⟩ : ByteArray)) ++ t336) ++ (⟨#[46]⟩ : ByteArray)) ++ x10_5).size + 1 ≤ 9223372036854775807 then (some (((((((((((((t331 ++ (⟨#[45]⟩ : ByteArray)) ++ t332) ++ (⟨#[45]⟩ : ByteArray)) ++ t333) ++ (⟨#[84]⟩ : ByteArray)) ++ t334) ++ (⟨#[58]⟩ : ByteArray)) ++ t335) ++ (⟨#[58]⟩ : ByteArray)) ++ t336) ++ (⟨#[46]⟩ : ByteArray)) ++ x10_5) ++ (⟨#[90]⟩ : ByteArray), 0)) else (none)) else (none)) else (none))) else (none)) else (none)) = some (r1, r2) := by first | (rw [hji49] at H; exact H) | (simp only [hji49] at H ⊢; exact H)
                                                  have hji49w : (IntKind.i64.wrap ((x10_5.size : Int) - 1)) = ji49 := (i64_w _).trans hji49
                                                  by_cases c50 : 0 ≤ (ji49)
                                                  · rw [if_pos c50] at H
                                                    have c50b0 : decide (0 ≤ (ji49)) = true := decide_eq_true c50
                                                    clear c50
                                                    by_cases c51 : (ji49) < (x10_5.size : Int)
                                                    · rw [if_pos c51] at H
                                                      have c51b0 : decide ((ji49) < (x10_5.size : Int)) = true := decide_eq_true c51
                                                      clear c51
                                                      by_cases c53 : (bt x10_5 (ji49)) = 48
                                                      · rw [if_pos c53] at H
                                                        have c53b0 : ((bt x10_5 (ji49)) == 48) = true := beq_iff_eq.mpr c53
                                                        have c53b1 : ((bt x10_5 (ji49)) != 48) = false := bne_eq_false_iff_eq.mpr c53
                                                        clear c53
                                                        have c54b0 := eq_true (of_decide_eq_true (by first | (with_reducible assumption) | assumption) : 0 ≤ (ji49))
                                                        by_cases c55 : (ji49) ≤ (x10_5.size : Int)
                                                        · rw [if_pos c55] at H
                                                          have c55b0 := eq_true c55
                                                          have c55b1 : decide ((ji49) ≤ (x10_5.size : Int)) = true := decide_eq_true c55
                                                          clear c55
                                                          have H' := Aside0.mk H
                                                          clear H
                                                          have p52 : 0 ≤ ((ji49) : Int) := of_decide_eq_true (by first | (with_reducible assumption) | assumption)
                                                          have q52 : (ji49) < (x10_5.size : Int) := of_decide_eq_true (by first | (with_reducible assumption) | assumption)
                                                          have hx52 := bt_at x10_5 (ji49)
                                                          replace p52 := eq_true p52
                                                          replace q52 := eq_true q52
                                                          go_wp2
                                                          go_roundg k5
                                                          case measure => have := HJ1.out; have := HK2.out; have := HK3.out; have := HJ16.out; have := HK5.out; omega
                                                          case rel => exact ⟨(x10_5.extract 0 ((ji49) : Int).toNat), (by first | rfl | (simp; done) | (simp only [← hji49] <;> (first | rfl | simp)) | (simp [*]; done)), H', ⟨by have := HJ1.out; have := HK2.out; have := HK3.out; have := HJ16.out; have := HK5.out; omega⟩, ⟨by (with_reducible repeat (first | refine blk_drewN ?_ _ | refine blk_drew ?_ | refine blk_alloc ?_ _)); exact BK326.out⟩, ⟨by repeat (first | (with_reducible first | exact HB.out | apply below_alloc | apply pw_below_drewN | apply below_drew1 | refine below_set ?_ GE326.out) | exact HB.out)⟩⟩
                                                        · rw [if_neg c55] at H
                                                          exact absurd H (by simp)
                                                      · rw [if_neg c53] at H
                                                        have c53b0 : ((bt x10_5 (ji49)) == 48) = false := beq_eq_false_iff_ne.mpr c53
                                                        have c53b1 : ((bt x10_5 (ji49)) != 48) = true := bne_iff_ne.mpr c53
                                                        by_cases c56 : ((((((((((t331 ++ (⟨#[45]⟩ : ByteArray)) ++ t332) ++ (⟨#[45]⟩ : ByteArray)) ++ t333) ++ (⟨#[84]⟩ : ByteArray)) ++ t334) ++ (⟨#[58]⟩ : ByteArray)) ++ t335) ++ (⟨#[58]⟩ : ByteArray)) ++ t336).size + 1 ≤ 9223372036854775807
                                                        · rw [if_pos c56] at H
                                                          have c56b0 := eq_true c56
                                                          have c56b1 : decide (((((((((((t331 ++ (⟨#[45]⟩ : ByteArray)) ++ t332) ++ (⟨#[45]⟩ : ByteArray)) ++ t333) ++ (⟨#[84]⟩ : ByteArray)) ++ t334) ++ (⟨#[58]⟩ : ByteArray)) ++ t335) ++ (⟨#[58]⟩ : ByteArray)) ++ t336).size + 1 ≤ 9223372036854775807) = true := decide_eq_true c56
                                                          try have c56b2 : (9223372036854775807 < ((((((((((t331 ++ (⟨#[45]⟩ : ByteArray)) ++ t332) ++ (⟨#[45]⟩ : ByteArray)) ++ t333) ++ (⟨#[84]⟩ : ByteArray)) ++ t334) ++ (⟨#[58]⟩ : ByteArray)) ++ t335) ++ (⟨#[58]⟩ : ByteArray)) ++ t336).size + 1) = False := eq_false (Nat.not_lt.2 c56)
                                                          try have c56b3 : (9223372036854775807 < t331.size + 1 + t332.size + 1 + t333.size + 1 + t334.size + 1 + t335.size + 1 + t336.size + 1) = False := eq_false (by have h_ := c56; simp only [ByteArray.size_append] at h_; exact Nat.not_lt.2 h_)
                                                          by_cases c57 : (((((((((((t331 ++ (⟨#[45]⟩ : ByteArray)) ++ t332) ++ (⟨#[45]⟩ : ByteArray)) ++ t333) ++ (⟨#[84]⟩ : ByteArray)) ++ t334) ++ (⟨#[58]⟩ : ByteArray)) ++ t335) ++ (⟨#[58]⟩ : ByteArray)) ++ t336) ++ (⟨#[46]⟩ : ByteArray)).size + x10_5.size ≤ 9223372036854775807
                                                          · rw [if_pos c57] at H
                                                            have c57b0 := eq_true c57
                                                            have c57b1 : decide ((((((((((((t331 ++ (⟨#[45]⟩ : ByteArray)) ++ t332) ++ (⟨#[45]⟩ : ByteArray)) ++ t333) ++ (⟨#[84]⟩ : ByteArray)) ++ t334) ++ (⟨#[58]⟩ : ByteArray)) ++ t335) ++ (⟨#[58]⟩ : ByteArray)) ++ t336) ++ (⟨#[46]⟩ : ByteArray)).size + x10_5.size ≤ 9223372036854775807) = true := decide_eq_true c57
                                                            try have c57b2 : (9223372036854775807 < (((((((((((t331 ++ (⟨#[45]⟩ : ByteArray)) ++ t332) ++ (⟨#[45]⟩ : ByteArray)) ++ t333) ++ (⟨#[84]⟩ : ByteArray)) ++ t334) ++ (⟨#[58]⟩ : ByteArray)) ++ t335) ++ (⟨#[58]⟩ : ByteArray)) ++ t336) ++ (⟨#[46]⟩ : ByteArray)).size + x10_5.size) = False := eq_false (Nat.not_lt.2 c57)
                                                            try have c57b3 : (9223372036854775807 < t331.size + 1 + t332.size + 1 + t333.size + 1 + t334.size + 1 + t335.size + 1 + t336.size + 1 + x10_5.size) = False := eq_false (by have h_ := c57; simp only [ByteArray.size_append] at h_; exact Nat.not_lt.2 h_)
                                                            by_cases c58 : ((((((((((((t331 ++ (⟨#[45]⟩ : ByteArray)) ++ t332) ++ (⟨#[45]⟩ : ByteArray)) ++ t333) ++ (⟨#[84]⟩ : ByteArray)) ++ t334) ++ (⟨#[58]⟩ : ByteArray)) ++ t335) ++ (⟨#[58]⟩ : ByteArray)) ++ t336) ++ (⟨#[46]⟩ : ByteArray)) ++ x10_5).size + 1 ≤ 9223372036854775807
                                                            · rw [if_pos c58] at H
                                                              have c58b0 := eq_true c58
                                                              have c58b1 : decide (((((((((((((t331 ++ (⟨#[45]⟩ : ByteArray)) ++ t332) ++ (⟨#[45]⟩ : ByteArray)) ++ t333) ++ (⟨#[84]⟩ : ByteArray)) ++ t334) ++ (⟨#[58]⟩ : ByteArray)) ++ t335) ++ (⟨#[58]⟩ : ByteArray)) ++ t336) ++ (⟨#[46]⟩ : ByteArray)) ++ x10_5).size + 1 ≤ 9223372036854775807) = true := decide_eq_true c58
                                                              try have c58b2 : (9223372036854775807 < ((((((((((((t331 ++ (⟨#[45]⟩ : ByteArray)) ++ t332) ++ (⟨#[45]⟩ : ByteArray)) ++ t333) ++ (⟨#[84]⟩ : ByteArray)) ++ t334) ++ (⟨#[58]⟩ : ByteArray)) ++ t335) ++ (⟨#[58]⟩ : ByteArray)) ++ t336) ++ (⟨#[46]⟩ : ByteArray)) ++ x10_5).size + 1) = False := eq_false (Nat.not_lt.2 c58)
                                                              try have c58b3 : (9223372036854775807 < t331.size + 1 + t332.size + 1 + t333.size + 1 + t334.size + 1 + t335.size + 1 + t336.size + 1 + x10_5.size + 1) = False := eq_false (by have h_ := c58; simp only [ByteArray.size_append] at h_; exact Nat.not_lt.2 h_)
                                                              simp only [Option.some.injEq, Prod.mk.injEq] at H
                                                              obtain ⟨rfl, rfl⟩ := H
                                                              have p52 : 0 ≤ ((ji49) : Int) := of_decide_eq_true (by first | (with_reducible assumption) | assumption)
                                                              have q52 : (ji49) < (x10_5.size : Int) := of_decide_eq_true (by first | (with_reducible assumption) | assumption)
                                                              have hx52 := bt_at x10_5 (ji49)
                                                              replace p52 := eq_true p52
                                                              replace q52 := eq_true q52
                                                              go_wp2
                                                              go_ret2
                                                              exact ⟨by first | rfl | (simp [errW_none, errW_some] <;> rfl) | (simp only [← hji49]; first | rfl | (simp [errW_none, errW_some] <;> rfl)) | (simp [*, errW_none, errW_some] <;> rfl), by repeat (first | (with_reducible first | exact HB.out | apply below_alloc | apply pw_below_drewN | apply below_drew1 | refine below_set ?_ GE326.out) | exact HB.out)⟩
                                                            · rw [if_neg c58] at H
                                                              exact absurd H (by simp)
                                                          · rw [if_neg c57] at H
                                                            exact absurd H (by simp)
                                                        · rw [if_neg c56] at H
                                                          exact absurd H (by simp)
                                                    · rw [if_neg c51] at H
                                                      exact absurd H (by simp)
                                                  · rw [if_neg c50] at H
                                                    exact absurd H (by simp)
                                            · rw [if_neg c38] at H
                                              have c38b0 : decide (0 < a0_1) = false := decide_eq_false c38
                                              clear c38
                                              by_cases c59 : ((((((((((t331 ++ (⟨#[45]⟩ : ByteArray)) ++ t332) ++ (⟨#[45]⟩ : ByteArray)) ++ t333) ++ (⟨#[84]⟩ : ByteArray)) ++ t334) ++ (⟨#[58]⟩ : ByteArray)) ++ t335) ++ (⟨#[58]⟩ : ByteArray)) ++ t336).size + 1 ≤ 9223372036854775807
                                              · rw [if_pos c59] at H
                                                have c59b0 := eq_true c59
                                                have c59b1 : decide (((((((((((t331 ++ (⟨#[45]⟩ : ByteArray)) ++ t332) ++ (⟨#[45]⟩ : ByteArray)) ++ t333) ++ (⟨#[84]⟩ : ByteArray)) ++ t334) ++ (⟨#[58]⟩ : ByteArray)) ++ t335) ++ (⟨#[58]⟩ : ByteArray)) ++ t336).size + 1 ≤ 9223372036854775807) = true := decide_eq_true c59
                                                try have c59b2 : (9223372036854775807 < ((((((((((t331 ++ (⟨#[45]⟩ : ByteArray)) ++ t332) ++ (⟨#[45]⟩ : ByteArray)) ++ t333) ++ (⟨#[84]⟩ : ByteArray)) ++ t334) ++ (⟨#[58]⟩ : ByteArray)) ++ t335) ++ (⟨#[58]⟩ : ByteArray)) ++ t336).size + 1) = False := eq_false (Nat.not_lt.2 c59)
                                                try have c59b3 : (9223372036854775807 < t331.size + 1 + t332.size + 1 + t333.size + 1 + t334.size + 1 + t335.size + 1 + t336.size + 1) = False := eq_false (by have h_ := c59; simp only [ByteArray.size_append] at h_; exact Nat.not_lt.2 h_)
                                                simp only [Option.some.injEq, Prod.mk.injEq] at H
                                                obtain ⟨rfl, rfl⟩ := H
                                                go_wp2_with (first | ((with_reducible refine gate_callee (f := 42) rfl ?_); refine goesL_ (some 63) rfl rfl Tryd.func42 (by kernel_rfl) rfl #[.int .i64 x5_3, .int .i64 x6_16, .int .i64 1] rfl (by (try simp only [List.map_toArray, List.map_cons, List.map_nil]); first | done | rfl | (simp only [List.length_drop, List.length_take]; rfl) | (simp only [Int.tmod_tmod_of_dvd _ (show (60 : Int) ∣ 86400 by decide)]; rfl)) ?_; (with_reducible refine (broadsheetref11_since.calls kj16 x5_3 x6_16 1 t330 _ A21.out).mono ?_); rintro e w' ⟨rfl, ⟨nd, rfl⟩⟩; refine ⟨_, rfl, ?_⟩; have hcz60_0 : wc.cell? ⟨gb326, 0, none⟩ = some (.int .i64 a0_0) := (blk_cell BK326.out 0).trans rfl; have hcz60_1 : wc.cell? ⟨gb326, 1, none⟩ = some (.int .i64 a0_1) := (blk_cell BK326.out 1).trans rfl; have hfz60_0 := blk_frozen BK326.out 0; have hfz60_1 := blk_frozen BK326.out 1) | ((with_reducible refine gate_callee (f := 43) rfl ?_); refine goesL_ (some 71) rfl rfl Tryd.func43 (by kernel_rfl) rfl #[.int .i64 x5_3, .int .i64 4] rfl (by (try simp only [List.map_toArray, List.map_cons, List.map_nil]); first | done | rfl | (simp only [List.length_drop, List.length_take]; rfl) | (simp only [Int.tmod_tmod_of_dvd _ (show (60 : Int) ∣ 86400 by decide)]; rfl)) ?_; (with_reducible refine (broadsheetref11_pad.calls kj16 x5_3 4 t331 _ A22.out).mono ?_); rintro e w61 ⟨rfl, hb⟩; refine ⟨_, rfl, ?_⟩; have n0_ := Aside0.mk (blk_below (g := gb326) (o := .cells #[.int .i64 a0_0, .int .i64 a0_1] 50 (0, 0)) (by (with_reducible repeat (first | refine blk_drewN ?_ _ | refine blk_drew ?_ | refine blk_alloc ?_ _)); exact BK326.out) hb); have n1_ := Aside0.mk (below_step (by repeat (first | (with_reducible first | exact HB.out | apply below_alloc | apply pw_below_drewN | apply below_drew1 | refine below_set ?_ GE326.out) | exact HB.out)) hb); clear BK326; clear HB; have BK326 := n0_; have HB := n1_; clear n0_ n1_; (try clear hb); (try clear hb2); (try clear hk); (try clear hi)) | ((with_reducible refine gate_callee (f := 43) rfl ?_); refine goesL_ (some 74) rfl rfl Tryd.func43 (by kernel_rfl) rfl #[.int .i64 x6_16, .int .i64 2] rfl (by (try simp only [List.map_toArray, List.map_cons, List.map_nil]); first | done | rfl | (simp only [List.length_drop, List.length_take]; rfl) | (simp only [Int.tmod_tmod_of_dvd _ (show (60 : Int) ∣ 86400 by decide)]; rfl)) ?_; (with_reducible refine (broadsheetref11_pad.calls kj16 x6_16 2 t332 _ A24.out).mono ?_); rintro e w62 ⟨rfl, hb⟩; refine ⟨_, rfl, ?_⟩; have n0_ := Aside0.mk (blk_below (g := gb326) (o := .cells #[.int .i64 a0_0, .int .i64 a0_1] 50 (0, 0)) (by (with_reducible repeat (first | refine blk_drewN ?_ _ | refine blk_drew ?_ | refine blk_alloc ?_ _)); exact BK326.out) hb); have n1_ := Aside0.mk (below_step (by repeat (first | (with_reducible first | exact HB.out | apply below_alloc | apply pw_below_drewN | apply below_drew1 | refine below_set ?_ GE326.out) | exact HB.out)) hb); clear BK326; clear HB; have BK326 := n0_; have HB := n1_; clear n0_ n1_; (try clear hb); (try clear hb2); (try clear hk); (try clear hi)) | ((with_reducible refine gate_callee (f := 43) rfl ?_); refine goesL_ (some 78) rfl rfl Tryd.func43 (by kernel_rfl) rfl #[.int .i64 (wrap64 ((wrap64 ((wrap64 ((wrap64 (Int.tdiv (wrap64 (a0_0 + 62167219200)) 86400)) - 719528)) - t330)) + 1)), .int .i64 2] rfl (by (try simp only [List.map_toArray, List.map_cons, List.map_nil]); first | done | rfl | (simp only [List.length_drop, List.length_take]; rfl) | (simp only [Int.tmod_tmod_of_dvd _ (show (60 : Int) ∣ 86400 by decide)]; rfl)) ?_; (with_reducible refine (broadsheetref11_pad.calls kj16 (wrap64 ((wrap64 ((wrap64 ((wrap64 (Int.tdiv (wrap64 (a0_0 + 62167219200)) 86400)) - 719528)) - t330)) + 1)) 2 t333 _ A27.out).mono ?_); rintro e w63 ⟨rfl, hb⟩; refine ⟨_, rfl, ?_⟩; have n0_ := Aside0.mk (blk_below (g := gb326) (o := .cells #[.int .i64 a0_0, .int .i64 a0_1] 50 (0, 0)) (by (with_reducible repeat (first | refine blk_drewN ?_ _ | refine blk_drew ?_ | refine blk_alloc ?_ _)); exact BK326.out) hb); have n1_ := Aside0.mk (below_step (by repeat (first | (with_reducible first | exact HB.out | apply below_alloc | apply pw_below_drewN | apply below_drew1 | refine below_set ?_ GE326.out) | exact HB.out)) hb); clear BK326; clear HB; have BK326 := n0_; have HB := n1_; clear n0_ n1_; (try clear hb); (try clear hb2); (try clear hk); (try clear hi)) | ((with_reducible refine gate_callee (f := 43) rfl ?_); refine goesL_ (some 83) rfl rfl Tryd.func43 (by kernel_rfl) rfl #[.int .i64 (wrap64 (Int.tdiv (Int.tmod (wrap64 (a0_0 + 62167219200)) 86400) 3600)), .int .i64 2] rfl (by (try simp only [List.map_toArray, List.map_cons, List.map_nil]); first | done | rfl | (simp only [List.length_drop, List.length_take]; rfl) | (simp only [Int.tmod_tmod_of_dvd _ (show (60 : Int) ∣ 86400 by decide)]; rfl)) ?_; (with_reducible refine (broadsheetref11_pad.calls kj16 (wrap64 (Int.tdiv (Int.tmod (wrap64 (a0_0 + 62167219200)) 86400) 3600)) 2 t334 _ A30.out).mono ?_); rintro e w64 ⟨rfl, hb⟩; refine ⟨_, rfl, ?_⟩; have n0_ := Aside0.mk (blk_below (g := gb326) (o := .cells #[.int .i64 a0_0, .int .i64 a0_1] 50 (0, 0)) (by (with_reducible repeat (first | refine blk_drewN ?_ _ | refine blk_drew ?_ | refine blk_alloc ?_ _)); exact BK326.out) hb); have n1_ := Aside0.mk (below_step (by repeat (first | (with_reducible first | exact HB.out | apply below_alloc | apply pw_below_drewN | apply below_drew1 | refine below_set ?_ GE326.out) | exact HB.out)) hb); clear BK326; clear HB; have BK326 := n0_; have HB := n1_; clear n0_ n1_; (try clear hb); (try clear hb2); (try clear hk); (try clear hi)) | ((with_reducible refine gate_callee (f := 43) rfl ?_); refine goesL_ (some 89) rfl rfl Tryd.func43 (by kernel_rfl) rfl #[.int .i64 (Int.tmod (wrap64 (Int.tdiv (Int.tmod (wrap64 (a0_0 + 62167219200)) 86400) 60)) 60), .int .i64 2] rfl (by (try simp only [List.map_toArray, List.map_cons, List.map_nil]); first | done | rfl | (simp only [List.length_drop, List.length_take]; rfl) | (simp only [Int.tmod_tmod_of_dvd _ (show (60 : Int) ∣ 86400 by decide)]; rfl)) ?_; (with_reducible refine (broadsheetref11_pad.calls kj16 (Int.tmod (wrap64 (Int.tdiv (Int.tmod (wrap64 (a0_0 + 62167219200)) 86400) 60)) 60) 2 t335 _ A33.out).mono ?_); rintro e w65 ⟨rfl, hb⟩; refine ⟨_, rfl, ?_⟩; have n0_ := Aside0.mk (blk_below (g := gb326) (o := .cells #[.int .i64 a0_0, .int .i64 a0_1] 50 (0, 0)) (by (with_reducible repeat (first | refine blk_drewN ?_ _ | refine blk_drew ?_ | refine blk_alloc ?_ _)); exact BK326.out) hb); have n1_ := Aside0.mk (below_step (by repeat (first | (with_reducible first | exact HB.out | apply below_alloc | apply pw_below_drewN | apply below_drew1 | refine below_set ?_ GE326.out) | exact HB.out)) hb); clear BK326; clear HB; have BK326 := n0_; have HB := n1_; clear n0_ n1_; (try clear hb); (try clear hb2); (try clear hk); (try clear hi)) | ((with_reducible refine gate_callee (f := 43) rfl ?_); refine goesL_ (some 94) rfl rfl Tryd.func43 (by kernel_rfl) rfl #[.int .i64 (Int.tmod (Int.tmod (wrap64 (a0_0 + 62167219200)) 86400) 60), .int .i64 2] rfl (by (try simp only [List.map_toArray, List.map_cons, List.map_nil]); first | done | rfl | (simp only [List.length_drop, List.length_take]; rfl) | (simp only [Int.tmod_tmod_of_dvd _ (show (60 : Int) ∣ 86400 by decide)]; rfl)) ?_; (with_reducible refine (broadsheetref11_pad.calls kj16 (Int.tmod (Int.tmod (wrap64 (a0_0 + 62167219200)) 86400) 60) 2 t336 _ A36.out).mono ?_); rintro e w66 ⟨rfl, hb⟩; refine ⟨_, rfl, ?_⟩; have n0_ := Aside0.mk (blk_below (g := gb326) (o := .cells #[.int .i64 a0_0, .int .i64 a0_1] 50 (0, 0)) (by (with_reducible repeat (first | refine blk_drewN ?_ _ | refine blk_drew ?_ | refine blk_alloc ?_ _)); exact BK326.out) hb); have n1_ := Aside0.mk (below_step (by repeat (first | (with_reducible first | exact HB.out | apply below_alloc | apply pw_below_drewN | apply below_drew1 | refine below_set ?_ GE326.out) | exact HB.out)) hb); clear BK326; clear HB; have BK326 := n0_; have HB := n1_; clear n0_ n1_; (try clear hb); (try clear hb2); (try clear hk); (try clear hi); have hcz67_0 : w66.cell? ⟨gb326, 0, none⟩ = some (.int .i64 a0_0) := (blk_cell BK326.out 0).trans rfl; have hcz67_1 : w66.cell? ⟨gb326, 1, none⟩ = some (.int .i64 a0_1) := (blk_cell BK326.out 1).trans rfl; have hfz67_0 := blk_frozen BK326.out 0; have hfz67_1 := blk_frozen BK326.out 1))
                                                go_ret2
                                                exact ⟨by first | rfl | (simp [errW_none, errW_some] <;> rfl) | (simp [*, errW_none, errW_some] <;> rfl), by repeat (first | (with_reducible first | exact HB.out | apply below_alloc | apply pw_below_drewN | apply below_drew1 | refine below_set ?_ GE326.out) | exact HB.out)⟩
                                              · rw [if_neg c59] at H
                                                exact absurd H (by simp)
                                          · rw [if_neg c37] at H
                                            exact absurd H (by simp)
                                        · rw [if_neg c35] at H
                                          exact absurd H (by simp)
                                      · rw [if_neg c34] at H
                                        exact absurd H (by simp)
                                    · rw [if_neg c32] at H
                                      exact absurd H (by simp)
                                  · rw [if_neg c31] at H
                                    exact absurd H (by simp)
                                · rw [if_neg c29] at H
                                  exact absurd H (by simp)
                              · rw [if_neg c28] at H
                                exact absurd H (by simp)
                            · rw [if_neg c26] at H
                              exact absurd H (by simp)
                          · rw [if_neg c25] at H
                            exact absurd H (by simp)
                        · rw [if_neg c23] at H
                          exact absurd H (by simp)
end Go.Proofs.YtjbckpoepfbgbaaDoor.Pr
