-- Written by given.py, a program of this session, over the kit's printer.
import Derived.Test.YtjbfjgaghjggpaaGv
import Derived.Test.YtjbfjgaghjggpaaByt
import Derived.Test.YtjbfjgaghjggpaaPrx0
import Derived.Test.YtjbfjgaghjggpaaPrx2
namespace Go.Proofs.Ytjbfjgaghjggpaa.Pr
open Go.RowKit Go.Proofs.YtjbfjgaghjggpaaW.PrintWords Go.Proofs.YtjbfjgaghjggpaaW.PrintLast Go.Proofs.YtjbfjgaghjggpaaW.PrintMore
attribute [local go_sem] max2_int min2_int max_two min_two max_three min_three max_four min_four   -- for this text's walks alone
set_option linter.unusedVariables false
set_option linter.unusedSimpArgs false

/-! ### broadsheetlaw22_PagingOrder: function 3 -/
mutual
def broadsheetlaw22_PagingOrder.l0 : Nat → Bool → List (S32) → List (S32) → Int → Option (Bool)
  | 0, _, _, _, _ => none
  | k + 1, x3, x4, x5, x6 => if x6 < (x5.length : Int) then (broadsheetlaw22_PagingOrder.l1 k x3 x4 x5 x6 0 0) else (some x3)
def broadsheetlaw22_PagingOrder.l1 : Nat → Bool → List (S32) → List (S32) → Int → Int → Int → Option (Bool)
  | 0, _, _, _, _, _, _ => none
  | k + 1, x3, x4, x5, x6, x7, x8 => if x8 < (x5.length : Int) then (if 0 ≤ x8 then (if 0 ≤ x6 then (if x6 < (x4.length : Int) then (if ((rd_T32 x5 x8).f2).toList = ((rd_T32 x4 x6).f2).toList then (broadsheetlaw22_PagingOrder.l1 k x3 x4 x5 x6 (wrap64 (x7 + 1)) (wrap64 (x8 + 1))) else (broadsheetlaw22_PagingOrder.l1 k x3 x4 x5 x6 x7 (wrap64 (x8 + 1)))) else (none)) else (none)) else (none)) else (if x7 = 1 then (if x6 > 0 then (if 0 ≤ (wrap64 (x6 - 1)) then (if (wrap64 (x6 - 1)) < (x5.length : Int) then (if 0 ≤ x6 then (if x6 < (x5.length : Int) then (if ((rd_T32 x5 (wrap64 (x6 - 1))).f1) < ((rd_T32 x5 x6).f1) then (some false) else (if ((rd_T32 x5 (wrap64 (x6 - 1))).f1) = ((rd_T32 x5 x6).f1) then (if ((rd_T32 x5 (wrap64 (x6 - 1))).f0) < ((rd_T32 x5 x6).f0) then (some false) else (if ((rd_T32 x5 (wrap64 (x6 - 1))).f0) = ((rd_T32 x5 x6).f0) then (if (Op.bytesLess (((rd_T32 x5 x6).f2).toList) (((rd_T32 x5 (wrap64 (x6 - 1))).f2).toList)) = true then (some false) else (broadsheetlaw22_PagingOrder.l0 k x3 x4 x5 (wrap64 (x6 + 1)))) else (broadsheetlaw22_PagingOrder.l0 k x3 x4 x5 (wrap64 (x6 + 1))))) else (broadsheetlaw22_PagingOrder.l0 k x3 x4 x5 (wrap64 (x6 + 1))))) else (none)) else (none)) else (none)) else (none)) else (broadsheetlaw22_PagingOrder.l0 k x3 x4 x5 (wrap64 (x6 + 1)))) else (some false))
end
def broadsheetlaw22_PagingOrder.f (k : Nat) (l0 : List (S47)) : Option (Bool) := (Go.Proofs.Ytjbfjgaghjggpaa.Gv.broadsheetlaw22_awake.f).bind fun t109 => (if t109 = true then ((broadsheetlaw22_Members.f k l0).bind fun t110 => ((Go.Proofs.Ytjbfjgaghjggpaa.Gv.paging_Order.f t110).bind fun t113 => (if (t113.length : Int) = (t110.length : Int) then (broadsheetlaw22_PagingOrder.l0 k t109 t110 t113 0) else (some false)))) else (some false))
theorem broadsheetlaw22_PagingOrder.mono_l : ∀ k, (∀ y0 y1 y2 y3, LeO (broadsheetlaw22_PagingOrder.l0 k y0 y1 y2 y3) (broadsheetlaw22_PagingOrder.l0 (k + 1) y0 y1 y2 y3)) ∧ (∀ y0 y1 y2 y3 y4 y5, LeO (broadsheetlaw22_PagingOrder.l1 k y0 y1 y2 y3 y4 y5) (broadsheetlaw22_PagingOrder.l1 (k + 1) y0 y1 y2 y3 y4 y5))
  | 0 => ⟨fun _ _ _ _ r h => by simp [broadsheetlaw22_PagingOrder.l0] at h, fun _ _ _ _ _ _ r h => by simp [broadsheetlaw22_PagingOrder.l1] at h⟩
  | k + 1 => by
    obtain ⟨ih0, ih1⟩ := broadsheetlaw22_PagingOrder.mono_l k
    refine ⟨?_, ?_⟩
    · intro y0 y1 y2 y3
      unfold broadsheetlaw22_PagingOrder.l0
      repeat' first
      | (with_reducible exact ih0 _ _ _ _)
      | (with_reducible exact ih1 _ _ _ _ _ _)
      | (with_reducible exact broadsheetlaw22_Members.mono _ _)
      | (with_reducible exact LeO.refl _)
      | (with_reducible exact LeO.none _)
      | (with_reducible refine LeO.ite ?_ ?_)
      | (with_reducible refine LeO.bind ?_ (fun _ => ?_))
      | exact ih0 _ _ _ _
      | exact ih1 _ _ _ _ _ _
      | exact broadsheetlaw22_Members.mono _ _
      | exact LeO.none _
      | refine LeO.ite ?_ ?_
      | refine LeO.bind ?_ (fun _ => ?_)
    · intro y0 y1 y2 y3 y4 y5
      unfold broadsheetlaw22_PagingOrder.l1
      repeat' first
      | (with_reducible exact ih0 _ _ _ _)
      | (with_reducible exact ih1 _ _ _ _ _ _)
      | (with_reducible exact broadsheetlaw22_Members.mono _ _)
      | (with_reducible exact LeO.refl _)
      | (with_reducible exact LeO.none _)
      | (with_reducible refine LeO.ite ?_ ?_)
      | (with_reducible refine LeO.bind ?_ (fun _ => ?_))
      | exact ih0 _ _ _ _
      | exact ih1 _ _ _ _ _ _
      | exact broadsheetlaw22_Members.mono _ _
      | exact LeO.none _
      | refine LeO.ite ?_ ?_
      | refine LeO.bind ?_ (fun _ => ?_)
theorem broadsheetlaw22_PagingOrder.mono : ∀ a0 k, LeO (broadsheetlaw22_PagingOrder.f k a0) (broadsheetlaw22_PagingOrder.f (k + 1) a0) := by
  intro a0 k
  obtain ⟨ih0, ih1⟩ := broadsheetlaw22_PagingOrder.mono_l k
  unfold broadsheetlaw22_PagingOrder.f
  repeat' first
      | (with_reducible exact ih0 _ _ _ _)
      | (with_reducible exact ih1 _ _ _ _ _ _)
      | (with_reducible exact broadsheetlaw22_Members.mono _ _)
      | (with_reducible exact LeO.refl _)
      | (with_reducible exact LeO.none _)
      | (with_reducible refine LeO.ite ?_ ?_)
      | (with_reducible refine LeO.bind ?_ (fun _ => ?_))
      | exact ih0 _ _ _ _
      | exact ih1 _ _ _ _ _ _
      | exact broadsheetlaw22_Members.mono _ _
      | exact LeO.none _
      | refine LeO.ite ?_ ?_
      | refine LeO.bind ?_ (fun _ => ?_)
set_option maxHeartbeats 8000000 in
set_option maxRecDepth 100000 in
theorem broadsheetlaw22_PagingOrder.calls (k : Nat) (A0 : Option Addr) (c0 : Nat) (l0 : List (S47)) (r : Bool) (w : World) (hr0 : Kd.C k47 w A0 l0.length l0) (hc0 : l0.length ≤ c0) (h : broadsheetlaw22_PagingOrder.f k l0 = some r) :
    Calls Try.prog 3 #[.slice A0 l0.length c0] w fun e w' => e = .returned (.bool r) ∧ Below w.heap.size w w' := by
  have HR0 := Aside0.mk hr0
  have HC0 := Aside0.mk hc0
  clear hr0 hc0
  have HB := Aside0.mk (Below.refl w.heap.size w)
  have H : ((Go.Proofs.Ytjbfjgaghjggpaa.Gv.broadsheetlaw22_awake.f).bind fun t109 => (if t109 = true then ((broadsheetlaw22_Members.f k l0).bind fun t110 => ((Go.Proofs.Ytjbfjgaghjggpaa.Gv.paging_Order.f t110).bind fun t113 => (if (t113.length : Int) = (t110.length : Int) then (broadsheetlaw22_PagingOrder.l0 k t109 t110 t113 0) else (some false)))) else (some false))) = some r := h
  clear h
  replace H := Option.bind_eq_some_iff.mp H
  obtain ⟨t109, A20, H⟩ := H
  replace H : (if t109 = true then ((broadsheetlaw22_Members.f k l0).bind fun t110 => ((Go.Proofs.Ytjbfjgaghjggpaa.Gv.paging_Order.f t110).bind fun t113 => (if (t113.length : Int) = (t110.length : Int) then (broadsheetlaw22_PagingOrder.l0 k t109 t110 t113 0) else (some false)))) else (some false)) = some r := H
  have A2 := Aside0.mk A20
  clear A20
  by_cases c3 : t109 = true
  · subst c3
    have H1 : ((broadsheetlaw22_Members.f k l0).bind fun t110 => ((Go.Proofs.Ytjbfjgaghjggpaa.Gv.paging_Order.f t110).bind fun t113 => (if (t113.length : Int) = (t110.length : Int) then (broadsheetlaw22_PagingOrder.l0 k true t110 t113 0) else (some false)))) = some r := by rw [if_pos rfl] at H; exact H
    clear H
    have H := H1
    clear H1
    replace H := Option.bind_eq_some_iff.mp H
    obtain ⟨t110, A40, H⟩ := H
    replace H : ((Go.Proofs.Ytjbfjgaghjggpaa.Gv.paging_Order.f t110).bind fun t113 => (if (t113.length : Int) = (t110.length : Int) then (broadsheetlaw22_PagingOrder.l0 k true t110 t113 0) else (some false))) = some r := H
    have A4 := Aside0.mk A40
    clear A40
    replace H := Option.bind_eq_some_iff.mp H
    obtain ⟨t113, A50, H⟩ := H
    replace H : (if (t113.length : Int) = (t110.length : Int) then (broadsheetlaw22_PagingOrder.l0 k true t110 t113 0) else (some false)) = some r := H
    have A5 := Aside0.mk A50
    clear A50
    by_cases c6 : (t113.length : Int) = (t110.length : Int)
    · rw [if_pos c6] at H
      have c6b0 : ((t113.length : Int) == (t110.length : Int)) = true := beq_iff_eq.mpr c6
      have c6b1 : ((t113.length : Int) != (t110.length : Int)) = false := bne_eq_false_iff_eq.mpr c6
      have c6b2 : (t113.length == t110.length) = true := by first | simpa using c6 | (simp at c6 ⊢; omega)
      clear c6
      have H' := Aside0.mk H
      clear H
      go_enter Try.func3, Try.ntmps3
      go_wp2_with (first | (go_at_call 7; (with_reducible refine (Go.Proofs.Ytjbfjgaghjggpaa.Gv.broadsheetlaw22_awake.calls  true _ A2.out).mono ?_); rintro e w7 ⟨rfl, hb⟩; have n0_ := Aside0.mk (below_step (by repeat (first | (with_reducible first | exact HB.out | apply below_alloc | apply pw_below_drewN | apply below_drew1) | exact HB.out)) hb); clear HB; have HB := n0_; clear n0_; (try clear hb); (try clear hb2); (try clear hk); (try clear hi)) | (go_at_call 8; (with_reducible refine (broadsheetlaw22_Members.calls k _ _ l0 t110 _ ?side1 ?side2 A4.out).mono ?_); (case side1 => repeat (first | exact (Kd.C_below HR0.out HB.out) | (with_reducible refine Kd.C_alloc ?_ _) | (with_reducible refine Kd.C_drewN ?_ _) | (with_reducible refine Kd.C_drew ?_))); (case side2 => exact HC0.out); rintro e w8 ⟨v111, rfl, ho0, hb⟩; have n0_ := Aside0.mk (Kd.R_lower ho0 (below_size (by repeat (first | (with_reducible first | exact HB.out | apply below_alloc | apply pw_below_drewN | apply below_drew1) | exact HB.out)))); have n1_ := Aside0.mk (below_step (by repeat (first | (with_reducible first | exact HB.out | apply below_alloc | apply pw_below_drewN | apply below_drew1) | exact HB.out)) hb); clear HB; have HO112 := n0_; have HB := n1_; clear n0_ n1_; (try clear hb); (try clear hb2); (try clear hk); (try clear hi); (try clear ho0); obtain ⟨Ao9, co9, eo9⟩ := Kd.R_slice HO112.out; subst eo9) | (go_at_call 9; (with_reducible refine (Go.Proofs.Ytjbfjgaghjggpaa.Gv.paging_Order.calls (fun k_ => True) _ _ t110 t113 _ ?side1 A5.out).mono ?_); (case side1 => exact Kd.R_V (HO112.out)); rintro e w10 ⟨v114, rfl, ho0, hb⟩; have n0_ := Aside0.mk (Kd.R_below (by (with_reducible repeat (first | apply Kd.R_alloc | apply Kd.R_drewN | apply Kd.R_drew)); exact HO112.out) hb); have n1_ := Aside0.mk (Kd.V_lower (Kd.V_mono (ok' := fun k_ => True) ho0 (fun k_ hk_ => trivial)) (below_size (by repeat (first | (with_reducible first | exact HB.out | apply below_alloc | apply pw_below_drewN | apply below_drew1) | exact HB.out)))); have n2_ := Aside0.mk (below_step (by repeat (first | (with_reducible first | exact HB.out | apply below_alloc | apply pw_below_drewN | apply below_drew1) | exact HB.out)) hb); clear HO112; clear HB; have HO112 := n0_; have HO115 := n1_; have HB := n2_; clear n0_ n1_ n2_; (try clear hb); (try clear hb2); (try clear hk); (try clear hi); (try clear ho0); obtain ⟨Ao11, co11, eo11⟩ := Kd.V_slice HO115.out; subst eo11))
      repeat (go_quiet (first | (go_at_call 7; (with_reducible refine (Go.Proofs.Ytjbfjgaghjggpaa.Gv.broadsheetlaw22_awake.calls  true _ A2.out).mono ?_); rintro e w7 ⟨rfl, hb⟩; have n0_ := Aside0.mk (below_step (by repeat (first | (with_reducible first | exact HB.out | apply below_alloc | apply pw_below_drewN | apply below_drew1) | exact HB.out)) hb); clear HB; have HB := n0_; clear n0_; (try clear hb); (try clear hb2); (try clear hk); (try clear hi)) | (go_at_call 8; (with_reducible refine (broadsheetlaw22_Members.calls k _ _ l0 t110 _ ?side1 ?side2 A4.out).mono ?_); (case side1 => repeat (first | exact (Kd.C_below HR0.out HB.out) | (with_reducible refine Kd.C_alloc ?_ _) | (with_reducible refine Kd.C_drewN ?_ _) | (with_reducible refine Kd.C_drew ?_))); (case side2 => exact HC0.out); rintro e w8 ⟨v111, rfl, ho0, hb⟩; have n0_ := Aside0.mk (Kd.R_lower ho0 (below_size (by repeat (first | (with_reducible first | exact HB.out | apply below_alloc | apply pw_below_drewN | apply below_drew1) | exact HB.out)))); have n1_ := Aside0.mk (below_step (by repeat (first | (with_reducible first | exact HB.out | apply below_alloc | apply pw_below_drewN | apply below_drew1) | exact HB.out)) hb); clear HB; have HO112 := n0_; have HB := n1_; clear n0_ n1_; (try clear hb); (try clear hb2); (try clear hk); (try clear hi); (try clear ho0); obtain ⟨Ao9, co9, eo9⟩ := Kd.R_slice HO112.out; subst eo9) | (go_at_call 9; (with_reducible refine (Go.Proofs.Ytjbfjgaghjggpaa.Gv.paging_Order.calls (fun k_ => True) _ _ t110 t113 _ ?side1 A5.out).mono ?_); (case side1 => exact Kd.R_V (HO112.out)); rintro e w10 ⟨v114, rfl, ho0, hb⟩; have n0_ := Aside0.mk (Kd.R_below (by (with_reducible repeat (first | apply Kd.R_alloc | apply Kd.R_drewN | apply Kd.R_drew)); exact HO112.out) hb); have n1_ := Aside0.mk (Kd.V_lower (Kd.V_mono (ok' := fun k_ => True) ho0 (fun k_ hk_ => trivial)) (below_size (by repeat (first | (with_reducible first | exact HB.out | apply below_alloc | apply pw_below_drewN | apply below_drew1) | exact HB.out)))); have n2_ := Aside0.mk (below_step (by repeat (first | (with_reducible first | exact HB.out | apply below_alloc | apply pw_below_drewN | apply below_drew1) | exact HB.out)) hb); clear HO112; clear HB; have HO112 := n0_; have HO115 := n1_; have HB := n2_; clear n0_ n1_ n2_; (try clear hb); (try clear hb2); (try clear hk); (try clear hi); (try clear ho0); obtain ⟨Ao11, co11, eo11⟩ := Kd.V_slice HO115.out; subst eo11)); try go_wp2_with (first | (go_at_call 7; (with_reducible refine (Go.Proofs.Ytjbfjgaghjggpaa.Gv.broadsheetlaw22_awake.calls  true _ A2.out).mono ?_); rintro e w7 ⟨rfl, hb⟩; have n0_ := Aside0.mk (below_step (by repeat (first | (with_reducible first | exact HB.out | apply below_alloc | apply pw_below_drewN | apply below_drew1) | exact HB.out)) hb); clear HB; have HB := n0_; clear n0_; (try clear hb); (try clear hb2); (try clear hk); (try clear hi)) | (go_at_call 8; (with_reducible refine (broadsheetlaw22_Members.calls k _ _ l0 t110 _ ?side1 ?side2 A4.out).mono ?_); (case side1 => repeat (first | exact (Kd.C_below HR0.out HB.out) | (with_reducible refine Kd.C_alloc ?_ _) | (with_reducible refine Kd.C_drewN ?_ _) | (with_reducible refine Kd.C_drew ?_))); (case side2 => exact HC0.out); rintro e w8 ⟨v111, rfl, ho0, hb⟩; have n0_ := Aside0.mk (Kd.R_lower ho0 (below_size (by repeat (first | (with_reducible first | exact HB.out | apply below_alloc | apply pw_below_drewN | apply below_drew1) | exact HB.out)))); have n1_ := Aside0.mk (below_step (by repeat (first | (with_reducible first | exact HB.out | apply below_alloc | apply pw_below_drewN | apply below_drew1) | exact HB.out)) hb); clear HB; have HO112 := n0_; have HB := n1_; clear n0_ n1_; (try clear hb); (try clear hb2); (try clear hk); (try clear hi); (try clear ho0); obtain ⟨Ao9, co9, eo9⟩ := Kd.R_slice HO112.out; subst eo9) | (go_at_call 9; (with_reducible refine (Go.Proofs.Ytjbfjgaghjggpaa.Gv.paging_Order.calls (fun k_ => True) _ _ t110 t113 _ ?side1 A5.out).mono ?_); (case side1 => exact Kd.R_V (HO112.out)); rintro e w10 ⟨v114, rfl, ho0, hb⟩; have n0_ := Aside0.mk (Kd.R_below (by (with_reducible repeat (first | apply Kd.R_alloc | apply Kd.R_drewN | apply Kd.R_drew)); exact HO112.out) hb); have n1_ := Aside0.mk (Kd.V_lower (Kd.V_mono (ok' := fun k_ => True) ho0 (fun k_ hk_ => trivial)) (below_size (by repeat (first | (with_reducible first | exact HB.out | apply below_alloc | apply pw_below_drewN | apply below_drew1) | exact HB.out)))); have n2_ := Aside0.mk (below_step (by repeat (first | (with_reducible first | exact HB.out | apply below_alloc | apply pw_below_drewN | apply below_drew1) | exact HB.out)) hb); clear HO112; clear HB; have HO112 := n0_; have HO115 := n1_; have HB := n2_; clear n0_ n1_ n2_; (try clear hb); (try clear hb2); (try clear hk); (try clear hi); (try clear ho0); obtain ⟨Ao11, co11, eo11⟩ := Kd.V_slice HO115.out; subst eo11)))
      go_loopg [6] k (fun kq v6 w' => ∃ (x6_1 : Int), v6 = .int .i64 x6_1 ∧ Aside0 (broadsheetlaw22_PagingOrder.l0 kq true t110 t113 x6_1 = some r) ∧ Aside0 (kq ≤ k) ∧ Aside0 (Kd.R k32 32 w' w.heap.size (fun _ => True) (.slice Ao9 t110.length co9) t110) ∧ Aside0 (Kd.V k32 32 w' w.heap.size (fun _ => True) (.slice Ao11 t113.length co11) t113) ∧ Aside0 (Below w.heap.size w w'))
      case atStart => exact ⟨(0), (by first | rfl | (simp; done) | (simp [*]; done)), H', ⟨Nat.le_refl _⟩, ⟨by (with_reducible repeat (first | apply Kd.R_alloc | apply Kd.R_drewN | apply Kd.R_drew)); exact HO112.out⟩, ⟨by (with_reducible repeat (first | apply Kd.V_alloc | apply Kd.V_drewN | apply Kd.V_drew)); exact HO115.out⟩, ⟨by repeat (first | (with_reducible first | exact HB.out | apply below_alloc | apply pw_below_drewN | apply below_drew1) | exact HB.out)⟩⟩
      case round =>
        clear H'
        try clear p2
        try clear c3
        try clear c6
        try clear c6b0
        try clear c6b1
        try clear c6b2
        obtain ⟨x6_1, rfl, HA, HK1, HO_4, HO_5, HB⟩ := hrel
        cases gk with
        | zero => exact absurd HA.out (by simp [broadsheetlaw22_PagingOrder.l0])
        | succ k1 =>
          have H := HA.out
          clear HA
          simp only [broadsheetlaw22_PagingOrder.l0] at H
          by_cases c12 : x6_1 < (t113.length : Int)
          · rw [if_pos c12] at H
            have c12b0 : decide (x6_1 < (t113.length : Int)) = true := decide_eq_true c12
            clear c12
            have H' := Aside0.mk H
            clear H
            go_wp2
            repeat (go_quiet (fail); try go_wp2)
            go_loopg [7, 8] k1 (fun kq v7 v8 w' => ∃ (x7_2 : Int) (x8_2 : Int), v7 = .int .i64 x7_2 ∧ v8 = .int .i64 x8_2 ∧ Aside0 (broadsheetlaw22_PagingOrder.l1 kq true t110 t113 x6_1 x7_2 x8_2 = some r) ∧ Aside0 (kq ≤ k1) ∧ Aside0 (Kd.R k32 32 w' w.heap.size (fun _ => True) (.slice Ao9 t110.length co9) t110) ∧ Aside0 (Kd.V k32 32 w' w.heap.size (fun _ => True) (.slice Ao11 t113.length co11) t113) ∧ Aside0 (Below w.heap.size w w'))
            case atStart => exact ⟨(0), (0), (by first | rfl | (simp; done) | (simp [*]; done)), (by first | rfl | (simp; done) | (simp [*]; done)), H', ⟨Nat.le_refl _⟩, ⟨by (with_reducible repeat (first | apply Kd.R_alloc | apply Kd.R_drewN | apply Kd.R_drew)); exact HO_4.out⟩, ⟨by (with_reducible repeat (first | apply Kd.V_alloc | apply Kd.V_drewN | apply Kd.V_drew)); exact HO_5.out⟩, ⟨by repeat (first | (with_reducible first | exact HB.out | apply below_alloc | apply pw_below_drewN | apply below_drew1) | exact HB.out)⟩⟩
            case round =>
              clear H'
              try clear c1
              try clear p2
              try clear c3
              try clear c6
              try clear c6b0
              try clear c6b1
              try clear c6b2
              try clear c12
              try clear c12b0
              try clear p2
              obtain ⟨x7_2, x8_2, rfl, rfl, HA, HK2, HO_4, HO_5, HB⟩ := hrel
              cases gk with
              | zero => exact absurd HA.out (by simp [broadsheetlaw22_PagingOrder.l1])
              | succ k2 =>
                have H := HA.out
                clear HA
                simp only [broadsheetlaw22_PagingOrder.l1] at H
                by_cases c13 : x8_2 < (t113.length : Int)
                · rw [if_pos c13] at H
                  have c13b0 : decide (x8_2 < (t113.length : Int)) = true := decide_eq_true c13
                  clear c13
                  by_cases c14 : 0 ≤ x8_2
                  · rw [if_pos c14] at H
                    have c14b0 : decide (0 ≤ x8_2) = true := decide_eq_true c14
                    clear c14
                    by_cases c15 : 0 ≤ x6_1
                    · rw [if_pos c15] at H
                      have c15b0 : decide (0 ≤ x6_1) = true := decide_eq_true c15
                      clear c15
                      by_cases c16 : x6_1 < (t110.length : Int)
                      · rw [if_pos c16] at H
                        have c16b0 : decide (x6_1 < (t110.length : Int)) = true := decide_eq_true c16
                        clear c16
                        by_cases c17 : ((rd_T32 t113 x8_2).f2).toList = ((rd_T32 t110 x6_1).f2).toList
                        · rw [if_pos c17] at H
                          have c17b0 : (((rd_T32 t113 x8_2).f2).toList == ((rd_T32 t110 x6_1).f2).toList) = true := beq_iff_eq.mpr c17
                          have c17b1 : (((rd_T32 t113 x8_2).f2).toList != ((rd_T32 t110 x6_1).f2).toList) = false := bne_eq_false_iff_eq.mpr c17
                          clear c17
                          have H' := Aside0.mk H
                          clear H
                          have p116 : 0 ≤ (x8_2 : Int) := of_decide_eq_true (by first | (with_reducible assumption) | assumption)
                          have q116 : x8_2 < (t113.length : Int) := of_decide_eq_true (by first | (with_reducible assumption) | assumption)
                          obtain ⟨ad116, A116_6, c116_6, A116_7, c116_7, e116, hx116_0, hx116_1, hx116_2, hx116_3, hx116_4, hx116_5, hx116_6, hx116_7, hx116_8, hl116_6, hi116_6, hl116_7, hi116_7⟩ := at_T32 (Kd.V_reads' HO_5.out).2.2 x8_2 p116 q116
                          cases e116
                          obtain ⟨ce116, hce116, hMe116, hcc116⟩ := Kd.V_get HO_5.out z32 x8_2 p116 (by first | exact q116 | exact of_decide_eq_true (by first | (with_reducible assumption) | assumption) | (have e_ := (Kd.V_reads' HO_5.out).1; omega))
                          obtain ⟨ua116_6, uc116_6, ua116_7, uc116_7, rfl, ul116_6, ge116_6, ul116_7, ge116_7⟩ := k32_openF hMe116
                          have hv116_6 := hcc116 6 _ rfl
                          rw [add_field _ _ 6 (by omega)] at hv116_6
                          replace hv116_6 := Option.some.inj (hv116_6.symm.trans hx116_6)
                          injection hv116_6 with hva_ hvn_ hvc_
                          rw [hva_] at ge116_6
                          rw [hvc_] at ul116_6
                          have HL116_6 := Aside0.mk (show Kd.V k59 59 _ w.heap.size _ _ ((rd_T32 t113 x8_2).f3.f3) from Kd.V_mk ul116_6 ge116_6)
                          clear hva_ hvn_ hvc_ ge116_6 ul116_6
                          have hv116_7 := hcc116 7 _ rfl
                          rw [add_field _ _ 7 (by omega)] at hv116_7
                          replace hv116_7 := Option.some.inj (hv116_7.symm.trans hx116_7)
                          injection hv116_7 with hva_ hvn_ hvc_
                          rw [hva_] at ge116_7
                          rw [hvc_] at ul116_7
                          have HL116_7 := Aside0.mk (show Kd.V k30 30 _ w.heap.size _ _ ((rd_T32 t113 x8_2).f3.f4) from Kd.V_mk ul116_7 ge116_7)
                          clear hva_ hvn_ hvc_ ge116_7 ul116_7
                          clear hcc116 hce116
                          have HR116_6 := Aside0.mk hi116_6
                          have HC116_6 := Aside0.mk hl116_6
                          clear hi116_6 hl116_6
                          have HR116_7 := Aside0.mk hi116_7
                          have HC116_7 := Aside0.mk hl116_7
                          clear hi116_7 hl116_7
                          replace p116 := eq_true p116
                          replace q116 := eq_true q116
                          have p117 : 0 ≤ (x6_1 : Int) := of_decide_eq_true (by first | (with_reducible assumption) | assumption)
                          have q117 : x6_1 < (t110.length : Int) := of_decide_eq_true (by first | (with_reducible assumption) | assumption)
                          obtain ⟨ad117, A117_6, c117_6, A117_7, c117_7, e117, hx117_0, hx117_1, hx117_2, hx117_3, hx117_4, hx117_5, hx117_6, hx117_7, hx117_8, hl117_6, hi117_6, hl117_7, hi117_7⟩ := at_T32 (Kd.R_reads' HO_4.out).2.2 x6_1 p117 q117
                          cases e117
                          obtain ⟨ce117, hce117, hMe117, hcc117⟩ := Kd.R_get HO_4.out z32 x6_1 p117 (by first | exact q117 | exact of_decide_eq_true (by first | (with_reducible assumption) | assumption) | (have e_ := (Kd.R_reads' HO_4.out).1; omega))
                          obtain ⟨ve117_6, ve117_7, rfl, ge117_6, ge117_7⟩ := k32_openM hMe117
                          have hv117_6 := hcc117 6 _ rfl
                          rw [add_field _ _ 6 (by omega)] at hv117_6
                          replace hv117_6 := Option.some.inj (hv117_6.symm.trans hx117_6)
                          rw [hv117_6] at ge117_6
                          have HL117_6 := Aside0.mk (show Kd.R k59 59 _ _ _ _ ((rd_T32 t110 x6_1).f3.f3) from ge117_6)
                          clear hv117_6 ge117_6
                          have hv117_7 := hcc117 7 _ rfl
                          rw [add_field _ _ 7 (by omega)] at hv117_7
                          replace hv117_7 := Option.some.inj (hv117_7.symm.trans hx117_7)
                          rw [hv117_7] at ge117_7
                          have HL117_7 := Aside0.mk (show Kd.R k30 30 _ _ _ _ ((rd_T32 t110 x6_1).f3.f4) from ge117_7)
                          clear hv117_7 ge117_7
                          clear hcc117 hce117
                          have HR117_6 := Aside0.mk hi117_6
                          have HC117_6 := Aside0.mk hl117_6
                          clear hi117_6 hl117_6
                          have HR117_7 := Aside0.mk hi117_7
                          have HC117_7 := Aside0.mk hl117_7
                          clear hi117_7 hl117_7
                          replace p117 := eq_true p117
                          replace q117 := eq_true q117
                          go_wp2
                          repeat (go_quiet (fail); try go_wp2)
                          go_roundg k2
                          case measure => have := HK1.out; have := HK2.out; omega
                          case rel => exact ⟨(wrap64 (x7_2 + 1)), (wrap64 (x8_2 + 1)), (by first | rfl | (simp; done) | (simp [*]; done)), (by first | rfl | (simp; done) | (simp [*]; done)), H', ⟨by have := HK1.out; have := HK2.out; omega⟩, ⟨by (with_reducible repeat (first | apply Kd.R_alloc | apply Kd.R_drewN | apply Kd.R_drew)); exact HO_4.out⟩, ⟨by (with_reducible repeat (first | apply Kd.V_alloc | apply Kd.V_drewN | apply Kd.V_drew)); exact HO_5.out⟩, ⟨by repeat (first | (with_reducible first | exact HB.out | apply below_alloc | apply pw_below_drewN | apply below_drew1) | exact HB.out)⟩⟩
                        · rw [if_neg c17] at H
                          have c17b0 : (((rd_T32 t113 x8_2).f2).toList == ((rd_T32 t110 x6_1).f2).toList) = false := beq_eq_false_iff_ne.mpr c17
                          have c17b1 : (((rd_T32 t113 x8_2).f2).toList != ((rd_T32 t110 x6_1).f2).toList) = true := bne_iff_ne.mpr c17
                          have H' := Aside0.mk H
                          clear H
                          have p116 : 0 ≤ (x8_2 : Int) := of_decide_eq_true (by first | (with_reducible assumption) | assumption)
                          have q116 : x8_2 < (t113.length : Int) := of_decide_eq_true (by first | (with_reducible assumption) | assumption)
                          obtain ⟨ad116, A116_6, c116_6, A116_7, c116_7, e116, hx116_0, hx116_1, hx116_2, hx116_3, hx116_4, hx116_5, hx116_6, hx116_7, hx116_8, hl116_6, hi116_6, hl116_7, hi116_7⟩ := at_T32 (Kd.V_reads' HO_5.out).2.2 x8_2 p116 q116
                          cases e116
                          obtain ⟨ce116, hce116, hMe116, hcc116⟩ := Kd.V_get HO_5.out z32 x8_2 p116 (by first | exact q116 | exact of_decide_eq_true (by first | (with_reducible assumption) | assumption) | (have e_ := (Kd.V_reads' HO_5.out).1; omega))
                          obtain ⟨ua116_6, uc116_6, ua116_7, uc116_7, rfl, ul116_6, ge116_6, ul116_7, ge116_7⟩ := k32_openF hMe116
                          have hv116_6 := hcc116 6 _ rfl
                          rw [add_field _ _ 6 (by omega)] at hv116_6
                          replace hv116_6 := Option.some.inj (hv116_6.symm.trans hx116_6)
                          injection hv116_6 with hva_ hvn_ hvc_
                          rw [hva_] at ge116_6
                          rw [hvc_] at ul116_6
                          have HL116_6 := Aside0.mk (show Kd.V k59 59 _ w.heap.size _ _ ((rd_T32 t113 x8_2).f3.f3) from Kd.V_mk ul116_6 ge116_6)
                          clear hva_ hvn_ hvc_ ge116_6 ul116_6
                          have hv116_7 := hcc116 7 _ rfl
                          rw [add_field _ _ 7 (by omega)] at hv116_7
                          replace hv116_7 := Option.some.inj (hv116_7.symm.trans hx116_7)
                          injection hv116_7 with hva_ hvn_ hvc_
                          rw [hva_] at ge116_7
                          rw [hvc_] at ul116_7
                          have HL116_7 := Aside0.mk (show Kd.V k30 30 _ w.heap.size _ _ ((rd_T32 t113 x8_2).f3.f4) from Kd.V_mk ul116_7 ge116_7)
                          clear hva_ hvn_ hvc_ ge116_7 ul116_7
                          clear hcc116 hce116
                          have HR116_6 := Aside0.mk hi116_6
                          have HC116_6 := Aside0.mk hl116_6
                          clear hi116_6 hl116_6
                          have HR116_7 := Aside0.mk hi116_7
                          have HC116_7 := Aside0.mk hl116_7
                          clear hi116_7 hl116_7
                          replace p116 := eq_true p116
                          replace q116 := eq_true q116
                          have p117 : 0 ≤ (x6_1 : Int) := of_decide_eq_true (by first | (with_reducible assumption) | assumption)
                          have q117 : x6_1 < (t110.length : Int) := of_decide_eq_true (by first | (with_reducible assumption) | assumption)
                          obtain ⟨ad117, A117_6, c117_6, A117_7, c117_7, e117, hx117_0, hx117_1, hx117_2, hx117_3, hx117_4, hx117_5, hx117_6, hx117_7, hx117_8, hl117_6, hi117_6, hl117_7, hi117_7⟩ := at_T32 (Kd.R_reads' HO_4.out).2.2 x6_1 p117 q117
                          cases e117
                          obtain ⟨ce117, hce117, hMe117, hcc117⟩ := Kd.R_get HO_4.out z32 x6_1 p117 (by first | exact q117 | exact of_decide_eq_true (by first | (with_reducible assumption) | assumption) | (have e_ := (Kd.R_reads' HO_4.out).1; omega))
                          obtain ⟨ve117_6, ve117_7, rfl, ge117_6, ge117_7⟩ := k32_openM hMe117
                          have hv117_6 := hcc117 6 _ rfl
                          rw [add_field _ _ 6 (by omega)] at hv117_6
                          replace hv117_6 := Option.some.inj (hv117_6.symm.trans hx117_6)
                          rw [hv117_6] at ge117_6
                          have HL117_6 := Aside0.mk (show Kd.R k59 59 _ _ _ _ ((rd_T32 t110 x6_1).f3.f3) from ge117_6)
                          clear hv117_6 ge117_6
                          have hv117_7 := hcc117 7 _ rfl
                          rw [add_field _ _ 7 (by omega)] at hv117_7
                          replace hv117_7 := Option.some.inj (hv117_7.symm.trans hx117_7)
                          rw [hv117_7] at ge117_7
                          have HL117_7 := Aside0.mk (show Kd.R k30 30 _ _ _ _ ((rd_T32 t110 x6_1).f3.f4) from ge117_7)
                          clear hv117_7 ge117_7
                          clear hcc117 hce117
                          have HR117_6 := Aside0.mk hi117_6
                          have HC117_6 := Aside0.mk hl117_6
                          clear hi117_6 hl117_6
                          have HR117_7 := Aside0.mk hi117_7
                          have HC117_7 := Aside0.mk hl117_7
                          clear hi117_7 hl117_7
                          replace p117 := eq_true p117
                          replace q117 := eq_true q117
                          go_wp2
                          repeat (go_quiet (fail); try go_wp2)
                          go_roundg k2
                          case measure => have := HK1.out; have := HK2.out; omega
                          case rel => exact ⟨(x7_2), (wrap64 (x8_2 + 1)), (by first | rfl | (simp; done) | (simp [*]; done)), (by first | rfl | (simp; done) | (simp [*]; done)), H', ⟨by have := HK1.out; have := HK2.out; omega⟩, ⟨by (with_reducible repeat (first | apply Kd.R_alloc | apply Kd.R_drewN | apply Kd.R_drew)); exact HO_4.out⟩, ⟨by (with_reducible repeat (first | apply Kd.V_alloc | apply Kd.V_drewN | apply Kd.V_drew)); exact HO_5.out⟩, ⟨by repeat (first | (with_reducible first | exact HB.out | apply below_alloc | apply pw_below_drewN | apply below_drew1) | exact HB.out)⟩⟩
                      · rw [if_neg c16] at H
                        exact absurd H (by simp)
                    · rw [if_neg c15] at H
                      exact absurd H (by simp)
                  · rw [if_neg c14] at H
                    exact absurd H (by simp)
                · rw [if_neg c13] at H
                  have c13b0 : decide (x8_2 < (t113.length : Int)) = false := decide_eq_false c13
                  clear c13
                  by_cases c18 : x7_2 = 1
                  · rw [if_pos c18] at H
                    have c18b0 : (x7_2 == 1) = true := beq_iff_eq.mpr c18
                    have c18b1 : (x7_2 != 1) = false := bne_eq_false_iff_eq.mpr c18
                    clear c18
                    by_cases c19 : x6_1 > 0
                    · rw [if_pos c19] at H
                      have c19b0 : decide (0 < x6_1) = true := decide_eq_true c19
                      clear c19
                      obtain ⟨ji20, hji20⟩ : ∃ j_ : Int, (wrap64 (x6_1 - 1)) = j_ := ⟨_, rfl⟩
                      replace H : (if 0 ≤ (ji20) then (if (ji20) < (t113.length : Int) then (if 0 ≤ x6_1 then (if x6_1 < (t113.length : Int) then (if ((rd_T32 t113 (ji20)).f1) < ((rd_T32 t113 x6_1).f1) then (some false) else (if ((rd_T32 t113 (ji20)).f1) = ((rd_T32 t113 x6_1).f1) then (if ((rd_T32 t113 (ji20)).f0) < ((rd_T32 t113 x6_1).f0) then (some false) else (if ((rd_T32 t113 (ji20)).f0) = ((rd_T32 t113 x6_1).f0) then (if (Op.bytesLess (((rd_T32 t113 x6_1).f2).toList) (((rd_T32 t113 (ji20)).f2).toList)) = true then (some false) else (broadsheetlaw22_PagingOrder.l0 k2 true t110 t113 (wrap64 (x6_1 + 1)))) else (broadsheetlaw22_PagingOrder.l0 k2 true t110 t113 (wrap64 (x6_1 + 1))))) else (broadsheetlaw22_PagingOrder.l0 k2 true t110 t113 (wrap64 (x6_1 + 1))))) else (none)) else (none)) else (none)) else (none)) = some r := by first | (rw [hji20] at H; exact H) | (simp only [hji20] at H ⊢; exact H)
                      have hji20w : (IntKind.i64.wrap (x6_1 - 1)) = ji20 := (i64_w _).trans hji20
                      by_cases c21 : 0 ≤ (ji20)
                      · rw [if_pos c21] at H
                        have c21b0 : decide (0 ≤ (ji20)) = true := decide_eq_true c21
                        clear c21
                        by_cases c22 : (ji20) < (t113.length : Int)
                        · rw [if_pos c22] at H
                          have c22b0 : decide ((ji20) < (t113.length : Int)) = true := decide_eq_true c22
                          clear c22
                          by_cases c23 : 0 ≤ x6_1
                          · rw [if_pos c23] at H
                            have c23b0 : decide (0 ≤ x6_1) = true := decide_eq_true c23
                            clear c23
                            by_cases c24 : x6_1 < (t113.length : Int)
                            · rw [if_pos c24] at H
                              have c24b0 : decide (x6_1 < (t113.length : Int)) = true := decide_eq_true c24
                              clear c24
                              by_cases c25 : ((rd_T32 t113 (ji20)).f1) < ((rd_T32 t113 x6_1).f1)
                              · rw [if_pos c25] at H
                                have c25b0 : decide (((rd_T32 t113 (ji20)).f1) < ((rd_T32 t113 x6_1).f1)) = true := decide_eq_true c25
                                clear c25
                                obtain rfl := Option.some.inj H
                                have p118 : 0 ≤ ((ji20) : Int) := of_decide_eq_true (by first | (with_reducible assumption) | assumption)
                                have q118 : (ji20) < (t113.length : Int) := of_decide_eq_true (by first | (with_reducible assumption) | assumption)
                                obtain ⟨ad118, A118_6, c118_6, A118_7, c118_7, e118, hx118_0, hx118_1, hx118_2, hx118_3, hx118_4, hx118_5, hx118_6, hx118_7, hx118_8, hl118_6, hi118_6, hl118_7, hi118_7⟩ := at_T32 (Kd.V_reads' HO_5.out).2.2 (ji20) p118 q118
                                cases e118
                                obtain ⟨ce118, hce118, hMe118, hcc118⟩ := Kd.V_get HO_5.out z32 (ji20) p118 (by first | exact q118 | exact of_decide_eq_true (by first | (with_reducible assumption) | assumption) | (have e_ := (Kd.V_reads' HO_5.out).1; omega))
                                obtain ⟨ua118_6, uc118_6, ua118_7, uc118_7, rfl, ul118_6, ge118_6, ul118_7, ge118_7⟩ := k32_openF hMe118
                                have hv118_6 := hcc118 6 _ rfl
                                rw [add_field _ _ 6 (by omega)] at hv118_6
                                replace hv118_6 := Option.some.inj (hv118_6.symm.trans hx118_6)
                                injection hv118_6 with hva_ hvn_ hvc_
                                rw [hva_] at ge118_6
                                rw [hvc_] at ul118_6
                                have HL118_6 := Aside0.mk (show Kd.V k59 59 _ w.heap.size _ _ ((rd_T32 t113 (ji20)).f3.f3) from Kd.V_mk ul118_6 ge118_6)
                                clear hva_ hvn_ hvc_ ge118_6 ul118_6
                                have hv118_7 := hcc118 7 _ rfl
                                rw [add_field _ _ 7 (by omega)] at hv118_7
                                replace hv118_7 := Option.some.inj (hv118_7.symm.trans hx118_7)
                                injection hv118_7 with hva_ hvn_ hvc_
                                rw [hva_] at ge118_7
                                rw [hvc_] at ul118_7
                                have HL118_7 := Aside0.mk (show Kd.V k30 30 _ w.heap.size _ _ ((rd_T32 t113 (ji20)).f3.f4) from Kd.V_mk ul118_7 ge118_7)
                                clear hva_ hvn_ hvc_ ge118_7 ul118_7
                                clear hcc118 hce118
                                have HR118_6 := Aside0.mk hi118_6
                                have HC118_6 := Aside0.mk hl118_6
                                clear hi118_6 hl118_6
                                have HR118_7 := Aside0.mk hi118_7
                                have HC118_7 := Aside0.mk hl118_7
                                clear hi118_7 hl118_7
                                replace p118 := eq_true p118
                                replace q118 := eq_true q118
                                have p119 : 0 ≤ (x6_1 : Int) := of_decide_eq_true (by first | (with_reducible assumption) | assumption)
                                have q119 : x6_1 < (t113.length : Int) := of_decide_eq_true (by first | (with_reducible assumption) | assumption)
                                obtain ⟨ad119, A119_6, c119_6, A119_7, c119_7, e119, hx119_0, hx119_1, hx119_2, hx119_3, hx119_4, hx119_5, hx119_6, hx119_7, hx119_8, hl119_6, hi119_6, hl119_7, hi119_7⟩ := at_T32 (Kd.V_reads' HO_5.out).2.2 x6_1 p119 q119
                                obtain rfl : ad118 = ad119 := (by injection e119)
                                obtain ⟨ce119, hce119, hMe119, hcc119⟩ := Kd.V_get HO_5.out z32 x6_1 p119 (by first | exact q119 | exact of_decide_eq_true (by first | (with_reducible assumption) | assumption) | (have e_ := (Kd.V_reads' HO_5.out).1; omega))
                                obtain ⟨ua119_6, uc119_6, ua119_7, uc119_7, rfl, ul119_6, ge119_6, ul119_7, ge119_7⟩ := k32_openF hMe119
                                have hv119_6 := hcc119 6 _ rfl
                                rw [add_field _ _ 6 (by omega)] at hv119_6
                                replace hv119_6 := Option.some.inj (hv119_6.symm.trans hx119_6)
                                injection hv119_6 with hva_ hvn_ hvc_
                                rw [hva_] at ge119_6
                                rw [hvc_] at ul119_6
                                have HL119_6 := Aside0.mk (show Kd.V k59 59 _ w.heap.size _ _ ((rd_T32 t113 x6_1).f3.f3) from Kd.V_mk ul119_6 ge119_6)
                                clear hva_ hvn_ hvc_ ge119_6 ul119_6
                                have hv119_7 := hcc119 7 _ rfl
                                rw [add_field _ _ 7 (by omega)] at hv119_7
                                replace hv119_7 := Option.some.inj (hv119_7.symm.trans hx119_7)
                                injection hv119_7 with hva_ hvn_ hvc_
                                rw [hva_] at ge119_7
                                rw [hvc_] at ul119_7
                                have HL119_7 := Aside0.mk (show Kd.V k30 30 _ w.heap.size _ _ ((rd_T32 t113 x6_1).f3.f4) from Kd.V_mk ul119_7 ge119_7)
                                clear hva_ hvn_ hvc_ ge119_7 ul119_7
                                clear hcc119 hce119
                                have HR119_6 := Aside0.mk hi119_6
                                have HC119_6 := Aside0.mk hl119_6
                                clear hi119_6 hl119_6
                                have HR119_7 := Aside0.mk hi119_7
                                have HC119_7 := Aside0.mk hl119_7
                                clear hi119_7 hl119_7
                                replace p119 := eq_true p119
                                replace q119 := eq_true q119
                                go_wp2
                                repeat (go_quiet (fail); try go_wp2)
                                go_ret
                                exact ⟨by first | rfl | (simp [errW_none, errW_some] <;> rfl) | (simp only [← hji20]; first | rfl | (simp [errW_none, errW_some] <;> rfl)) | (simp [*, errW_none, errW_some] <;> rfl), by repeat (first | (with_reducible first | exact HB.out | apply below_alloc | apply pw_below_drewN | apply below_drew1) | exact HB.out)⟩
                              · rw [if_neg c25] at H
                                have c25b0 : decide (((rd_T32 t113 (ji20)).f1) < ((rd_T32 t113 x6_1).f1)) = false := decide_eq_false c25
                                clear c25
                                by_cases c26 : ((rd_T32 t113 (ji20)).f1) = ((rd_T32 t113 x6_1).f1)
                                · rw [if_pos c26] at H
                                  have c26b0 : (((rd_T32 t113 (ji20)).f1) == ((rd_T32 t113 x6_1).f1)) = true := beq_iff_eq.mpr c26
                                  have c26b1 : (((rd_T32 t113 (ji20)).f1) != ((rd_T32 t113 x6_1).f1)) = false := bne_eq_false_iff_eq.mpr c26
                                  clear c26
                                  by_cases c27 : ((rd_T32 t113 (ji20)).f0) < ((rd_T32 t113 x6_1).f0)
                                  · rw [if_pos c27] at H
                                    have c27b0 : decide (((rd_T32 t113 (ji20)).f0) < ((rd_T32 t113 x6_1).f0)) = true := decide_eq_true c27
                                    clear c27
                                    obtain rfl := Option.some.inj H
                                    have p118 : 0 ≤ ((ji20) : Int) := of_decide_eq_true (by first | (with_reducible assumption) | assumption)
                                    have q118 : (ji20) < (t113.length : Int) := of_decide_eq_true (by first | (with_reducible assumption) | assumption)
                                    obtain ⟨ad118, A118_6, c118_6, A118_7, c118_7, e118, hx118_0, hx118_1, hx118_2, hx118_3, hx118_4, hx118_5, hx118_6, hx118_7, hx118_8, hl118_6, hi118_6, hl118_7, hi118_7⟩ := at_T32 (Kd.V_reads' HO_5.out).2.2 (ji20) p118 q118
                                    cases e118
                                    obtain ⟨ce118, hce118, hMe118, hcc118⟩ := Kd.V_get HO_5.out z32 (ji20) p118 (by first | exact q118 | exact of_decide_eq_true (by first | (with_reducible assumption) | assumption) | (have e_ := (Kd.V_reads' HO_5.out).1; omega))
                                    obtain ⟨ua118_6, uc118_6, ua118_7, uc118_7, rfl, ul118_6, ge118_6, ul118_7, ge118_7⟩ := k32_openF hMe118
                                    have hv118_6 := hcc118 6 _ rfl
                                    rw [add_field _ _ 6 (by omega)] at hv118_6
                                    replace hv118_6 := Option.some.inj (hv118_6.symm.trans hx118_6)
                                    injection hv118_6 with hva_ hvn_ hvc_
                                    rw [hva_] at ge118_6
                                    rw [hvc_] at ul118_6
                                    have HL118_6 := Aside0.mk (show Kd.V k59 59 _ w.heap.size _ _ ((rd_T32 t113 (ji20)).f3.f3) from Kd.V_mk ul118_6 ge118_6)
                                    clear hva_ hvn_ hvc_ ge118_6 ul118_6
                                    have hv118_7 := hcc118 7 _ rfl
                                    rw [add_field _ _ 7 (by omega)] at hv118_7
                                    replace hv118_7 := Option.some.inj (hv118_7.symm.trans hx118_7)
                                    injection hv118_7 with hva_ hvn_ hvc_
                                    rw [hva_] at ge118_7
                                    rw [hvc_] at ul118_7
                                    have HL118_7 := Aside0.mk (show Kd.V k30 30 _ w.heap.size _ _ ((rd_T32 t113 (ji20)).f3.f4) from Kd.V_mk ul118_7 ge118_7)
                                    clear hva_ hvn_ hvc_ ge118_7 ul118_7
                                    clear hcc118 hce118
                                    have HR118_6 := Aside0.mk hi118_6
                                    have HC118_6 := Aside0.mk hl118_6
                                    clear hi118_6 hl118_6
                                    have HR118_7 := Aside0.mk hi118_7
                                    have HC118_7 := Aside0.mk hl118_7
                                    clear hi118_7 hl118_7
                                    replace p118 := eq_true p118
                                    replace q118 := eq_true q118
                                    have p119 : 0 ≤ (x6_1 : Int) := of_decide_eq_true (by first | (with_reducible assumption) | assumption)
                                    have q119 : x6_1 < (t113.length : Int) := of_decide_eq_true (by first | (with_reducible assumption) | assumption)
                                    obtain ⟨ad119, A119_6, c119_6, A119_7, c119_7, e119, hx119_0, hx119_1, hx119_2, hx119_3, hx119_4, hx119_5, hx119_6, hx119_7, hx119_8, hl119_6, hi119_6, hl119_7, hi119_7⟩ := at_T32 (Kd.V_reads' HO_5.out).2.2 x6_1 p119 q119
                                    obtain rfl : ad118 = ad119 := (by injection e119)
                                    obtain ⟨ce119, hce119, hMe119, hcc119⟩ := Kd.V_get HO_5.out z32 x6_1 p119 (by first | exact q119 | exact of_decide_eq_true (by first | (with_reducible assumption) | assumption) | (have e_ := (Kd.V_reads' HO_5.out).1; omega))
                                    obtain ⟨ua119_6, uc119_6, ua119_7, uc119_7, rfl, ul119_6, ge119_6, ul119_7, ge119_7⟩ := k32_openF hMe119
                                    have hv119_6 := hcc119 6 _ rfl
                                    rw [add_field _ _ 6 (by omega)] at hv119_6
                                    replace hv119_6 := Option.some.inj (hv119_6.symm.trans hx119_6)
                                    injection hv119_6 with hva_ hvn_ hvc_
                                    rw [hva_] at ge119_6
                                    rw [hvc_] at ul119_6
                                    have HL119_6 := Aside0.mk (show Kd.V k59 59 _ w.heap.size _ _ ((rd_T32 t113 x6_1).f3.f3) from Kd.V_mk ul119_6 ge119_6)
                                    clear hva_ hvn_ hvc_ ge119_6 ul119_6
                                    have hv119_7 := hcc119 7 _ rfl
                                    rw [add_field _ _ 7 (by omega)] at hv119_7
                                    replace hv119_7 := Option.some.inj (hv119_7.symm.trans hx119_7)
                                    injection hv119_7 with hva_ hvn_ hvc_
                                    rw [hva_] at ge119_7
                                    rw [hvc_] at ul119_7
                                    have HL119_7 := Aside0.mk (show Kd.V k30 30 _ w.heap.size _ _ ((rd_T32 t113 x6_1).f3.f4) from Kd.V_mk ul119_7 ge119_7)
                                    clear hva_ hvn_ hvc_ ge119_7 ul119_7
                                    clear hcc119 hce119
                                    have HR119_6 := Aside0.mk hi119_6
                                    have HC119_6 := Aside0.mk hl119_6
                                    clear hi119_6 hl119_6
                                    have HR119_7 := Aside0.mk hi119_7
                                    have HC119_7 := Aside0.mk hl119_7
                                    clear hi119_7 hl119_7
                                    replace p119 := eq_true p119
                                    replace q119 := eq_true q119
                                    have p120 : 0 ≤ ((ji20) : Int) := of_decide_eq_true (by first | (with_reducible assumption) | assumption)
                                    have q120 : (ji20) < (t113.length : Int) := of_decide_eq_true (by first | (with_reducible assumption) | assumption)
                                    obtain ⟨ad120, A120_6, c120_6, A120_7, c120_7, e120, hx120_0, hx120_1, hx120_2, hx120_3, hx120_4, hx120_5, hx120_6, hx120_7, hx120_8, hl120_6, hi120_6, hl120_7, hi120_7⟩ := at_T32 (Kd.V_reads' HO_5.out).2.2 (ji20) p120 q120
                                    obtain rfl : ad118 = ad120 := (by injection e120)
                                    obtain ⟨ce120, hce120, hMe120, hcc120⟩ := Kd.V_get HO_5.out z32 (ji20) p120 (by first | exact q120 | exact of_decide_eq_true (by first | (with_reducible assumption) | assumption) | (have e_ := (Kd.V_reads' HO_5.out).1; omega))
                                    obtain ⟨ua120_6, uc120_6, ua120_7, uc120_7, rfl, ul120_6, ge120_6, ul120_7, ge120_7⟩ := k32_openF hMe120
                                    have hv120_6 := hcc120 6 _ rfl
                                    rw [add_field _ _ 6 (by omega)] at hv120_6
                                    replace hv120_6 := Option.some.inj (hv120_6.symm.trans hx120_6)
                                    injection hv120_6 with hva_ hvn_ hvc_
                                    rw [hva_] at ge120_6
                                    rw [hvc_] at ul120_6
                                    have HL120_6 := Aside0.mk (show Kd.V k59 59 _ w.heap.size _ _ ((rd_T32 t113 (ji20)).f3.f3) from Kd.V_mk ul120_6 ge120_6)
                                    clear hva_ hvn_ hvc_ ge120_6 ul120_6
                                    have hv120_7 := hcc120 7 _ rfl
                                    rw [add_field _ _ 7 (by omega)] at hv120_7
                                    replace hv120_7 := Option.some.inj (hv120_7.symm.trans hx120_7)
                                    injection hv120_7 with hva_ hvn_ hvc_
                                    rw [hva_] at ge120_7
                                    rw [hvc_] at ul120_7
                                    have HL120_7 := Aside0.mk (show Kd.V k30 30 _ w.heap.size _ _ ((rd_T32 t113 (ji20)).f3.f4) from Kd.V_mk ul120_7 ge120_7)
                                    clear hva_ hvn_ hvc_ ge120_7 ul120_7
                                    clear hcc120 hce120
                                    have HR120_6 := Aside0.mk hi120_6
                                    have HC120_6 := Aside0.mk hl120_6
                                    clear hi120_6 hl120_6
                                    have HR120_7 := Aside0.mk hi120_7
                                    have HC120_7 := Aside0.mk hl120_7
                                    clear hi120_7 hl120_7
                                    replace p120 := eq_true p120
                                    replace q120 := eq_true q120
                                    have ea_ := Option.some.inj (hx118_6.symm.trans hx120_6)
                                    injection ea_ with ea_ en_ ec_
                                    subst ea_
                                    subst ec_
                                    clear en_
                                    have ea_ := Option.some.inj (hx118_7.symm.trans hx120_7)
                                    injection ea_ with ea_ en_ ec_
                                    subst ea_
                                    subst ec_
                                    clear en_
                                    have p121 : 0 ≤ (x6_1 : Int) := of_decide_eq_true (by first | (with_reducible assumption) | assumption)
                                    have q121 : x6_1 < (t113.length : Int) := of_decide_eq_true (by first | (with_reducible assumption) | assumption)
                                    obtain ⟨ad121, A121_6, c121_6, A121_7, c121_7, e121, hx121_0, hx121_1, hx121_2, hx121_3, hx121_4, hx121_5, hx121_6, hx121_7, hx121_8, hl121_6, hi121_6, hl121_7, hi121_7⟩ := at_T32 (Kd.V_reads' HO_5.out).2.2 x6_1 p121 q121
                                    obtain rfl : ad118 = ad121 := (by injection e121)
                                    obtain ⟨ce121, hce121, hMe121, hcc121⟩ := Kd.V_get HO_5.out z32 x6_1 p121 (by first | exact q121 | exact of_decide_eq_true (by first | (with_reducible assumption) | assumption) | (have e_ := (Kd.V_reads' HO_5.out).1; omega))
                                    obtain ⟨ua121_6, uc121_6, ua121_7, uc121_7, rfl, ul121_6, ge121_6, ul121_7, ge121_7⟩ := k32_openF hMe121
                                    have hv121_6 := hcc121 6 _ rfl
                                    rw [add_field _ _ 6 (by omega)] at hv121_6
                                    replace hv121_6 := Option.some.inj (hv121_6.symm.trans hx121_6)
                                    injection hv121_6 with hva_ hvn_ hvc_
                                    rw [hva_] at ge121_6
                                    rw [hvc_] at ul121_6
                                    have HL121_6 := Aside0.mk (show Kd.V k59 59 _ w.heap.size _ _ ((rd_T32 t113 x6_1).f3.f3) from Kd.V_mk ul121_6 ge121_6)
                                    clear hva_ hvn_ hvc_ ge121_6 ul121_6
                                    have hv121_7 := hcc121 7 _ rfl
                                    rw [add_field _ _ 7 (by omega)] at hv121_7
                                    replace hv121_7 := Option.some.inj (hv121_7.symm.trans hx121_7)
                                    injection hv121_7 with hva_ hvn_ hvc_
                                    rw [hva_] at ge121_7
                                    rw [hvc_] at ul121_7
                                    have HL121_7 := Aside0.mk (show Kd.V k30 30 _ w.heap.size _ _ ((rd_T32 t113 x6_1).f3.f4) from Kd.V_mk ul121_7 ge121_7)
                                    clear hva_ hvn_ hvc_ ge121_7 ul121_7
                                    clear hcc121 hce121
                                    have HR121_6 := Aside0.mk hi121_6
                                    have HC121_6 := Aside0.mk hl121_6
                                    clear hi121_6 hl121_6
                                    have HR121_7 := Aside0.mk hi121_7
                                    have HC121_7 := Aside0.mk hl121_7
                                    clear hi121_7 hl121_7
                                    replace p121 := eq_true p121
                                    replace q121 := eq_true q121
                                    have ea_ := Option.some.inj (hx119_6.symm.trans hx121_6)
                                    injection ea_ with ea_ en_ ec_
                                    subst ea_
                                    subst ec_
                                    clear en_
                                    have ea_ := Option.some.inj (hx119_7.symm.trans hx121_7)
                                    injection ea_ with ea_ en_ ec_
                                    subst ea_
                                    subst ec_
                                    clear en_
                                    have p122 : 0 ≤ ((ji20) : Int) := of_decide_eq_true (by first | (with_reducible assumption) | assumption)
                                    have q122 : (ji20) < (t113.length : Int) := of_decide_eq_true (by first | (with_reducible assumption) | assumption)
                                    obtain ⟨ad122, A122_6, c122_6, A122_7, c122_7, e122, hx122_0, hx122_1, hx122_2, hx122_3, hx122_4, hx122_5, hx122_6, hx122_7, hx122_8, hl122_6, hi122_6, hl122_7, hi122_7⟩ := at_T32 (Kd.V_reads' HO_5.out).2.2 (ji20) p122 q122
                                    obtain rfl : ad118 = ad122 := (by injection e122)
                                    obtain ⟨ce122, hce122, hMe122, hcc122⟩ := Kd.V_get HO_5.out z32 (ji20) p122 (by first | exact q122 | exact of_decide_eq_true (by first | (with_reducible assumption) | assumption) | (have e_ := (Kd.V_reads' HO_5.out).1; omega))
                                    obtain ⟨ua122_6, uc122_6, ua122_7, uc122_7, rfl, ul122_6, ge122_6, ul122_7, ge122_7⟩ := k32_openF hMe122
                                    have hv122_6 := hcc122 6 _ rfl
                                    rw [add_field _ _ 6 (by omega)] at hv122_6
                                    replace hv122_6 := Option.some.inj (hv122_6.symm.trans hx122_6)
                                    injection hv122_6 with hva_ hvn_ hvc_
                                    rw [hva_] at ge122_6
                                    rw [hvc_] at ul122_6
                                    have HL122_6 := Aside0.mk (show Kd.V k59 59 _ w.heap.size _ _ ((rd_T32 t113 (ji20)).f3.f3) from Kd.V_mk ul122_6 ge122_6)
                                    clear hva_ hvn_ hvc_ ge122_6 ul122_6
                                    have hv122_7 := hcc122 7 _ rfl
                                    rw [add_field _ _ 7 (by omega)] at hv122_7
                                    replace hv122_7 := Option.some.inj (hv122_7.symm.trans hx122_7)
                                    injection hv122_7 with hva_ hvn_ hvc_
                                    rw [hva_] at ge122_7
                                    rw [hvc_] at ul122_7
                                    have HL122_7 := Aside0.mk (show Kd.V k30 30 _ w.heap.size _ _ ((rd_T32 t113 (ji20)).f3.f4) from Kd.V_mk ul122_7 ge122_7)
                                    clear hva_ hvn_ hvc_ ge122_7 ul122_7
                                    clear hcc122 hce122
                                    have HR122_6 := Aside0.mk hi122_6
                                    have HC122_6 := Aside0.mk hl122_6
                                    clear hi122_6 hl122_6
                                    have HR122_7 := Aside0.mk hi122_7
                                    have HC122_7 := Aside0.mk hl122_7
                                    clear hi122_7 hl122_7
                                    replace p122 := eq_true p122
                                    replace q122 := eq_true q122
                                    have ea_ := Option.some.inj (hx118_6.symm.trans hx122_6)
                                    injection ea_ with ea_ en_ ec_
                                    subst ea_
                                    subst ec_
                                    clear en_
                                    have ea_ := Option.some.inj (hx118_7.symm.trans hx122_7)
                                    injection ea_ with ea_ en_ ec_
                                    subst ea_
                                    subst ec_
                                    clear en_
                                    have p123 : 0 ≤ (x6_1 : Int) := of_decide_eq_true (by first | (with_reducible assumption) | assumption)
                                    have q123 : x6_1 < (t113.length : Int) := of_decide_eq_true (by first | (with_reducible assumption) | assumption)
                                    obtain ⟨ad123, A123_6, c123_6, A123_7, c123_7, e123, hx123_0, hx123_1, hx123_2, hx123_3, hx123_4, hx123_5, hx123_6, hx123_7, hx123_8, hl123_6, hi123_6, hl123_7, hi123_7⟩ := at_T32 (Kd.V_reads' HO_5.out).2.2 x6_1 p123 q123
                                    obtain rfl : ad118 = ad123 := (by injection e123)
                                    obtain ⟨ce123, hce123, hMe123, hcc123⟩ := Kd.V_get HO_5.out z32 x6_1 p123 (by first | exact q123 | exact of_decide_eq_true (by first | (with_reducible assumption) | assumption) | (have e_ := (Kd.V_reads' HO_5.out).1; omega))
                                    obtain ⟨ua123_6, uc123_6, ua123_7, uc123_7, rfl, ul123_6, ge123_6, ul123_7, ge123_7⟩ := k32_openF hMe123
                                    have hv123_6 := hcc123 6 _ rfl
                                    rw [add_field _ _ 6 (by omega)] at hv123_6
                                    replace hv123_6 := Option.some.inj (hv123_6.symm.trans hx123_6)
                                    injection hv123_6 with hva_ hvn_ hvc_
                                    rw [hva_] at ge123_6
                                    rw [hvc_] at ul123_6
                                    have HL123_6 := Aside0.mk (show Kd.V k59 59 _ w.heap.size _ _ ((rd_T32 t113 x6_1).f3.f3) from Kd.V_mk ul123_6 ge123_6)
                                    clear hva_ hvn_ hvc_ ge123_6 ul123_6
                                    have hv123_7 := hcc123 7 _ rfl
                                    rw [add_field _ _ 7 (by omega)] at hv123_7
                                    replace hv123_7 := Option.some.inj (hv123_7.symm.trans hx123_7)
                                    injection hv123_7 with hva_ hvn_ hvc_
                                    rw [hva_] at ge123_7
                                    rw [hvc_] at ul123_7
                                    have HL123_7 := Aside0.mk (show Kd.V k30 30 _ w.heap.size _ _ ((rd_T32 t113 x6_1).f3.f4) from Kd.V_mk ul123_7 ge123_7)
                                    clear hva_ hvn_ hvc_ ge123_7 ul123_7
                                    clear hcc123 hce123
                                    have HR123_6 := Aside0.mk hi123_6
                                    have HC123_6 := Aside0.mk hl123_6
                                    clear hi123_6 hl123_6
                                    have HR123_7 := Aside0.mk hi123_7
                                    have HC123_7 := Aside0.mk hl123_7
                                    clear hi123_7 hl123_7
                                    replace p123 := eq_true p123
                                    replace q123 := eq_true q123
                                    have ea_ := Option.some.inj (hx119_6.symm.trans hx123_6)
                                    injection ea_ with ea_ en_ ec_
                                    subst ea_
                                    subst ec_
                                    clear en_
                                    have ea_ := Option.some.inj (hx119_7.symm.trans hx123_7)
                                    injection ea_ with ea_ en_ ec_
                                    subst ea_
                                    subst ec_
                                    clear en_
                                    go_wp2
                                    repeat (go_quiet (fail); try go_wp2)
                                    go_ret
                                    exact ⟨by first | rfl | (simp [errW_none, errW_some] <;> rfl) | (simp only [← hji20]; first | rfl | (simp [errW_none, errW_some] <;> rfl)) | (simp [*, errW_none, errW_some] <;> rfl), by repeat (first | (with_reducible first | exact HB.out | apply below_alloc | apply pw_below_drewN | apply below_drew1) | exact HB.out)⟩
                                  · rw [if_neg c27] at H
                                    have c27b0 : decide (((rd_T32 t113 (ji20)).f0) < ((rd_T32 t113 x6_1).f0)) = false := decide_eq_false c27
                                    clear c27
                                    by_cases c28 : ((rd_T32 t113 (ji20)).f0) = ((rd_T32 t113 x6_1).f0)
                                    · rw [if_pos c28] at H
                                      have c28b0 : (((rd_T32 t113 (ji20)).f0) == ((rd_T32 t113 x6_1).f0)) = true := beq_iff_eq.mpr c28
                                      have c28b1 : (((rd_T32 t113 (ji20)).f0) != ((rd_T32 t113 x6_1).f0)) = false := bne_eq_false_iff_eq.mpr c28
                                      clear c28
                                      by_cases c29 : (Op.bytesLess (((rd_T32 t113 x6_1).f2).toList) (((rd_T32 t113 (ji20)).f2).toList)) = true
                                      · rw [if_pos c29] at H
                                        have c29b0 : (Op.bytesLess (((rd_T32 t113 x6_1).f2).toList) (((rd_T32 t113 (ji20)).f2).toList)) = true := c29
                                        have c29b1 := (Go.Proofs.Ytjbfjgaghjggpaa.Byt.bl_true c29b0).1
                                        have c29b2 := (Go.Proofs.Ytjbfjgaghjggpaa.Byt.bl_true c29b0).2
                                        clear c29
                                        obtain rfl := Option.some.inj H
                                        have p118 : 0 ≤ ((ji20) : Int) := of_decide_eq_true (by first | (with_reducible assumption) | assumption)
                                        have q118 : (ji20) < (t113.length : Int) := of_decide_eq_true (by first | (with_reducible assumption) | assumption)
                                        obtain ⟨ad118, A118_6, c118_6, A118_7, c118_7, e118, hx118_0, hx118_1, hx118_2, hx118_3, hx118_4, hx118_5, hx118_6, hx118_7, hx118_8, hl118_6, hi118_6, hl118_7, hi118_7⟩ := at_T32 (Kd.V_reads' HO_5.out).2.2 (ji20) p118 q118
                                        cases e118
                                        obtain ⟨ce118, hce118, hMe118, hcc118⟩ := Kd.V_get HO_5.out z32 (ji20) p118 (by first | exact q118 | exact of_decide_eq_true (by first | (with_reducible assumption) | assumption) | (have e_ := (Kd.V_reads' HO_5.out).1; omega))
                                        obtain ⟨ua118_6, uc118_6, ua118_7, uc118_7, rfl, ul118_6, ge118_6, ul118_7, ge118_7⟩ := k32_openF hMe118
                                        have hv118_6 := hcc118 6 _ rfl
                                        rw [add_field _ _ 6 (by omega)] at hv118_6
                                        replace hv118_6 := Option.some.inj (hv118_6.symm.trans hx118_6)
                                        injection hv118_6 with hva_ hvn_ hvc_
                                        rw [hva_] at ge118_6
                                        rw [hvc_] at ul118_6
                                        have HL118_6 := Aside0.mk (show Kd.V k59 59 _ w.heap.size _ _ ((rd_T32 t113 (ji20)).f3.f3) from Kd.V_mk ul118_6 ge118_6)
                                        clear hva_ hvn_ hvc_ ge118_6 ul118_6
                                        have hv118_7 := hcc118 7 _ rfl
                                        rw [add_field _ _ 7 (by omega)] at hv118_7
                                        replace hv118_7 := Option.some.inj (hv118_7.symm.trans hx118_7)
                                        injection hv118_7 with hva_ hvn_ hvc_
                                        rw [hva_] at ge118_7
                                        rw [hvc_] at ul118_7
                                        have HL118_7 := Aside0.mk (show Kd.V k30 30 _ w.heap.size _ _ ((rd_T32 t113 (ji20)).f3.f4) from Kd.V_mk ul118_7 ge118_7)
                                        clear hva_ hvn_ hvc_ ge118_7 ul118_7
                                        clear hcc118 hce118
                                        have HR118_6 := Aside0.mk hi118_6
                                        have HC118_6 := Aside0.mk hl118_6
                                        clear hi118_6 hl118_6
                                        have HR118_7 := Aside0.mk hi118_7
                                        have HC118_7 := Aside0.mk hl118_7
                                        clear hi118_7 hl118_7
                                        replace p118 := eq_true p118
                                        replace q118 := eq_true q118
                                        have p119 : 0 ≤ (x6_1 : Int) := of_decide_eq_true (by first | (with_reducible assumption) | assumption)
                                        have q119 : x6_1 < (t113.length : Int) := of_decide_eq_true (by first | (with_reducible assumption) | assumption)
                                        obtain ⟨ad119, A119_6, c119_6, A119_7, c119_7, e119, hx119_0, hx119_1, hx119_2, hx119_3, hx119_4, hx119_5, hx119_6, hx119_7, hx119_8, hl119_6, hi119_6, hl119_7, hi119_7⟩ := at_T32 (Kd.V_reads' HO_5.out).2.2 x6_1 p119 q119
                                        obtain rfl : ad118 = ad119 := (by injection e119)
                                        obtain ⟨ce119, hce119, hMe119, hcc119⟩ := Kd.V_get HO_5.out z32 x6_1 p119 (by first | exact q119 | exact of_decide_eq_true (by first | (with_reducible assumption) | assumption) | (have e_ := (Kd.V_reads' HO_5.out).1; omega))
                                        obtain ⟨ua119_6, uc119_6, ua119_7, uc119_7, rfl, ul119_6, ge119_6, ul119_7, ge119_7⟩ := k32_openF hMe119
                                        have hv119_6 := hcc119 6 _ rfl
                                        rw [add_field _ _ 6 (by omega)] at hv119_6
                                        replace hv119_6 := Option.some.inj (hv119_6.symm.trans hx119_6)
                                        injection hv119_6 with hva_ hvn_ hvc_
                                        rw [hva_] at ge119_6
                                        rw [hvc_] at ul119_6
                                        have HL119_6 := Aside0.mk (show Kd.V k59 59 _ w.heap.size _ _ ((rd_T32 t113 x6_1).f3.f3) from Kd.V_mk ul119_6 ge119_6)
                                        clear hva_ hvn_ hvc_ ge119_6 ul119_6
                                        have hv119_7 := hcc119 7 _ rfl
                                        rw [add_field _ _ 7 (by omega)] at hv119_7
                                        replace hv119_7 := Option.some.inj (hv119_7.symm.trans hx119_7)
                                        injection hv119_7 with hva_ hvn_ hvc_
                                        rw [hva_] at ge119_7
                                        rw [hvc_] at ul119_7
                                        have HL119_7 := Aside0.mk (show Kd.V k30 30 _ w.heap.size _ _ ((rd_T32 t113 x6_1).f3.f4) from Kd.V_mk ul119_7 ge119_7)
                                        clear hva_ hvn_ hvc_ ge119_7 ul119_7
                                        clear hcc119 hce119
                                        have HR119_6 := Aside0.mk hi119_6
                                        have HC119_6 := Aside0.mk hl119_6
                                        clear hi119_6 hl119_6
                                        have HR119_7 := Aside0.mk hi119_7
                                        have HC119_7 := Aside0.mk hl119_7
                                        clear hi119_7 hl119_7
                                        replace p119 := eq_true p119
                                        replace q119 := eq_true q119
                                        have p120 : 0 ≤ ((ji20) : Int) := of_decide_eq_true (by first | (with_reducible assumption) | assumption)
                                        have q120 : (ji20) < (t113.length : Int) := of_decide_eq_true (by first | (with_reducible assumption) | assumption)
                                        obtain ⟨ad120, A120_6, c120_6, A120_7, c120_7, e120, hx120_0, hx120_1, hx120_2, hx120_3, hx120_4, hx120_5, hx120_6, hx120_7, hx120_8, hl120_6, hi120_6, hl120_7, hi120_7⟩ := at_T32 (Kd.V_reads' HO_5.out).2.2 (ji20) p120 q120
                                        obtain rfl : ad118 = ad120 := (by injection e120)
                                        obtain ⟨ce120, hce120, hMe120, hcc120⟩ := Kd.V_get HO_5.out z32 (ji20) p120 (by first | exact q120 | exact of_decide_eq_true (by first | (with_reducible assumption) | assumption) | (have e_ := (Kd.V_reads' HO_5.out).1; omega))
                                        obtain ⟨ua120_6, uc120_6, ua120_7, uc120_7, rfl, ul120_6, ge120_6, ul120_7, ge120_7⟩ := k32_openF hMe120
                                        have hv120_6 := hcc120 6 _ rfl
                                        rw [add_field _ _ 6 (by omega)] at hv120_6
                                        replace hv120_6 := Option.some.inj (hv120_6.symm.trans hx120_6)
                                        injection hv120_6 with hva_ hvn_ hvc_
                                        rw [hva_] at ge120_6
                                        rw [hvc_] at ul120_6
                                        have HL120_6 := Aside0.mk (show Kd.V k59 59 _ w.heap.size _ _ ((rd_T32 t113 (ji20)).f3.f3) from Kd.V_mk ul120_6 ge120_6)
                                        clear hva_ hvn_ hvc_ ge120_6 ul120_6
                                        have hv120_7 := hcc120 7 _ rfl
                                        rw [add_field _ _ 7 (by omega)] at hv120_7
                                        replace hv120_7 := Option.some.inj (hv120_7.symm.trans hx120_7)
                                        injection hv120_7 with hva_ hvn_ hvc_
                                        rw [hva_] at ge120_7
                                        rw [hvc_] at ul120_7
                                        have HL120_7 := Aside0.mk (show Kd.V k30 30 _ w.heap.size _ _ ((rd_T32 t113 (ji20)).f3.f4) from Kd.V_mk ul120_7 ge120_7)
                                        clear hva_ hvn_ hvc_ ge120_7 ul120_7
                                        clear hcc120 hce120
                                        have HR120_6 := Aside0.mk hi120_6
                                        have HC120_6 := Aside0.mk hl120_6
                                        clear hi120_6 hl120_6
                                        have HR120_7 := Aside0.mk hi120_7
                                        have HC120_7 := Aside0.mk hl120_7
                                        clear hi120_7 hl120_7
                                        replace p120 := eq_true p120
                                        replace q120 := eq_true q120
                                        have ea_ := Option.some.inj (hx118_6.symm.trans hx120_6)
                                        injection ea_ with ea_ en_ ec_
                                        subst ea_
                                        subst ec_
                                        clear en_
                                        have ea_ := Option.some.inj (hx118_7.symm.trans hx120_7)
                                        injection ea_ with ea_ en_ ec_
                                        subst ea_
                                        subst ec_
                                        clear en_
                                        have p121 : 0 ≤ (x6_1 : Int) := of_decide_eq_true (by first | (with_reducible assumption) | assumption)
                                        have q121 : x6_1 < (t113.length : Int) := of_decide_eq_true (by first | (with_reducible assumption) | assumption)
                                        obtain ⟨ad121, A121_6, c121_6, A121_7, c121_7, e121, hx121_0, hx121_1, hx121_2, hx121_3, hx121_4, hx121_5, hx121_6, hx121_7, hx121_8, hl121_6, hi121_6, hl121_7, hi121_7⟩ := at_T32 (Kd.V_reads' HO_5.out).2.2 x6_1 p121 q121
                                        obtain rfl : ad118 = ad121 := (by injection e121)
                                        obtain ⟨ce121, hce121, hMe121, hcc121⟩ := Kd.V_get HO_5.out z32 x6_1 p121 (by first | exact q121 | exact of_decide_eq_true (by first | (with_reducible assumption) | assumption) | (have e_ := (Kd.V_reads' HO_5.out).1; omega))
                                        obtain ⟨ua121_6, uc121_6, ua121_7, uc121_7, rfl, ul121_6, ge121_6, ul121_7, ge121_7⟩ := k32_openF hMe121
                                        have hv121_6 := hcc121 6 _ rfl
                                        rw [add_field _ _ 6 (by omega)] at hv121_6
                                        replace hv121_6 := Option.some.inj (hv121_6.symm.trans hx121_6)
                                        injection hv121_6 with hva_ hvn_ hvc_
                                        rw [hva_] at ge121_6
                                        rw [hvc_] at ul121_6
                                        have HL121_6 := Aside0.mk (show Kd.V k59 59 _ w.heap.size _ _ ((rd_T32 t113 x6_1).f3.f3) from Kd.V_mk ul121_6 ge121_6)
                                        clear hva_ hvn_ hvc_ ge121_6 ul121_6
                                        have hv121_7 := hcc121 7 _ rfl
                                        rw [add_field _ _ 7 (by omega)] at hv121_7
                                        replace hv121_7 := Option.some.inj (hv121_7.symm.trans hx121_7)
                                        injection hv121_7 with hva_ hvn_ hvc_
                                        rw [hva_] at ge121_7
                                        rw [hvc_] at ul121_7
                                        have HL121_7 := Aside0.mk (show Kd.V k30 30 _ w.heap.size _ _ ((rd_T32 t113 x6_1).f3.f4) from Kd.V_mk ul121_7 ge121_7)
                                        clear hva_ hvn_ hvc_ ge121_7 ul121_7
                                        clear hcc121 hce121
                                        have HR121_6 := Aside0.mk hi121_6
                                        have HC121_6 := Aside0.mk hl121_6
                                        clear hi121_6 hl121_6
                                        have HR121_7 := Aside0.mk hi121_7
                                        have HC121_7 := Aside0.mk hl121_7
                                        clear hi121_7 hl121_7
                                        replace p121 := eq_true p121
                                        replace q121 := eq_true q121
                                        have ea_ := Option.some.inj (hx119_6.symm.trans hx121_6)
                                        injection ea_ with ea_ en_ ec_
                                        subst ea_
                                        subst ec_
                                        clear en_
                                        have ea_ := Option.some.inj (hx119_7.symm.trans hx121_7)
                                        injection ea_ with ea_ en_ ec_
                                        subst ea_
                                        subst ec_
                                        clear en_
                                        have p122 : 0 ≤ ((ji20) : Int) := of_decide_eq_true (by first | (with_reducible assumption) | assumption)
                                        have q122 : (ji20) < (t113.length : Int) := of_decide_eq_true (by first | (with_reducible assumption) | assumption)
                                        obtain ⟨ad122, A122_6, c122_6, A122_7, c122_7, e122, hx122_0, hx122_1, hx122_2, hx122_3, hx122_4, hx122_5, hx122_6, hx122_7, hx122_8, hl122_6, hi122_6, hl122_7, hi122_7⟩ := at_T32 (Kd.V_reads' HO_5.out).2.2 (ji20) p122 q122
                                        obtain rfl : ad118 = ad122 := (by injection e122)
                                        obtain ⟨ce122, hce122, hMe122, hcc122⟩ := Kd.V_get HO_5.out z32 (ji20) p122 (by first | exact q122 | exact of_decide_eq_true (by first | (with_reducible assumption) | assumption) | (have e_ := (Kd.V_reads' HO_5.out).1; omega))
                                        obtain ⟨ua122_6, uc122_6, ua122_7, uc122_7, rfl, ul122_6, ge122_6, ul122_7, ge122_7⟩ := k32_openF hMe122
                                        have hv122_6 := hcc122 6 _ rfl
                                        rw [add_field _ _ 6 (by omega)] at hv122_6
                                        replace hv122_6 := Option.some.inj (hv122_6.symm.trans hx122_6)
                                        injection hv122_6 with hva_ hvn_ hvc_
                                        rw [hva_] at ge122_6
                                        rw [hvc_] at ul122_6
                                        have HL122_6 := Aside0.mk (show Kd.V k59 59 _ w.heap.size _ _ ((rd_T32 t113 (ji20)).f3.f3) from Kd.V_mk ul122_6 ge122_6)
                                        clear hva_ hvn_ hvc_ ge122_6 ul122_6
                                        have hv122_7 := hcc122 7 _ rfl
                                        rw [add_field _ _ 7 (by omega)] at hv122_7
                                        replace hv122_7 := Option.some.inj (hv122_7.symm.trans hx122_7)
                                        injection hv122_7 with hva_ hvn_ hvc_
                                        rw [hva_] at ge122_7
                                        rw [hvc_] at ul122_7
                                        have HL122_7 := Aside0.mk (show Kd.V k30 30 _ w.heap.size _ _ ((rd_T32 t113 (ji20)).f3.f4) from Kd.V_mk ul122_7 ge122_7)
                                        clear hva_ hvn_ hvc_ ge122_7 ul122_7
                                        clear hcc122 hce122
                                        have HR122_6 := Aside0.mk hi122_6
                                        have HC122_6 := Aside0.mk hl122_6
                                        clear hi122_6 hl122_6
                                        have HR122_7 := Aside0.mk hi122_7
                                        have HC122_7 := Aside0.mk hl122_7
                                        clear hi122_7 hl122_7
                                        replace p122 := eq_true p122
                                        replace q122 := eq_true q122
                                        have ea_ := Option.some.inj (hx118_6.symm.trans hx122_6)
                                        injection ea_ with ea_ en_ ec_
                                        subst ea_
                                        subst ec_
                                        clear en_
                                        have ea_ := Option.some.inj (hx118_7.symm.trans hx122_7)
                                        injection ea_ with ea_ en_ ec_
                                        subst ea_
                                        subst ec_
                                        clear en_
                                        have p123 : 0 ≤ (x6_1 : Int) := of_decide_eq_true (by first | (with_reducible assumption) | assumption)
                                        have q123 : x6_1 < (t113.length : Int) := of_decide_eq_true (by first | (with_reducible assumption) | assumption)
                                        obtain ⟨ad123, A123_6, c123_6, A123_7, c123_7, e123, hx123_0, hx123_1, hx123_2, hx123_3, hx123_4, hx123_5, hx123_6, hx123_7, hx123_8, hl123_6, hi123_6, hl123_7, hi123_7⟩ := at_T32 (Kd.V_reads' HO_5.out).2.2 x6_1 p123 q123
                                        obtain rfl : ad118 = ad123 := (by injection e123)
                                        obtain ⟨ce123, hce123, hMe123, hcc123⟩ := Kd.V_get HO_5.out z32 x6_1 p123 (by first | exact q123 | exact of_decide_eq_true (by first | (with_reducible assumption) | assumption) | (have e_ := (Kd.V_reads' HO_5.out).1; omega))
                                        obtain ⟨ua123_6, uc123_6, ua123_7, uc123_7, rfl, ul123_6, ge123_6, ul123_7, ge123_7⟩ := k32_openF hMe123
                                        have hv123_6 := hcc123 6 _ rfl
                                        rw [add_field _ _ 6 (by omega)] at hv123_6
                                        replace hv123_6 := Option.some.inj (hv123_6.symm.trans hx123_6)
                                        injection hv123_6 with hva_ hvn_ hvc_
                                        rw [hva_] at ge123_6
                                        rw [hvc_] at ul123_6
                                        have HL123_6 := Aside0.mk (show Kd.V k59 59 _ w.heap.size _ _ ((rd_T32 t113 x6_1).f3.f3) from Kd.V_mk ul123_6 ge123_6)
                                        clear hva_ hvn_ hvc_ ge123_6 ul123_6
                                        have hv123_7 := hcc123 7 _ rfl
                                        rw [add_field _ _ 7 (by omega)] at hv123_7
                                        replace hv123_7 := Option.some.inj (hv123_7.symm.trans hx123_7)
                                        injection hv123_7 with hva_ hvn_ hvc_
                                        rw [hva_] at ge123_7
                                        rw [hvc_] at ul123_7
                                        have HL123_7 := Aside0.mk (show Kd.V k30 30 _ w.heap.size _ _ ((rd_T32 t113 x6_1).f3.f4) from Kd.V_mk ul123_7 ge123_7)
                                        clear hva_ hvn_ hvc_ ge123_7 ul123_7
                                        clear hcc123 hce123
                                        have HR123_6 := Aside0.mk hi123_6
                                        have HC123_6 := Aside0.mk hl123_6
                                        clear hi123_6 hl123_6
                                        have HR123_7 := Aside0.mk hi123_7
                                        have HC123_7 := Aside0.mk hl123_7
                                        clear hi123_7 hl123_7
                                        replace p123 := eq_true p123
                                        replace q123 := eq_true q123
                                        have ea_ := Option.some.inj (hx119_6.symm.trans hx123_6)
                                        injection ea_ with ea_ en_ ec_
                                        subst ea_
                                        subst ec_
                                        clear en_
                                        have ea_ := Option.some.inj (hx119_7.symm.trans hx123_7)
                                        injection ea_ with ea_ en_ ec_
                                        subst ea_
                                        subst ec_
                                        clear en_
                                        have p124 : 0 ≤ ((ji20) : Int) := of_decide_eq_true (by first | (with_reducible assumption) | assumption)
                                        have q124 : (ji20) < (t113.length : Int) := of_decide_eq_true (by first | (with_reducible assumption) | assumption)
                                        obtain ⟨ad124, A124_6, c124_6, A124_7, c124_7, e124, hx124_0, hx124_1, hx124_2, hx124_3, hx124_4, hx124_5, hx124_6, hx124_7, hx124_8, hl124_6, hi124_6, hl124_7, hi124_7⟩ := at_T32 (Kd.V_reads' HO_5.out).2.2 (ji20) p124 q124
                                        obtain rfl : ad118 = ad124 := (by injection e124)
                                        obtain ⟨ce124, hce124, hMe124, hcc124⟩ := Kd.V_get HO_5.out z32 (ji20) p124 (by first | exact q124 | exact of_decide_eq_true (by first | (with_reducible assumption) | assumption) | (have e_ := (Kd.V_reads' HO_5.out).1; omega))
                                        obtain ⟨ua124_6, uc124_6, ua124_7, uc124_7, rfl, ul124_6, ge124_6, ul124_7, ge124_7⟩ := k32_openF hMe124
                                        have hv124_6 := hcc124 6 _ rfl
                                        rw [add_field _ _ 6 (by omega)] at hv124_6
                                        replace hv124_6 := Option.some.inj (hv124_6.symm.trans hx124_6)
                                        injection hv124_6 with hva_ hvn_ hvc_
                                        rw [hva_] at ge124_6
                                        rw [hvc_] at ul124_6
                                        have HL124_6 := Aside0.mk (show Kd.V k59 59 _ w.heap.size _ _ ((rd_T32 t113 (ji20)).f3.f3) from Kd.V_mk ul124_6 ge124_6)
                                        clear hva_ hvn_ hvc_ ge124_6 ul124_6
                                        have hv124_7 := hcc124 7 _ rfl
                                        rw [add_field _ _ 7 (by omega)] at hv124_7
                                        replace hv124_7 := Option.some.inj (hv124_7.symm.trans hx124_7)
                                        injection hv124_7 with hva_ hvn_ hvc_
                                        rw [hva_] at ge124_7
                                        rw [hvc_] at ul124_7
                                        have HL124_7 := Aside0.mk (show Kd.V k30 30 _ w.heap.size _ _ ((rd_T32 t113 (ji20)).f3.f4) from Kd.V_mk ul124_7 ge124_7)
                                        clear hva_ hvn_ hvc_ ge124_7 ul124_7
                                        clear hcc124 hce124
                                        have HR124_6 := Aside0.mk hi124_6
                                        have HC124_6 := Aside0.mk hl124_6
                                        clear hi124_6 hl124_6
                                        have HR124_7 := Aside0.mk hi124_7
                                        have HC124_7 := Aside0.mk hl124_7
                                        clear hi124_7 hl124_7
                                        replace p124 := eq_true p124
                                        replace q124 := eq_true q124
                                        have ea_ := Option.some.inj (hx118_6.symm.trans hx124_6)
                                        injection ea_ with ea_ en_ ec_
                                        subst ea_
                                        subst ec_
                                        clear en_
                                        have ea_ := Option.some.inj (hx118_7.symm.trans hx124_7)
                                        injection ea_ with ea_ en_ ec_
                                        subst ea_
                                        subst ec_
                                        clear en_
                                        have p125 : 0 ≤ (x6_1 : Int) := of_decide_eq_true (by first | (with_reducible assumption) | assumption)
                                        have q125 : x6_1 < (t113.length : Int) := of_decide_eq_true (by first | (with_reducible assumption) | assumption)
                                        obtain ⟨ad125, A125_6, c125_6, A125_7, c125_7, e125, hx125_0, hx125_1, hx125_2, hx125_3, hx125_4, hx125_5, hx125_6, hx125_7, hx125_8, hl125_6, hi125_6, hl125_7, hi125_7⟩ := at_T32 (Kd.V_reads' HO_5.out).2.2 x6_1 p125 q125
                                        obtain rfl : ad118 = ad125 := (by injection e125)
                                        obtain ⟨ce125, hce125, hMe125, hcc125⟩ := Kd.V_get HO_5.out z32 x6_1 p125 (by first | exact q125 | exact of_decide_eq_true (by first | (with_reducible assumption) | assumption) | (have e_ := (Kd.V_reads' HO_5.out).1; omega))
                                        obtain ⟨ua125_6, uc125_6, ua125_7, uc125_7, rfl, ul125_6, ge125_6, ul125_7, ge125_7⟩ := k32_openF hMe125
                                        have hv125_6 := hcc125 6 _ rfl
                                        rw [add_field _ _ 6 (by omega)] at hv125_6
                                        replace hv125_6 := Option.some.inj (hv125_6.symm.trans hx125_6)
                                        injection hv125_6 with hva_ hvn_ hvc_
                                        rw [hva_] at ge125_6
                                        rw [hvc_] at ul125_6
                                        have HL125_6 := Aside0.mk (show Kd.V k59 59 _ w.heap.size _ _ ((rd_T32 t113 x6_1).f3.f3) from Kd.V_mk ul125_6 ge125_6)
                                        clear hva_ hvn_ hvc_ ge125_6 ul125_6
                                        have hv125_7 := hcc125 7 _ rfl
                                        rw [add_field _ _ 7 (by omega)] at hv125_7
                                        replace hv125_7 := Option.some.inj (hv125_7.symm.trans hx125_7)
                                        injection hv125_7 with hva_ hvn_ hvc_
                                        rw [hva_] at ge125_7
                                        rw [hvc_] at ul125_7
                                        have HL125_7 := Aside0.mk (show Kd.V k30 30 _ w.heap.size _ _ ((rd_T32 t113 x6_1).f3.f4) from Kd.V_mk ul125_7 ge125_7)
                                        clear hva_ hvn_ hvc_ ge125_7 ul125_7
                                        clear hcc125 hce125
                                        have HR125_6 := Aside0.mk hi125_6
                                        have HC125_6 := Aside0.mk hl125_6
                                        clear hi125_6 hl125_6
                                        have HR125_7 := Aside0.mk hi125_7
                                        have HC125_7 := Aside0.mk hl125_7
                                        clear hi125_7 hl125_7
                                        replace p125 := eq_true p125
                                        replace q125 := eq_true q125
                                        have ea_ := Option.some.inj (hx119_6.symm.trans hx125_6)
                                        injection ea_ with ea_ en_ ec_
                                        subst ea_
                                        subst ec_
                                        clear en_
                                        have ea_ := Option.some.inj (hx119_7.symm.trans hx125_7)
                                        injection ea_ with ea_ en_ ec_
                                        subst ea_
                                        subst ec_
                                        clear en_
                                        have p126 : 0 ≤ ((ji20) : Int) := of_decide_eq_true (by first | (with_reducible assumption) | assumption)
                                        have q126 : (ji20) < (t113.length : Int) := of_decide_eq_true (by first | (with_reducible assumption) | assumption)
                                        obtain ⟨ad126, A126_6, c126_6, A126_7, c126_7, e126, hx126_0, hx126_1, hx126_2, hx126_3, hx126_4, hx126_5, hx126_6, hx126_7, hx126_8, hl126_6, hi126_6, hl126_7, hi126_7⟩ := at_T32 (Kd.V_reads' HO_5.out).2.2 (ji20) p126 q126
                                        obtain rfl : ad118 = ad126 := (by injection e126)
                                        obtain ⟨ce126, hce126, hMe126, hcc126⟩ := Kd.V_get HO_5.out z32 (ji20) p126 (by first | exact q126 | exact of_decide_eq_true (by first | (with_reducible assumption) | assumption) | (have e_ := (Kd.V_reads' HO_5.out).1; omega))
                                        obtain ⟨ua126_6, uc126_6, ua126_7, uc126_7, rfl, ul126_6, ge126_6, ul126_7, ge126_7⟩ := k32_openF hMe126
                                        have hv126_6 := hcc126 6 _ rfl
                                        rw [add_field _ _ 6 (by omega)] at hv126_6
                                        replace hv126_6 := Option.some.inj (hv126_6.symm.trans hx126_6)
                                        injection hv126_6 with hva_ hvn_ hvc_
                                        rw [hva_] at ge126_6
                                        rw [hvc_] at ul126_6
                                        have HL126_6 := Aside0.mk (show Kd.V k59 59 _ w.heap.size _ _ ((rd_T32 t113 (ji20)).f3.f3) from Kd.V_mk ul126_6 ge126_6)
                                        clear hva_ hvn_ hvc_ ge126_6 ul126_6
                                        have hv126_7 := hcc126 7 _ rfl
                                        rw [add_field _ _ 7 (by omega)] at hv126_7
                                        replace hv126_7 := Option.some.inj (hv126_7.symm.trans hx126_7)
                                        injection hv126_7 with hva_ hvn_ hvc_
                                        rw [hva_] at ge126_7
                                        rw [hvc_] at ul126_7
                                        have HL126_7 := Aside0.mk (show Kd.V k30 30 _ w.heap.size _ _ ((rd_T32 t113 (ji20)).f3.f4) from Kd.V_mk ul126_7 ge126_7)
                                        clear hva_ hvn_ hvc_ ge126_7 ul126_7
                                        clear hcc126 hce126
                                        have HR126_6 := Aside0.mk hi126_6
                                        have HC126_6 := Aside0.mk hl126_6
                                        clear hi126_6 hl126_6
                                        have HR126_7 := Aside0.mk hi126_7
                                        have HC126_7 := Aside0.mk hl126_7
                                        clear hi126_7 hl126_7
                                        replace p126 := eq_true p126
                                        replace q126 := eq_true q126
                                        have ea_ := Option.some.inj (hx118_6.symm.trans hx126_6)
                                        injection ea_ with ea_ en_ ec_
                                        subst ea_
                                        subst ec_
                                        clear en_
                                        have ea_ := Option.some.inj (hx118_7.symm.trans hx126_7)
                                        injection ea_ with ea_ en_ ec_
                                        subst ea_
                                        subst ec_
                                        clear en_
                                        have p127 : 0 ≤ (x6_1 : Int) := of_decide_eq_true (by first | (with_reducible assumption) | assumption)
                                        have q127 : x6_1 < (t113.length : Int) := of_decide_eq_true (by first | (with_reducible assumption) | assumption)
                                        obtain ⟨ad127, A127_6, c127_6, A127_7, c127_7, e127, hx127_0, hx127_1, hx127_2, hx127_3, hx127_4, hx127_5, hx127_6, hx127_7, hx127_8, hl127_6, hi127_6, hl127_7, hi127_7⟩ := at_T32 (Kd.V_reads' HO_5.out).2.2 x6_1 p127 q127
                                        obtain rfl : ad118 = ad127 := (by injection e127)
                                        obtain ⟨ce127, hce127, hMe127, hcc127⟩ := Kd.V_get HO_5.out z32 x6_1 p127 (by first | exact q127 | exact of_decide_eq_true (by first | (with_reducible assumption) | assumption) | (have e_ := (Kd.V_reads' HO_5.out).1; omega))
                                        obtain ⟨ua127_6, uc127_6, ua127_7, uc127_7, rfl, ul127_6, ge127_6, ul127_7, ge127_7⟩ := k32_openF hMe127
                                        have hv127_6 := hcc127 6 _ rfl
                                        rw [add_field _ _ 6 (by omega)] at hv127_6
                                        replace hv127_6 := Option.some.inj (hv127_6.symm.trans hx127_6)
                                        injection hv127_6 with hva_ hvn_ hvc_
                                        rw [hva_] at ge127_6
                                        rw [hvc_] at ul127_6
                                        have HL127_6 := Aside0.mk (show Kd.V k59 59 _ w.heap.size _ _ ((rd_T32 t113 x6_1).f3.f3) from Kd.V_mk ul127_6 ge127_6)
                                        clear hva_ hvn_ hvc_ ge127_6 ul127_6
                                        have hv127_7 := hcc127 7 _ rfl
                                        rw [add_field _ _ 7 (by omega)] at hv127_7
                                        replace hv127_7 := Option.some.inj (hv127_7.symm.trans hx127_7)
                                        injection hv127_7 with hva_ hvn_ hvc_
                                        rw [hva_] at ge127_7
                                        rw [hvc_] at ul127_7
                                        have HL127_7 := Aside0.mk (show Kd.V k30 30 _ w.heap.size _ _ ((rd_T32 t113 x6_1).f3.f4) from Kd.V_mk ul127_7 ge127_7)
                                        clear hva_ hvn_ hvc_ ge127_7 ul127_7
                                        clear hcc127 hce127
                                        have HR127_6 := Aside0.mk hi127_6
                                        have HC127_6 := Aside0.mk hl127_6
                                        clear hi127_6 hl127_6
                                        have HR127_7 := Aside0.mk hi127_7
                                        have HC127_7 := Aside0.mk hl127_7
                                        clear hi127_7 hl127_7
                                        replace p127 := eq_true p127
                                        replace q127 := eq_true q127
                                        have ea_ := Option.some.inj (hx119_6.symm.trans hx127_6)
                                        injection ea_ with ea_ en_ ec_
                                        subst ea_
                                        subst ec_
                                        clear en_
                                        have ea_ := Option.some.inj (hx119_7.symm.trans hx127_7)
                                        injection ea_ with ea_ en_ ec_
                                        subst ea_
                                        subst ec_
                                        clear en_
                                        go_wp2
                                        repeat (go_quiet (fail); try go_wp2)
                                        go_ret
                                        exact ⟨by first | rfl | (simp [errW_none, errW_some] <;> rfl) | (simp only [← hji20]; first | rfl | (simp [errW_none, errW_some] <;> rfl)) | (simp [*, errW_none, errW_some] <;> rfl), by repeat (first | (with_reducible first | exact HB.out | apply below_alloc | apply pw_below_drewN | apply below_drew1) | exact HB.out)⟩
                                      · rw [if_neg c29] at H
                                        have c29b0 : (Op.bytesLess (((rd_T32 t113 x6_1).f2).toList) (((rd_T32 t113 (ji20)).f2).toList)) = false := by simpa using c29
                                        have c29b1 := Go.Proofs.Ytjbfjgaghjggpaa.Byt.bl_false c29b0
                                        clear c29
                                        have H' := Aside0.mk H
                                        clear H
                                        have p118 : 0 ≤ ((ji20) : Int) := of_decide_eq_true (by first | (with_reducible assumption) | assumption)
                                        have q118 : (ji20) < (t113.length : Int) := of_decide_eq_true (by first | (with_reducible assumption) | assumption)
                                        obtain ⟨ad118, A118_6, c118_6, A118_7, c118_7, e118, hx118_0, hx118_1, hx118_2, hx118_3, hx118_4, hx118_5, hx118_6, hx118_7, hx118_8, hl118_6, hi118_6, hl118_7, hi118_7⟩ := at_T32 (Kd.V_reads' HO_5.out).2.2 (ji20) p118 q118
                                        cases e118
                                        obtain ⟨ce118, hce118, hMe118, hcc118⟩ := Kd.V_get HO_5.out z32 (ji20) p118 (by first | exact q118 | exact of_decide_eq_true (by first | (with_reducible assumption) | assumption) | (have e_ := (Kd.V_reads' HO_5.out).1; omega))
                                        obtain ⟨ua118_6, uc118_6, ua118_7, uc118_7, rfl, ul118_6, ge118_6, ul118_7, ge118_7⟩ := k32_openF hMe118
                                        have hv118_6 := hcc118 6 _ rfl
                                        rw [add_field _ _ 6 (by omega)] at hv118_6
                                        replace hv118_6 := Option.some.inj (hv118_6.symm.trans hx118_6)
                                        injection hv118_6 with hva_ hvn_ hvc_
                                        rw [hva_] at ge118_6
                                        rw [hvc_] at ul118_6
                                        have HL118_6 := Aside0.mk (show Kd.V k59 59 _ w.heap.size _ _ ((rd_T32 t113 (ji20)).f3.f3) from Kd.V_mk ul118_6 ge118_6)
                                        clear hva_ hvn_ hvc_ ge118_6 ul118_6
                                        have hv118_7 := hcc118 7 _ rfl
                                        rw [add_field _ _ 7 (by omega)] at hv118_7
                                        replace hv118_7 := Option.some.inj (hv118_7.symm.trans hx118_7)
                                        injection hv118_7 with hva_ hvn_ hvc_
                                        rw [hva_] at ge118_7
                                        rw [hvc_] at ul118_7
                                        have HL118_7 := Aside0.mk (show Kd.V k30 30 _ w.heap.size _ _ ((rd_T32 t113 (ji20)).f3.f4) from Kd.V_mk ul118_7 ge118_7)
                                        clear hva_ hvn_ hvc_ ge118_7 ul118_7
                                        clear hcc118 hce118
                                        have HR118_6 := Aside0.mk hi118_6
                                        have HC118_6 := Aside0.mk hl118_6
                                        clear hi118_6 hl118_6
                                        have HR118_7 := Aside0.mk hi118_7
                                        have HC118_7 := Aside0.mk hl118_7
                                        clear hi118_7 hl118_7
                                        replace p118 := eq_true p118
                                        replace q118 := eq_true q118
                                        have p119 : 0 ≤ (x6_1 : Int) := of_decide_eq_true (by first | (with_reducible assumption) | assumption)
                                        have q119 : x6_1 < (t113.length : Int) := of_decide_eq_true (by first | (with_reducible assumption) | assumption)
                                        obtain ⟨ad119, A119_6, c119_6, A119_7, c119_7, e119, hx119_0, hx119_1, hx119_2, hx119_3, hx119_4, hx119_5, hx119_6, hx119_7, hx119_8, hl119_6, hi119_6, hl119_7, hi119_7⟩ := at_T32 (Kd.V_reads' HO_5.out).2.2 x6_1 p119 q119
                                        obtain rfl : ad118 = ad119 := (by injection e119)
                                        obtain ⟨ce119, hce119, hMe119, hcc119⟩ := Kd.V_get HO_5.out z32 x6_1 p119 (by first | exact q119 | exact of_decide_eq_true (by first | (with_reducible assumption) | assumption) | (have e_ := (Kd.V_reads' HO_5.out).1; omega))
                                        obtain ⟨ua119_6, uc119_6, ua119_7, uc119_7, rfl, ul119_6, ge119_6, ul119_7, ge119_7⟩ := k32_openF hMe119
                                        have hv119_6 := hcc119 6 _ rfl
                                        rw [add_field _ _ 6 (by omega)] at hv119_6
                                        replace hv119_6 := Option.some.inj (hv119_6.symm.trans hx119_6)
                                        injection hv119_6 with hva_ hvn_ hvc_
                                        rw [hva_] at ge119_6
                                        rw [hvc_] at ul119_6
                                        have HL119_6 := Aside0.mk (show Kd.V k59 59 _ w.heap.size _ _ ((rd_T32 t113 x6_1).f3.f3) from Kd.V_mk ul119_6 ge119_6)
                                        clear hva_ hvn_ hvc_ ge119_6 ul119_6
                                        have hv119_7 := hcc119 7 _ rfl
                                        rw [add_field _ _ 7 (by omega)] at hv119_7
                                        replace hv119_7 := Option.some.inj (hv119_7.symm.trans hx119_7)
                                        injection hv119_7 with hva_ hvn_ hvc_
                                        rw [hva_] at ge119_7
                                        rw [hvc_] at ul119_7
                                        have HL119_7 := Aside0.mk (show Kd.V k30 30 _ w.heap.size _ _ ((rd_T32 t113 x6_1).f3.f4) from Kd.V_mk ul119_7 ge119_7)
                                        clear hva_ hvn_ hvc_ ge119_7 ul119_7
                                        clear hcc119 hce119
                                        have HR119_6 := Aside0.mk hi119_6
                                        have HC119_6 := Aside0.mk hl119_6
                                        clear hi119_6 hl119_6
                                        have HR119_7 := Aside0.mk hi119_7
                                        have HC119_7 := Aside0.mk hl119_7
                                        clear hi119_7 hl119_7
                                        replace p119 := eq_true p119
                                        replace q119 := eq_true q119
                                        have p120 : 0 ≤ ((ji20) : Int) := of_decide_eq_true (by first | (with_reducible assumption) | assumption)
                                        have q120 : (ji20) < (t113.length : Int) := of_decide_eq_true (by first | (with_reducible assumption) | assumption)
                                        obtain ⟨ad120, A120_6, c120_6, A120_7, c120_7, e120, hx120_0, hx120_1, hx120_2, hx120_3, hx120_4, hx120_5, hx120_6, hx120_7, hx120_8, hl120_6, hi120_6, hl120_7, hi120_7⟩ := at_T32 (Kd.V_reads' HO_5.out).2.2 (ji20) p120 q120
                                        obtain rfl : ad118 = ad120 := (by injection e120)
                                        obtain ⟨ce120, hce120, hMe120, hcc120⟩ := Kd.V_get HO_5.out z32 (ji20) p120 (by first | exact q120 | exact of_decide_eq_true (by first | (with_reducible assumption) | assumption) | (have e_ := (Kd.V_reads' HO_5.out).1; omega))
                                        obtain ⟨ua120_6, uc120_6, ua120_7, uc120_7, rfl, ul120_6, ge120_6, ul120_7, ge120_7⟩ := k32_openF hMe120
                                        have hv120_6 := hcc120 6 _ rfl
                                        rw [add_field _ _ 6 (by omega)] at hv120_6
                                        replace hv120_6 := Option.some.inj (hv120_6.symm.trans hx120_6)
                                        injection hv120_6 with hva_ hvn_ hvc_
                                        rw [hva_] at ge120_6
                                        rw [hvc_] at ul120_6
                                        have HL120_6 := Aside0.mk (show Kd.V k59 59 _ w.heap.size _ _ ((rd_T32 t113 (ji20)).f3.f3) from Kd.V_mk ul120_6 ge120_6)
                                        clear hva_ hvn_ hvc_ ge120_6 ul120_6
                                        have hv120_7 := hcc120 7 _ rfl
                                        rw [add_field _ _ 7 (by omega)] at hv120_7
                                        replace hv120_7 := Option.some.inj (hv120_7.symm.trans hx120_7)
                                        injection hv120_7 with hva_ hvn_ hvc_
                                        rw [hva_] at ge120_7
                                        rw [hvc_] at ul120_7
                                        have HL120_7 := Aside0.mk (show Kd.V k30 30 _ w.heap.size _ _ ((rd_T32 t113 (ji20)).f3.f4) from Kd.V_mk ul120_7 ge120_7)
                                        clear hva_ hvn_ hvc_ ge120_7 ul120_7
                                        clear hcc120 hce120
                                        have HR120_6 := Aside0.mk hi120_6
                                        have HC120_6 := Aside0.mk hl120_6
                                        clear hi120_6 hl120_6
                                        have HR120_7 := Aside0.mk hi120_7
                                        have HC120_7 := Aside0.mk hl120_7
                                        clear hi120_7 hl120_7
                                        replace p120 := eq_true p120
                                        replace q120 := eq_true q120
                                        have ea_ := Option.some.inj (hx118_6.symm.trans hx120_6)
                                        injection ea_ with ea_ en_ ec_
                                        subst ea_
                                        subst ec_
                                        clear en_
                                        have ea_ := Option.some.inj (hx118_7.symm.trans hx120_7)
                                        injection ea_ with ea_ en_ ec_
                                        subst ea_
                                        subst ec_
                                        clear en_
                                        have p121 : 0 ≤ (x6_1 : Int) := of_decide_eq_true (by first | (with_reducible assumption) | assumption)
                                        have q121 : x6_1 < (t113.length : Int) := of_decide_eq_true (by first | (with_reducible assumption) | assumption)
                                        obtain ⟨ad121, A121_6, c121_6, A121_7, c121_7, e121, hx121_0, hx121_1, hx121_2, hx121_3, hx121_4, hx121_5, hx121_6, hx121_7, hx121_8, hl121_6, hi121_6, hl121_7, hi121_7⟩ := at_T32 (Kd.V_reads' HO_5.out).2.2 x6_1 p121 q121
                                        obtain rfl : ad118 = ad121 := (by injection e121)
                                        obtain ⟨ce121, hce121, hMe121, hcc121⟩ := Kd.V_get HO_5.out z32 x6_1 p121 (by first | exact q121 | exact of_decide_eq_true (by first | (with_reducible assumption) | assumption) | (have e_ := (Kd.V_reads' HO_5.out).1; omega))
                                        obtain ⟨ua121_6, uc121_6, ua121_7, uc121_7, rfl, ul121_6, ge121_6, ul121_7, ge121_7⟩ := k32_openF hMe121
                                        have hv121_6 := hcc121 6 _ rfl
                                        rw [add_field _ _ 6 (by omega)] at hv121_6
                                        replace hv121_6 := Option.some.inj (hv121_6.symm.trans hx121_6)
                                        injection hv121_6 with hva_ hvn_ hvc_
                                        rw [hva_] at ge121_6
                                        rw [hvc_] at ul121_6
                                        have HL121_6 := Aside0.mk (show Kd.V k59 59 _ w.heap.size _ _ ((rd_T32 t113 x6_1).f3.f3) from Kd.V_mk ul121_6 ge121_6)
                                        clear hva_ hvn_ hvc_ ge121_6 ul121_6
                                        have hv121_7 := hcc121 7 _ rfl
                                        rw [add_field _ _ 7 (by omega)] at hv121_7
                                        replace hv121_7 := Option.some.inj (hv121_7.symm.trans hx121_7)
                                        injection hv121_7 with hva_ hvn_ hvc_
                                        rw [hva_] at ge121_7
                                        rw [hvc_] at ul121_7
                                        have HL121_7 := Aside0.mk (show Kd.V k30 30 _ w.heap.size _ _ ((rd_T32 t113 x6_1).f3.f4) from Kd.V_mk ul121_7 ge121_7)
                                        clear hva_ hvn_ hvc_ ge121_7 ul121_7
                                        clear hcc121 hce121
                                        have HR121_6 := Aside0.mk hi121_6
                                        have HC121_6 := Aside0.mk hl121_6
                                        clear hi121_6 hl121_6
                                        have HR121_7 := Aside0.mk hi121_7
                                        have HC121_7 := Aside0.mk hl121_7
                                        clear hi121_7 hl121_7
                                        replace p121 := eq_true p121
                                        replace q121 := eq_true q121
                                        have ea_ := Option.some.inj (hx119_6.symm.trans hx121_6)
                                        injection ea_ with ea_ en_ ec_
                                        subst ea_
                                        subst ec_
                                        clear en_
                                        have ea_ := Option.some.inj (hx119_7.symm.trans hx121_7)
                                        injection ea_ with ea_ en_ ec_
                                        subst ea_
                                        subst ec_
                                        clear en_
                                        have p122 : 0 ≤ ((ji20) : Int) := of_decide_eq_true (by first | (with_reducible assumption) | assumption)
                                        have q122 : (ji20) < (t113.length : Int) := of_decide_eq_true (by first | (with_reducible assumption) | assumption)
                                        obtain ⟨ad122, A122_6, c122_6, A122_7, c122_7, e122, hx122_0, hx122_1, hx122_2, hx122_3, hx122_4, hx122_5, hx122_6, hx122_7, hx122_8, hl122_6, hi122_6, hl122_7, hi122_7⟩ := at_T32 (Kd.V_reads' HO_5.out).2.2 (ji20) p122 q122
                                        obtain rfl : ad118 = ad122 := (by injection e122)
                                        obtain ⟨ce122, hce122, hMe122, hcc122⟩ := Kd.V_get HO_5.out z32 (ji20) p122 (by first | exact q122 | exact of_decide_eq_true (by first | (with_reducible assumption) | assumption) | (have e_ := (Kd.V_reads' HO_5.out).1; omega))
                                        obtain ⟨ua122_6, uc122_6, ua122_7, uc122_7, rfl, ul122_6, ge122_6, ul122_7, ge122_7⟩ := k32_openF hMe122
                                        have hv122_6 := hcc122 6 _ rfl
                                        rw [add_field _ _ 6 (by omega)] at hv122_6
                                        replace hv122_6 := Option.some.inj (hv122_6.symm.trans hx122_6)
                                        injection hv122_6 with hva_ hvn_ hvc_
                                        rw [hva_] at ge122_6
                                        rw [hvc_] at ul122_6
                                        have HL122_6 := Aside0.mk (show Kd.V k59 59 _ w.heap.size _ _ ((rd_T32 t113 (ji20)).f3.f3) from Kd.V_mk ul122_6 ge122_6)
                                        clear hva_ hvn_ hvc_ ge122_6 ul122_6
                                        have hv122_7 := hcc122 7 _ rfl
                                        rw [add_field _ _ 7 (by omega)] at hv122_7
                                        replace hv122_7 := Option.some.inj (hv122_7.symm.trans hx122_7)
                                        injection hv122_7 with hva_ hvn_ hvc_
                                        rw [hva_] at ge122_7
                                        rw [hvc_] at ul122_7
                                        have HL122_7 := Aside0.mk (show Kd.V k30 30 _ w.heap.size _ _ ((rd_T32 t113 (ji20)).f3.f4) from Kd.V_mk ul122_7 ge122_7)
                                        clear hva_ hvn_ hvc_ ge122_7 ul122_7
                                        clear hcc122 hce122
                                        have HR122_6 := Aside0.mk hi122_6
                                        have HC122_6 := Aside0.mk hl122_6
                                        clear hi122_6 hl122_6
                                        have HR122_7 := Aside0.mk hi122_7
                                        have HC122_7 := Aside0.mk hl122_7
                                        clear hi122_7 hl122_7
                                        replace p122 := eq_true p122
                                        replace q122 := eq_true q122
                                        have ea_ := Option.some.inj (hx118_6.symm.trans hx122_6)
                                        injection ea_ with ea_ en_ ec_
                                        subst ea_
                                        subst ec_
                                        clear en_
                                        have ea_ := Option.some.inj (hx118_7.symm.trans hx122_7)
                                        injection ea_ with ea_ en_ ec_
                                        subst ea_
                                        subst ec_
                                        clear en_
                                        have p123 : 0 ≤ (x6_1 : Int) := of_decide_eq_true (by first | (with_reducible assumption) | assumption)
                                        have q123 : x6_1 < (t113.length : Int) := of_decide_eq_true (by first | (with_reducible assumption) | assumption)
                                        obtain ⟨ad123, A123_6, c123_6, A123_7, c123_7, e123, hx123_0, hx123_1, hx123_2, hx123_3, hx123_4, hx123_5, hx123_6, hx123_7, hx123_8, hl123_6, hi123_6, hl123_7, hi123_7⟩ := at_T32 (Kd.V_reads' HO_5.out).2.2 x6_1 p123 q123
                                        obtain rfl : ad118 = ad123 := (by injection e123)
                                        obtain ⟨ce123, hce123, hMe123, hcc123⟩ := Kd.V_get HO_5.out z32 x6_1 p123 (by first | exact q123 | exact of_decide_eq_true (by first | (with_reducible assumption) | assumption) | (have e_ := (Kd.V_reads' HO_5.out).1; omega))
                                        obtain ⟨ua123_6, uc123_6, ua123_7, uc123_7, rfl, ul123_6, ge123_6, ul123_7, ge123_7⟩ := k32_openF hMe123
                                        have hv123_6 := hcc123 6 _ rfl
                                        rw [add_field _ _ 6 (by omega)] at hv123_6
                                        replace hv123_6 := Option.some.inj (hv123_6.symm.trans hx123_6)
                                        injection hv123_6 with hva_ hvn_ hvc_
                                        rw [hva_] at ge123_6
                                        rw [hvc_] at ul123_6
                                        have HL123_6 := Aside0.mk (show Kd.V k59 59 _ w.heap.size _ _ ((rd_T32 t113 x6_1).f3.f3) from Kd.V_mk ul123_6 ge123_6)
                                        clear hva_ hvn_ hvc_ ge123_6 ul123_6
                                        have hv123_7 := hcc123 7 _ rfl
                                        rw [add_field _ _ 7 (by omega)] at hv123_7
                                        replace hv123_7 := Option.some.inj (hv123_7.symm.trans hx123_7)
                                        injection hv123_7 with hva_ hvn_ hvc_
                                        rw [hva_] at ge123_7
                                        rw [hvc_] at ul123_7
                                        have HL123_7 := Aside0.mk (show Kd.V k30 30 _ w.heap.size _ _ ((rd_T32 t113 x6_1).f3.f4) from Kd.V_mk ul123_7 ge123_7)
                                        clear hva_ hvn_ hvc_ ge123_7 ul123_7
                                        clear hcc123 hce123
                                        have HR123_6 := Aside0.mk hi123_6
                                        have HC123_6 := Aside0.mk hl123_6
                                        clear hi123_6 hl123_6
                                        have HR123_7 := Aside0.mk hi123_7
                                        have HC123_7 := Aside0.mk hl123_7
                                        clear hi123_7 hl123_7
                                        replace p123 := eq_true p123
                                        replace q123 := eq_true q123
                                        have ea_ := Option.some.inj (hx119_6.symm.trans hx123_6)
                                        injection ea_ with ea_ en_ ec_
                                        subst ea_
                                        subst ec_
                                        clear en_
                                        have ea_ := Option.some.inj (hx119_7.symm.trans hx123_7)
                                        injection ea_ with ea_ en_ ec_
                                        subst ea_
                                        subst ec_
                                        clear en_
                                        have p124 : 0 ≤ ((ji20) : Int) := of_decide_eq_true (by first | (with_reducible assumption) | assumption)
                                        have q124 : (ji20) < (t113.length : Int) := of_decide_eq_true (by first | (with_reducible assumption) | assumption)
                                        obtain ⟨ad124, A124_6, c124_6, A124_7, c124_7, e124, hx124_0, hx124_1, hx124_2, hx124_3, hx124_4, hx124_5, hx124_6, hx124_7, hx124_8, hl124_6, hi124_6, hl124_7, hi124_7⟩ := at_T32 (Kd.V_reads' HO_5.out).2.2 (ji20) p124 q124
                                        obtain rfl : ad118 = ad124 := (by injection e124)
                                        obtain ⟨ce124, hce124, hMe124, hcc124⟩ := Kd.V_get HO_5.out z32 (ji20) p124 (by first | exact q124 | exact of_decide_eq_true (by first | (with_reducible assumption) | assumption) | (have e_ := (Kd.V_reads' HO_5.out).1; omega))
                                        obtain ⟨ua124_6, uc124_6, ua124_7, uc124_7, rfl, ul124_6, ge124_6, ul124_7, ge124_7⟩ := k32_openF hMe124
                                        have hv124_6 := hcc124 6 _ rfl
                                        rw [add_field _ _ 6 (by omega)] at hv124_6
                                        replace hv124_6 := Option.some.inj (hv124_6.symm.trans hx124_6)
                                        injection hv124_6 with hva_ hvn_ hvc_
                                        rw [hva_] at ge124_6
                                        rw [hvc_] at ul124_6
                                        have HL124_6 := Aside0.mk (show Kd.V k59 59 _ w.heap.size _ _ ((rd_T32 t113 (ji20)).f3.f3) from Kd.V_mk ul124_6 ge124_6)
                                        clear hva_ hvn_ hvc_ ge124_6 ul124_6
                                        have hv124_7 := hcc124 7 _ rfl
                                        rw [add_field _ _ 7 (by omega)] at hv124_7
                                        replace hv124_7 := Option.some.inj (hv124_7.symm.trans hx124_7)
                                        injection hv124_7 with hva_ hvn_ hvc_
                                        rw [hva_] at ge124_7
                                        rw [hvc_] at ul124_7
                                        have HL124_7 := Aside0.mk (show Kd.V k30 30 _ w.heap.size _ _ ((rd_T32 t113 (ji20)).f3.f4) from Kd.V_mk ul124_7 ge124_7)
                                        clear hva_ hvn_ hvc_ ge124_7 ul124_7
                                        clear hcc124 hce124
                                        have HR124_6 := Aside0.mk hi124_6
                                        have HC124_6 := Aside0.mk hl124_6
                                        clear hi124_6 hl124_6
                                        have HR124_7 := Aside0.mk hi124_7
                                        have HC124_7 := Aside0.mk hl124_7
                                        clear hi124_7 hl124_7
                                        replace p124 := eq_true p124
                                        replace q124 := eq_true q124
                                        have ea_ := Option.some.inj (hx118_6.symm.trans hx124_6)
                                        injection ea_ with ea_ en_ ec_
                                        subst ea_
                                        subst ec_
                                        clear en_
                                        have ea_ := Option.some.inj (hx118_7.symm.trans hx124_7)
                                        injection ea_ with ea_ en_ ec_
                                        subst ea_
                                        subst ec_
                                        clear en_
                                        have p125 : 0 ≤ (x6_1 : Int) := of_decide_eq_true (by first | (with_reducible assumption) | assumption)
                                        have q125 : x6_1 < (t113.length : Int) := of_decide_eq_true (by first | (with_reducible assumption) | assumption)
                                        obtain ⟨ad125, A125_6, c125_6, A125_7, c125_7, e125, hx125_0, hx125_1, hx125_2, hx125_3, hx125_4, hx125_5, hx125_6, hx125_7, hx125_8, hl125_6, hi125_6, hl125_7, hi125_7⟩ := at_T32 (Kd.V_reads' HO_5.out).2.2 x6_1 p125 q125
                                        obtain rfl : ad118 = ad125 := (by injection e125)
                                        obtain ⟨ce125, hce125, hMe125, hcc125⟩ := Kd.V_get HO_5.out z32 x6_1 p125 (by first | exact q125 | exact of_decide_eq_true (by first | (with_reducible assumption) | assumption) | (have e_ := (Kd.V_reads' HO_5.out).1; omega))
                                        obtain ⟨ua125_6, uc125_6, ua125_7, uc125_7, rfl, ul125_6, ge125_6, ul125_7, ge125_7⟩ := k32_openF hMe125
                                        have hv125_6 := hcc125 6 _ rfl
                                        rw [add_field _ _ 6 (by omega)] at hv125_6
                                        replace hv125_6 := Option.some.inj (hv125_6.symm.trans hx125_6)
                                        injection hv125_6 with hva_ hvn_ hvc_
                                        rw [hva_] at ge125_6
                                        rw [hvc_] at ul125_6
                                        have HL125_6 := Aside0.mk (show Kd.V k59 59 _ w.heap.size _ _ ((rd_T32 t113 x6_1).f3.f3) from Kd.V_mk ul125_6 ge125_6)
                                        clear hva_ hvn_ hvc_ ge125_6 ul125_6
                                        have hv125_7 := hcc125 7 _ rfl
                                        rw [add_field _ _ 7 (by omega)] at hv125_7
                                        replace hv125_7 := Option.some.inj (hv125_7.symm.trans hx125_7)
                                        injection hv125_7 with hva_ hvn_ hvc_
                                        rw [hva_] at ge125_7
                                        rw [hvc_] at ul125_7
                                        have HL125_7 := Aside0.mk (show Kd.V k30 30 _ w.heap.size _ _ ((rd_T32 t113 x6_1).f3.f4) from Kd.V_mk ul125_7 ge125_7)
                                        clear hva_ hvn_ hvc_ ge125_7 ul125_7
                                        clear hcc125 hce125
                                        have HR125_6 := Aside0.mk hi125_6
                                        have HC125_6 := Aside0.mk hl125_6
                                        clear hi125_6 hl125_6
                                        have HR125_7 := Aside0.mk hi125_7
                                        have HC125_7 := Aside0.mk hl125_7
                                        clear hi125_7 hl125_7
                                        replace p125 := eq_true p125
                                        replace q125 := eq_true q125
                                        have ea_ := Option.some.inj (hx119_6.symm.trans hx125_6)
                                        injection ea_ with ea_ en_ ec_
                                        subst ea_
                                        subst ec_
                                        clear en_
                                        have ea_ := Option.some.inj (hx119_7.symm.trans hx125_7)
                                        injection ea_ with ea_ en_ ec_
                                        subst ea_
                                        subst ec_
                                        clear en_
                                        have p126 : 0 ≤ ((ji20) : Int) := of_decide_eq_true (by first | (with_reducible assumption) | assumption)
                                        have q126 : (ji20) < (t113.length : Int) := of_decide_eq_true (by first | (with_reducible assumption) | assumption)
                                        obtain ⟨ad126, A126_6, c126_6, A126_7, c126_7, e126, hx126_0, hx126_1, hx126_2, hx126_3, hx126_4, hx126_5, hx126_6, hx126_7, hx126_8, hl126_6, hi126_6, hl126_7, hi126_7⟩ := at_T32 (Kd.V_reads' HO_5.out).2.2 (ji20) p126 q126
                                        obtain rfl : ad118 = ad126 := (by injection e126)
                                        obtain ⟨ce126, hce126, hMe126, hcc126⟩ := Kd.V_get HO_5.out z32 (ji20) p126 (by first | exact q126 | exact of_decide_eq_true (by first | (with_reducible assumption) | assumption) | (have e_ := (Kd.V_reads' HO_5.out).1; omega))
                                        obtain ⟨ua126_6, uc126_6, ua126_7, uc126_7, rfl, ul126_6, ge126_6, ul126_7, ge126_7⟩ := k32_openF hMe126
                                        have hv126_6 := hcc126 6 _ rfl
                                        rw [add_field _ _ 6 (by omega)] at hv126_6
                                        replace hv126_6 := Option.some.inj (hv126_6.symm.trans hx126_6)
                                        injection hv126_6 with hva_ hvn_ hvc_
                                        rw [hva_] at ge126_6
                                        rw [hvc_] at ul126_6
                                        have HL126_6 := Aside0.mk (show Kd.V k59 59 _ w.heap.size _ _ ((rd_T32 t113 (ji20)).f3.f3) from Kd.V_mk ul126_6 ge126_6)
                                        clear hva_ hvn_ hvc_ ge126_6 ul126_6
                                        have hv126_7 := hcc126 7 _ rfl
                                        rw [add_field _ _ 7 (by omega)] at hv126_7
                                        replace hv126_7 := Option.some.inj (hv126_7.symm.trans hx126_7)
                                        injection hv126_7 with hva_ hvn_ hvc_
                                        rw [hva_] at ge126_7
                                        rw [hvc_] at ul126_7
                                        have HL126_7 := Aside0.mk (show Kd.V k30 30 _ w.heap.size _ _ ((rd_T32 t113 (ji20)).f3.f4) from Kd.V_mk ul126_7 ge126_7)
                                        clear hva_ hvn_ hvc_ ge126_7 ul126_7
                                        clear hcc126 hce126
                                        have HR126_6 := Aside0.mk hi126_6
                                        have HC126_6 := Aside0.mk hl126_6
                                        clear hi126_6 hl126_6
                                        have HR126_7 := Aside0.mk hi126_7
                                        have HC126_7 := Aside0.mk hl126_7
                                        clear hi126_7 hl126_7
                                        replace p126 := eq_true p126
                                        replace q126 := eq_true q126
                                        have ea_ := Option.some.inj (hx118_6.symm.trans hx126_6)
                                        injection ea_ with ea_ en_ ec_
                                        subst ea_
                                        subst ec_
                                        clear en_
                                        have ea_ := Option.some.inj (hx118_7.symm.trans hx126_7)
                                        injection ea_ with ea_ en_ ec_
                                        subst ea_
                                        subst ec_
                                        clear en_
                                        have p127 : 0 ≤ (x6_1 : Int) := of_decide_eq_true (by first | (with_reducible assumption) | assumption)
                                        have q127 : x6_1 < (t113.length : Int) := of_decide_eq_true (by first | (with_reducible assumption) | assumption)
                                        obtain ⟨ad127, A127_6, c127_6, A127_7, c127_7, e127, hx127_0, hx127_1, hx127_2, hx127_3, hx127_4, hx127_5, hx127_6, hx127_7, hx127_8, hl127_6, hi127_6, hl127_7, hi127_7⟩ := at_T32 (Kd.V_reads' HO_5.out).2.2 x6_1 p127 q127
                                        obtain rfl : ad118 = ad127 := (by injection e127)
                                        obtain ⟨ce127, hce127, hMe127, hcc127⟩ := Kd.V_get HO_5.out z32 x6_1 p127 (by first | exact q127 | exact of_decide_eq_true (by first | (with_reducible assumption) | assumption) | (have e_ := (Kd.V_reads' HO_5.out).1; omega))
                                        obtain ⟨ua127_6, uc127_6, ua127_7, uc127_7, rfl, ul127_6, ge127_6, ul127_7, ge127_7⟩ := k32_openF hMe127
                                        have hv127_6 := hcc127 6 _ rfl
                                        rw [add_field _ _ 6 (by omega)] at hv127_6
                                        replace hv127_6 := Option.some.inj (hv127_6.symm.trans hx127_6)
                                        injection hv127_6 with hva_ hvn_ hvc_
                                        rw [hva_] at ge127_6
                                        rw [hvc_] at ul127_6
                                        have HL127_6 := Aside0.mk (show Kd.V k59 59 _ w.heap.size _ _ ((rd_T32 t113 x6_1).f3.f3) from Kd.V_mk ul127_6 ge127_6)
                                        clear hva_ hvn_ hvc_ ge127_6 ul127_6
                                        have hv127_7 := hcc127 7 _ rfl
                                        rw [add_field _ _ 7 (by omega)] at hv127_7
                                        replace hv127_7 := Option.some.inj (hv127_7.symm.trans hx127_7)
                                        injection hv127_7 with hva_ hvn_ hvc_
                                        rw [hva_] at ge127_7
                                        rw [hvc_] at ul127_7
                                        have HL127_7 := Aside0.mk (show Kd.V k30 30 _ w.heap.size _ _ ((rd_T32 t113 x6_1).f3.f4) from Kd.V_mk ul127_7 ge127_7)
                                        clear hva_ hvn_ hvc_ ge127_7 ul127_7
                                        clear hcc127 hce127
                                        have HR127_6 := Aside0.mk hi127_6
                                        have HC127_6 := Aside0.mk hl127_6
                                        clear hi127_6 hl127_6
                                        have HR127_7 := Aside0.mk hi127_7
                                        have HC127_7 := Aside0.mk hl127_7
                                        clear hi127_7 hl127_7
                                        replace p127 := eq_true p127
                                        replace q127 := eq_true q127
                                        have ea_ := Option.some.inj (hx119_6.symm.trans hx127_6)
                                        injection ea_ with ea_ en_ ec_
                                        subst ea_
                                        subst ec_
                                        clear en_
                                        have ea_ := Option.some.inj (hx119_7.symm.trans hx127_7)
                                        injection ea_ with ea_ en_ ec_
                                        subst ea_
                                        subst ec_
                                        clear en_
                                        go_wp2
                                        repeat (go_quiet (fail); try go_wp2)
                                        go_roundg k2
                                        case measure => have := HK1.out; have := HK2.out; omega
                                        case rel => exact ⟨(wrap64 (x6_1 + 1)), (by first | rfl | (simp; done) | (simp [*]; done)), H', ⟨by have := HK1.out; have := HK2.out; omega⟩, ⟨by (with_reducible repeat (first | apply Kd.R_alloc | apply Kd.R_drewN | apply Kd.R_drew)); exact HO_4.out⟩, ⟨by (with_reducible repeat (first | apply Kd.V_alloc | apply Kd.V_drewN | apply Kd.V_drew)); exact HO_5.out⟩, ⟨by repeat (first | (with_reducible first | exact HB.out | apply below_alloc | apply pw_below_drewN | apply below_drew1) | exact HB.out)⟩⟩
                                    · rw [if_neg c28] at H
                                      have c28b0 : (((rd_T32 t113 (ji20)).f0) == ((rd_T32 t113 x6_1).f0)) = false := beq_eq_false_iff_ne.mpr c28
                                      have c28b1 : (((rd_T32 t113 (ji20)).f0) != ((rd_T32 t113 x6_1).f0)) = true := bne_iff_ne.mpr c28
                                      have H' := Aside0.mk H
                                      clear H
                                      have p118 : 0 ≤ ((ji20) : Int) := of_decide_eq_true (by first | (with_reducible assumption) | assumption)
                                      have q118 : (ji20) < (t113.length : Int) := of_decide_eq_true (by first | (with_reducible assumption) | assumption)
                                      obtain ⟨ad118, A118_6, c118_6, A118_7, c118_7, e118, hx118_0, hx118_1, hx118_2, hx118_3, hx118_4, hx118_5, hx118_6, hx118_7, hx118_8, hl118_6, hi118_6, hl118_7, hi118_7⟩ := at_T32 (Kd.V_reads' HO_5.out).2.2 (ji20) p118 q118
                                      cases e118
                                      obtain ⟨ce118, hce118, hMe118, hcc118⟩ := Kd.V_get HO_5.out z32 (ji20) p118 (by first | exact q118 | exact of_decide_eq_true (by first | (with_reducible assumption) | assumption) | (have e_ := (Kd.V_reads' HO_5.out).1; omega))
                                      obtain ⟨ua118_6, uc118_6, ua118_7, uc118_7, rfl, ul118_6, ge118_6, ul118_7, ge118_7⟩ := k32_openF hMe118
                                      have hv118_6 := hcc118 6 _ rfl
                                      rw [add_field _ _ 6 (by omega)] at hv118_6
                                      replace hv118_6 := Option.some.inj (hv118_6.symm.trans hx118_6)
                                      injection hv118_6 with hva_ hvn_ hvc_
                                      rw [hva_] at ge118_6
                                      rw [hvc_] at ul118_6
                                      have HL118_6 := Aside0.mk (show Kd.V k59 59 _ w.heap.size _ _ ((rd_T32 t113 (ji20)).f3.f3) from Kd.V_mk ul118_6 ge118_6)
                                      clear hva_ hvn_ hvc_ ge118_6 ul118_6
                                      have hv118_7 := hcc118 7 _ rfl
                                      rw [add_field _ _ 7 (by omega)] at hv118_7
                                      replace hv118_7 := Option.some.inj (hv118_7.symm.trans hx118_7)
                                      injection hv118_7 with hva_ hvn_ hvc_
                                      rw [hva_] at ge118_7
                                      rw [hvc_] at ul118_7
                                      have HL118_7 := Aside0.mk (show Kd.V k30 30 _ w.heap.size _ _ ((rd_T32 t113 (ji20)).f3.f4) from Kd.V_mk ul118_7 ge118_7)
                                      clear hva_ hvn_ hvc_ ge118_7 ul118_7
                                      clear hcc118 hce118
                                      have HR118_6 := Aside0.mk hi118_6
                                      have HC118_6 := Aside0.mk hl118_6
                                      clear hi118_6 hl118_6
                                      have HR118_7 := Aside0.mk hi118_7
                                      have HC118_7 := Aside0.mk hl118_7
                                      clear hi118_7 hl118_7
                                      replace p118 := eq_true p118
                                      replace q118 := eq_true q118
                                      have p119 : 0 ≤ (x6_1 : Int) := of_decide_eq_true (by first | (with_reducible assumption) | assumption)
                                      have q119 : x6_1 < (t113.length : Int) := of_decide_eq_true (by first | (with_reducible assumption) | assumption)
                                      obtain ⟨ad119, A119_6, c119_6, A119_7, c119_7, e119, hx119_0, hx119_1, hx119_2, hx119_3, hx119_4, hx119_5, hx119_6, hx119_7, hx119_8, hl119_6, hi119_6, hl119_7, hi119_7⟩ := at_T32 (Kd.V_reads' HO_5.out).2.2 x6_1 p119 q119
                                      obtain rfl : ad118 = ad119 := (by injection e119)
                                      obtain ⟨ce119, hce119, hMe119, hcc119⟩ := Kd.V_get HO_5.out z32 x6_1 p119 (by first | exact q119 | exact of_decide_eq_true (by first | (with_reducible assumption) | assumption) | (have e_ := (Kd.V_reads' HO_5.out).1; omega))
                                      obtain ⟨ua119_6, uc119_6, ua119_7, uc119_7, rfl, ul119_6, ge119_6, ul119_7, ge119_7⟩ := k32_openF hMe119
                                      have hv119_6 := hcc119 6 _ rfl
                                      rw [add_field _ _ 6 (by omega)] at hv119_6
                                      replace hv119_6 := Option.some.inj (hv119_6.symm.trans hx119_6)
                                      injection hv119_6 with hva_ hvn_ hvc_
                                      rw [hva_] at ge119_6
                                      rw [hvc_] at ul119_6
                                      have HL119_6 := Aside0.mk (show Kd.V k59 59 _ w.heap.size _ _ ((rd_T32 t113 x6_1).f3.f3) from Kd.V_mk ul119_6 ge119_6)
                                      clear hva_ hvn_ hvc_ ge119_6 ul119_6
                                      have hv119_7 := hcc119 7 _ rfl
                                      rw [add_field _ _ 7 (by omega)] at hv119_7
                                      replace hv119_7 := Option.some.inj (hv119_7.symm.trans hx119_7)
                                      injection hv119_7 with hva_ hvn_ hvc_
                                      rw [hva_] at ge119_7
                                      rw [hvc_] at ul119_7
                                      have HL119_7 := Aside0.mk (show Kd.V k30 30 _ w.heap.size _ _ ((rd_T32 t113 x6_1).f3.f4) from Kd.V_mk ul119_7 ge119_7)
                                      clear hva_ hvn_ hvc_ ge119_7 ul119_7
                                      clear hcc119 hce119
                                      have HR119_6 := Aside0.mk hi119_6
                                      have HC119_6 := Aside0.mk hl119_6
                                      clear hi119_6 hl119_6
                                      have HR119_7 := Aside0.mk hi119_7
                                      have HC119_7 := Aside0.mk hl119_7
                                      clear hi119_7 hl119_7
                                      replace p119 := eq_true p119
                                      replace q119 := eq_true q119
                                      have p120 : 0 ≤ ((ji20) : Int) := of_decide_eq_true (by first | (with_reducible assumption) | assumption)
                                      have q120 : (ji20) < (t113.length : Int) := of_decide_eq_true (by first | (with_reducible assumption) | assumption)
                                      obtain ⟨ad120, A120_6, c120_6, A120_7, c120_7, e120, hx120_0, hx120_1, hx120_2, hx120_3, hx120_4, hx120_5, hx120_6, hx120_7, hx120_8, hl120_6, hi120_6, hl120_7, hi120_7⟩ := at_T32 (Kd.V_reads' HO_5.out).2.2 (ji20) p120 q120
                                      obtain rfl : ad118 = ad120 := (by injection e120)
                                      obtain ⟨ce120, hce120, hMe120, hcc120⟩ := Kd.V_get HO_5.out z32 (ji20) p120 (by first | exact q120 | exact of_decide_eq_true (by first | (with_reducible assumption) | assumption) | (have e_ := (Kd.V_reads' HO_5.out).1; omega))
                                      obtain ⟨ua120_6, uc120_6, ua120_7, uc120_7, rfl, ul120_6, ge120_6, ul120_7, ge120_7⟩ := k32_openF hMe120
                                      have hv120_6 := hcc120 6 _ rfl
                                      rw [add_field _ _ 6 (by omega)] at hv120_6
                                      replace hv120_6 := Option.some.inj (hv120_6.symm.trans hx120_6)
                                      injection hv120_6 with hva_ hvn_ hvc_
                                      rw [hva_] at ge120_6
                                      rw [hvc_] at ul120_6
                                      have HL120_6 := Aside0.mk (show Kd.V k59 59 _ w.heap.size _ _ ((rd_T32 t113 (ji20)).f3.f3) from Kd.V_mk ul120_6 ge120_6)
                                      clear hva_ hvn_ hvc_ ge120_6 ul120_6
                                      have hv120_7 := hcc120 7 _ rfl
                                      rw [add_field _ _ 7 (by omega)] at hv120_7
                                      replace hv120_7 := Option.some.inj (hv120_7.symm.trans hx120_7)
                                      injection hv120_7 with hva_ hvn_ hvc_
                                      rw [hva_] at ge120_7
                                      rw [hvc_] at ul120_7
                                      have HL120_7 := Aside0.mk (show Kd.V k30 30 _ w.heap.size _ _ ((rd_T32 t113 (ji20)).f3.f4) from Kd.V_mk ul120_7 ge120_7)
                                      clear hva_ hvn_ hvc_ ge120_7 ul120_7
                                      clear hcc120 hce120
                                      have HR120_6 := Aside0.mk hi120_6
                                      have HC120_6 := Aside0.mk hl120_6
                                      clear hi120_6 hl120_6
                                      have HR120_7 := Aside0.mk hi120_7
                                      have HC120_7 := Aside0.mk hl120_7
                                      clear hi120_7 hl120_7
                                      replace p120 := eq_true p120
                                      replace q120 := eq_true q120
                                      have ea_ := Option.some.inj (hx118_6.symm.trans hx120_6)
                                      injection ea_ with ea_ en_ ec_
                                      subst ea_
                                      subst ec_
                                      clear en_
                                      have ea_ := Option.some.inj (hx118_7.symm.trans hx120_7)
                                      injection ea_ with ea_ en_ ec_
                                      subst ea_
                                      subst ec_
                                      clear en_
                                      have p121 : 0 ≤ (x6_1 : Int) := of_decide_eq_true (by first | (with_reducible assumption) | assumption)
                                      have q121 : x6_1 < (t113.length : Int) := of_decide_eq_true (by first | (with_reducible assumption) | assumption)
                                      obtain ⟨ad121, A121_6, c121_6, A121_7, c121_7, e121, hx121_0, hx121_1, hx121_2, hx121_3, hx121_4, hx121_5, hx121_6, hx121_7, hx121_8, hl121_6, hi121_6, hl121_7, hi121_7⟩ := at_T32 (Kd.V_reads' HO_5.out).2.2 x6_1 p121 q121
                                      obtain rfl : ad118 = ad121 := (by injection e121)
                                      obtain ⟨ce121, hce121, hMe121, hcc121⟩ := Kd.V_get HO_5.out z32 x6_1 p121 (by first | exact q121 | exact of_decide_eq_true (by first | (with_reducible assumption) | assumption) | (have e_ := (Kd.V_reads' HO_5.out).1; omega))
                                      obtain ⟨ua121_6, uc121_6, ua121_7, uc121_7, rfl, ul121_6, ge121_6, ul121_7, ge121_7⟩ := k32_openF hMe121
                                      have hv121_6 := hcc121 6 _ rfl
                                      rw [add_field _ _ 6 (by omega)] at hv121_6
                                      replace hv121_6 := Option.some.inj (hv121_6.symm.trans hx121_6)
                                      injection hv121_6 with hva_ hvn_ hvc_
                                      rw [hva_] at ge121_6
                                      rw [hvc_] at ul121_6
                                      have HL121_6 := Aside0.mk (show Kd.V k59 59 _ w.heap.size _ _ ((rd_T32 t113 x6_1).f3.f3) from Kd.V_mk ul121_6 ge121_6)
                                      clear hva_ hvn_ hvc_ ge121_6 ul121_6
                                      have hv121_7 := hcc121 7 _ rfl
                                      rw [add_field _ _ 7 (by omega)] at hv121_7
                                      replace hv121_7 := Option.some.inj (hv121_7.symm.trans hx121_7)
                                      injection hv121_7 with hva_ hvn_ hvc_
                                      rw [hva_] at ge121_7
                                      rw [hvc_] at ul121_7
                                      have HL121_7 := Aside0.mk (show Kd.V k30 30 _ w.heap.size _ _ ((rd_T32 t113 x6_1).f3.f4) from Kd.V_mk ul121_7 ge121_7)
                                      clear hva_ hvn_ hvc_ ge121_7 ul121_7
                                      clear hcc121 hce121
                                      have HR121_6 := Aside0.mk hi121_6
                                      have HC121_6 := Aside0.mk hl121_6
                                      clear hi121_6 hl121_6
                                      have HR121_7 := Aside0.mk hi121_7
                                      have HC121_7 := Aside0.mk hl121_7
                                      clear hi121_7 hl121_7
                                      replace p121 := eq_true p121
                                      replace q121 := eq_true q121
                                      have ea_ := Option.some.inj (hx119_6.symm.trans hx121_6)
                                      injection ea_ with ea_ en_ ec_
                                      subst ea_
                                      subst ec_
                                      clear en_
                                      have ea_ := Option.some.inj (hx119_7.symm.trans hx121_7)
                                      injection ea_ with ea_ en_ ec_
                                      subst ea_
                                      subst ec_
                                      clear en_
                                      have p122 : 0 ≤ ((ji20) : Int) := of_decide_eq_true (by first | (with_reducible assumption) | assumption)
                                      have q122 : (ji20) < (t113.length : Int) := of_decide_eq_true (by first | (with_reducible assumption) | assumption)
                                      obtain ⟨ad122, A122_6, c122_6, A122_7, c122_7, e122, hx122_0, hx122_1, hx122_2, hx122_3, hx122_4, hx122_5, hx122_6, hx122_7, hx122_8, hl122_6, hi122_6, hl122_7, hi122_7⟩ := at_T32 (Kd.V_reads' HO_5.out).2.2 (ji20) p122 q122
                                      obtain rfl : ad118 = ad122 := (by injection e122)
                                      obtain ⟨ce122, hce122, hMe122, hcc122⟩ := Kd.V_get HO_5.out z32 (ji20) p122 (by first | exact q122 | exact of_decide_eq_true (by first | (with_reducible assumption) | assumption) | (have e_ := (Kd.V_reads' HO_5.out).1; omega))
                                      obtain ⟨ua122_6, uc122_6, ua122_7, uc122_7, rfl, ul122_6, ge122_6, ul122_7, ge122_7⟩ := k32_openF hMe122
                                      have hv122_6 := hcc122 6 _ rfl
                                      rw [add_field _ _ 6 (by omega)] at hv122_6
                                      replace hv122_6 := Option.some.inj (hv122_6.symm.trans hx122_6)
                                      injection hv122_6 with hva_ hvn_ hvc_
                                      rw [hva_] at ge122_6
                                      rw [hvc_] at ul122_6
                                      have HL122_6 := Aside0.mk (show Kd.V k59 59 _ w.heap.size _ _ ((rd_T32 t113 (ji20)).f3.f3) from Kd.V_mk ul122_6 ge122_6)
                                      clear hva_ hvn_ hvc_ ge122_6 ul122_6
                                      have hv122_7 := hcc122 7 _ rfl
                                      rw [add_field _ _ 7 (by omega)] at hv122_7
                                      replace hv122_7 := Option.some.inj (hv122_7.symm.trans hx122_7)
                                      injection hv122_7 with hva_ hvn_ hvc_
                                      rw [hva_] at ge122_7
                                      rw [hvc_] at ul122_7
                                      have HL122_7 := Aside0.mk (show Kd.V k30 30 _ w.heap.size _ _ ((rd_T32 t113 (ji20)).f3.f4) from Kd.V_mk ul122_7 ge122_7)
                                      clear hva_ hvn_ hvc_ ge122_7 ul122_7
                                      clear hcc122 hce122
                                      have HR122_6 := Aside0.mk hi122_6
                                      have HC122_6 := Aside0.mk hl122_6
                                      clear hi122_6 hl122_6
                                      have HR122_7 := Aside0.mk hi122_7
                                      have HC122_7 := Aside0.mk hl122_7
                                      clear hi122_7 hl122_7
                                      replace p122 := eq_true p122
                                      replace q122 := eq_true q122
                                      have ea_ := Option.some.inj (hx118_6.symm.trans hx122_6)
                                      injection ea_ with ea_ en_ ec_
                                      subst ea_
                                      subst ec_
                                      clear en_
                                      have ea_ := Option.some.inj (hx118_7.symm.trans hx122_7)
                                      injection ea_ with ea_ en_ ec_
                                      subst ea_
                                      subst ec_
                                      clear en_
                                      have p123 : 0 ≤ (x6_1 : Int) := of_decide_eq_true (by first | (with_reducible assumption) | assumption)
                                      have q123 : x6_1 < (t113.length : Int) := of_decide_eq_true (by first | (with_reducible assumption) | assumption)
                                      obtain ⟨ad123, A123_6, c123_6, A123_7, c123_7, e123, hx123_0, hx123_1, hx123_2, hx123_3, hx123_4, hx123_5, hx123_6, hx123_7, hx123_8, hl123_6, hi123_6, hl123_7, hi123_7⟩ := at_T32 (Kd.V_reads' HO_5.out).2.2 x6_1 p123 q123
                                      obtain rfl : ad118 = ad123 := (by injection e123)
                                      obtain ⟨ce123, hce123, hMe123, hcc123⟩ := Kd.V_get HO_5.out z32 x6_1 p123 (by first | exact q123 | exact of_decide_eq_true (by first | (with_reducible assumption) | assumption) | (have e_ := (Kd.V_reads' HO_5.out).1; omega))
                                      obtain ⟨ua123_6, uc123_6, ua123_7, uc123_7, rfl, ul123_6, ge123_6, ul123_7, ge123_7⟩ := k32_openF hMe123
                                      have hv123_6 := hcc123 6 _ rfl
                                      rw [add_field _ _ 6 (by omega)] at hv123_6
                                      replace hv123_6 := Option.some.inj (hv123_6.symm.trans hx123_6)
                                      injection hv123_6 with hva_ hvn_ hvc_
                                      rw [hva_] at ge123_6
                                      rw [hvc_] at ul123_6
                                      have HL123_6 := Aside0.mk (show Kd.V k59 59 _ w.heap.size _ _ ((rd_T32 t113 x6_1).f3.f3) from Kd.V_mk ul123_6 ge123_6)
                                      clear hva_ hvn_ hvc_ ge123_6 ul123_6
                                      have hv123_7 := hcc123 7 _ rfl
                                      rw [add_field _ _ 7 (by omega)] at hv123_7
                                      replace hv123_7 := Option.some.inj (hv123_7.symm.trans hx123_7)
                                      injection hv123_7 with hva_ hvn_ hvc_
                                      rw [hva_] at ge123_7
                                      rw [hvc_] at ul123_7
                                      have HL123_7 := Aside0.mk (show Kd.V k30 30 _ w.heap.size _ _ ((rd_T32 t113 x6_1).f3.f4) from Kd.V_mk ul123_7 ge123_7)
                                      clear hva_ hvn_ hvc_ ge123_7 ul123_7
                                      clear hcc123 hce123
                                      have HR123_6 := Aside0.mk hi123_6
                                      have HC123_6 := Aside0.mk hl123_6
                                      clear hi123_6 hl123_6
                                      have HR123_7 := Aside0.mk hi123_7
                                      have HC123_7 := Aside0.mk hl123_7
                                      clear hi123_7 hl123_7
                                      replace p123 := eq_true p123
                                      replace q123 := eq_true q123
                                      have ea_ := Option.some.inj (hx119_6.symm.trans hx123_6)
                                      injection ea_ with ea_ en_ ec_
                                      subst ea_
                                      subst ec_
                                      clear en_
                                      have ea_ := Option.some.inj (hx119_7.symm.trans hx123_7)
                                      injection ea_ with ea_ en_ ec_
                                      subst ea_
                                      subst ec_
                                      clear en_
                                      have p124 : 0 ≤ ((ji20) : Int) := of_decide_eq_true (by first | (with_reducible assumption) | assumption)
                                      have q124 : (ji20) < (t113.length : Int) := of_decide_eq_true (by first | (with_reducible assumption) | assumption)
                                      obtain ⟨ad124, A124_6, c124_6, A124_7, c124_7, e124, hx124_0, hx124_1, hx124_2, hx124_3, hx124_4, hx124_5, hx124_6, hx124_7, hx124_8, hl124_6, hi124_6, hl124_7, hi124_7⟩ := at_T32 (Kd.V_reads' HO_5.out).2.2 (ji20) p124 q124
                                      obtain rfl : ad118 = ad124 := (by injection e124)
                                      obtain ⟨ce124, hce124, hMe124, hcc124⟩ := Kd.V_get HO_5.out z32 (ji20) p124 (by first | exact q124 | exact of_decide_eq_true (by first | (with_reducible assumption) | assumption) | (have e_ := (Kd.V_reads' HO_5.out).1; omega))
                                      obtain ⟨ua124_6, uc124_6, ua124_7, uc124_7, rfl, ul124_6, ge124_6, ul124_7, ge124_7⟩ := k32_openF hMe124
                                      have hv124_6 := hcc124 6 _ rfl
                                      rw [add_field _ _ 6 (by omega)] at hv124_6
                                      replace hv124_6 := Option.some.inj (hv124_6.symm.trans hx124_6)
                                      injection hv124_6 with hva_ hvn_ hvc_
                                      rw [hva_] at ge124_6
                                      rw [hvc_] at ul124_6
                                      have HL124_6 := Aside0.mk (show Kd.V k59 59 _ w.heap.size _ _ ((rd_T32 t113 (ji20)).f3.f3) from Kd.V_mk ul124_6 ge124_6)
                                      clear hva_ hvn_ hvc_ ge124_6 ul124_6
                                      have hv124_7 := hcc124 7 _ rfl
                                      rw [add_field _ _ 7 (by omega)] at hv124_7
                                      replace hv124_7 := Option.some.inj (hv124_7.symm.trans hx124_7)
                                      injection hv124_7 with hva_ hvn_ hvc_
                                      rw [hva_] at ge124_7
                                      rw [hvc_] at ul124_7
                                      have HL124_7 := Aside0.mk (show Kd.V k30 30 _ w.heap.size _ _ ((rd_T32 t113 (ji20)).f3.f4) from Kd.V_mk ul124_7 ge124_7)
                                      clear hva_ hvn_ hvc_ ge124_7 ul124_7
                                      clear hcc124 hce124
                                      have HR124_6 := Aside0.mk hi124_6
                                      have HC124_6 := Aside0.mk hl124_6
                                      clear hi124_6 hl124_6
                                      have HR124_7 := Aside0.mk hi124_7
                                      have HC124_7 := Aside0.mk hl124_7
                                      clear hi124_7 hl124_7
                                      replace p124 := eq_true p124
                                      replace q124 := eq_true q124
                                      have ea_ := Option.some.inj (hx118_6.symm.trans hx124_6)
                                      injection ea_ with ea_ en_ ec_
                                      subst ea_
                                      subst ec_
                                      clear en_
                                      have ea_ := Option.some.inj (hx118_7.symm.trans hx124_7)
                                      injection ea_ with ea_ en_ ec_
                                      subst ea_
                                      subst ec_
                                      clear en_
                                      have p125 : 0 ≤ (x6_1 : Int) := of_decide_eq_true (by first | (with_reducible assumption) | assumption)
                                      have q125 : x6_1 < (t113.length : Int) := of_decide_eq_true (by first | (with_reducible assumption) | assumption)
                                      obtain ⟨ad125, A125_6, c125_6, A125_7, c125_7, e125, hx125_0, hx125_1, hx125_2, hx125_3, hx125_4, hx125_5, hx125_6, hx125_7, hx125_8, hl125_6, hi125_6, hl125_7, hi125_7⟩ := at_T32 (Kd.V_reads' HO_5.out).2.2 x6_1 p125 q125
                                      obtain rfl : ad118 = ad125 := (by injection e125)
                                      obtain ⟨ce125, hce125, hMe125, hcc125⟩ := Kd.V_get HO_5.out z32 x6_1 p125 (by first | exact q125 | exact of_decide_eq_true (by first | (with_reducible assumption) | assumption) | (have e_ := (Kd.V_reads' HO_5.out).1; omega))
                                      obtain ⟨ua125_6, uc125_6, ua125_7, uc125_7, rfl, ul125_6, ge125_6, ul125_7, ge125_7⟩ := k32_openF hMe125
                                      have hv125_6 := hcc125 6 _ rfl
                                      rw [add_field _ _ 6 (by omega)] at hv125_6
                                      replace hv125_6 := Option.some.inj (hv125_6.symm.trans hx125_6)
                                      injection hv125_6 with hva_ hvn_ hvc_
                                      rw [hva_] at ge125_6
                                      rw [hvc_] at ul125_6
                                      have HL125_6 := Aside0.mk (show Kd.V k59 59 _ w.heap.size _ _ ((rd_T32 t113 x6_1).f3.f3) from Kd.V_mk ul125_6 ge125_6)
                                      clear hva_ hvn_ hvc_ ge125_6 ul125_6
                                      have hv125_7 := hcc125 7 _ rfl
                                      rw [add_field _ _ 7 (by omega)] at hv125_7
                                      replace hv125_7 := Option.some.inj (hv125_7.symm.trans hx125_7)
                                      injection hv125_7 with hva_ hvn_ hvc_
                                      rw [hva_] at ge125_7
                                      rw [hvc_] at ul125_7
                                      have HL125_7 := Aside0.mk (show Kd.V k30 30 _ w.heap.size _ _ ((rd_T32 t113 x6_1).f3.f4) from Kd.V_mk ul125_7 ge125_7)
                                      clear hva_ hvn_ hvc_ ge125_7 ul125_7
                                      clear hcc125 hce125
                                      have HR125_6 := Aside0.mk hi125_6
                                      have HC125_6 := Aside0.mk hl125_6
                                      clear hi125_6 hl125_6
                                      have HR125_7 := Aside0.mk hi125_7
                                      have HC125_7 := Aside0.mk hl125_7
                                      clear hi125_7 hl125_7
                                      replace p125 := eq_true p125
                                      replace q125 := eq_true q125
                                      have ea_ := Option.some.inj (hx119_6.symm.trans hx125_6)
                                      injection ea_ with ea_ en_ ec_
                                      subst ea_
                                      subst ec_
                                      clear en_
                                      have ea_ := Option.some.inj (hx119_7.symm.trans hx125_7)
                                      injection ea_ with ea_ en_ ec_
                                      subst ea_
                                      subst ec_
                                      clear en_
                                      go_wp2
                                      repeat (go_quiet (fail); try go_wp2)
                                      go_roundg k2
                                      case measure => have := HK1.out; have := HK2.out; omega
                                      case rel => exact ⟨(wrap64 (x6_1 + 1)), (by first | rfl | (simp; done) | (simp [*]; done)), H', ⟨by have := HK1.out; have := HK2.out; omega⟩, ⟨by (with_reducible repeat (first | apply Kd.R_alloc | apply Kd.R_drewN | apply Kd.R_drew)); exact HO_4.out⟩, ⟨by (with_reducible repeat (first | apply Kd.V_alloc | apply Kd.V_drewN | apply Kd.V_drew)); exact HO_5.out⟩, ⟨by repeat (first | (with_reducible first | exact HB.out | apply below_alloc | apply pw_below_drewN | apply below_drew1) | exact HB.out)⟩⟩
                                · rw [if_neg c26] at H
                                  have c26b0 : (((rd_T32 t113 (ji20)).f1) == ((rd_T32 t113 x6_1).f1)) = false := beq_eq_false_iff_ne.mpr c26
                                  have c26b1 : (((rd_T32 t113 (ji20)).f1) != ((rd_T32 t113 x6_1).f1)) = true := bne_iff_ne.mpr c26
                                  have H' := Aside0.mk H
                                  clear H
                                  have p118 : 0 ≤ ((ji20) : Int) := of_decide_eq_true (by first | (with_reducible assumption) | assumption)
                                  have q118 : (ji20) < (t113.length : Int) := of_decide_eq_true (by first | (with_reducible assumption) | assumption)
                                  obtain ⟨ad118, A118_6, c118_6, A118_7, c118_7, e118, hx118_0, hx118_1, hx118_2, hx118_3, hx118_4, hx118_5, hx118_6, hx118_7, hx118_8, hl118_6, hi118_6, hl118_7, hi118_7⟩ := at_T32 (Kd.V_reads' HO_5.out).2.2 (ji20) p118 q118
                                  cases e118
                                  obtain ⟨ce118, hce118, hMe118, hcc118⟩ := Kd.V_get HO_5.out z32 (ji20) p118 (by first | exact q118 | exact of_decide_eq_true (by first | (with_reducible assumption) | assumption) | (have e_ := (Kd.V_reads' HO_5.out).1; omega))
                                  obtain ⟨ua118_6, uc118_6, ua118_7, uc118_7, rfl, ul118_6, ge118_6, ul118_7, ge118_7⟩ := k32_openF hMe118
                                  have hv118_6 := hcc118 6 _ rfl
                                  rw [add_field _ _ 6 (by omega)] at hv118_6
                                  replace hv118_6 := Option.some.inj (hv118_6.symm.trans hx118_6)
                                  injection hv118_6 with hva_ hvn_ hvc_
                                  rw [hva_] at ge118_6
                                  rw [hvc_] at ul118_6
                                  have HL118_6 := Aside0.mk (show Kd.V k59 59 _ w.heap.size _ _ ((rd_T32 t113 (ji20)).f3.f3) from Kd.V_mk ul118_6 ge118_6)
                                  clear hva_ hvn_ hvc_ ge118_6 ul118_6
                                  have hv118_7 := hcc118 7 _ rfl
                                  rw [add_field _ _ 7 (by omega)] at hv118_7
                                  replace hv118_7 := Option.some.inj (hv118_7.symm.trans hx118_7)
                                  injection hv118_7 with hva_ hvn_ hvc_
                                  rw [hva_] at ge118_7
                                  rw [hvc_] at ul118_7
                                  have HL118_7 := Aside0.mk (show Kd.V k30 30 _ w.heap.size _ _ ((rd_T32 t113 (ji20)).f3.f4) from Kd.V_mk ul118_7 ge118_7)
                                  clear hva_ hvn_ hvc_ ge118_7 ul118_7
                                  clear hcc118 hce118
                                  have HR118_6 := Aside0.mk hi118_6
                                  have HC118_6 := Aside0.mk hl118_6
                                  clear hi118_6 hl118_6
                                  have HR118_7 := Aside0.mk hi118_7
                                  have HC118_7 := Aside0.mk hl118_7
                                  clear hi118_7 hl118_7
                                  replace p118 := eq_true p118
                                  replace q118 := eq_true q118
                                  have p119 : 0 ≤ (x6_1 : Int) := of_decide_eq_true (by first | (with_reducible assumption) | assumption)
                                  have q119 : x6_1 < (t113.length : Int) := of_decide_eq_true (by first | (with_reducible assumption) | assumption)
                                  obtain ⟨ad119, A119_6, c119_6, A119_7, c119_7, e119, hx119_0, hx119_1, hx119_2, hx119_3, hx119_4, hx119_5, hx119_6, hx119_7, hx119_8, hl119_6, hi119_6, hl119_7, hi119_7⟩ := at_T32 (Kd.V_reads' HO_5.out).2.2 x6_1 p119 q119
                                  obtain rfl : ad118 = ad119 := (by injection e119)
                                  obtain ⟨ce119, hce119, hMe119, hcc119⟩ := Kd.V_get HO_5.out z32 x6_1 p119 (by first | exact q119 | exact of_decide_eq_true (by first | (with_reducible assumption) | assumption) | (have e_ := (Kd.V_reads' HO_5.out).1; omega))
                                  obtain ⟨ua119_6, uc119_6, ua119_7, uc119_7, rfl, ul119_6, ge119_6, ul119_7, ge119_7⟩ := k32_openF hMe119
                                  have hv119_6 := hcc119 6 _ rfl
                                  rw [add_field _ _ 6 (by omega)] at hv119_6
                                  replace hv119_6 := Option.some.inj (hv119_6.symm.trans hx119_6)
                                  injection hv119_6 with hva_ hvn_ hvc_
                                  rw [hva_] at ge119_6
                                  rw [hvc_] at ul119_6
                                  have HL119_6 := Aside0.mk (show Kd.V k59 59 _ w.heap.size _ _ ((rd_T32 t113 x6_1).f3.f3) from Kd.V_mk ul119_6 ge119_6)
                                  clear hva_ hvn_ hvc_ ge119_6 ul119_6
                                  have hv119_7 := hcc119 7 _ rfl
                                  rw [add_field _ _ 7 (by omega)] at hv119_7
                                  replace hv119_7 := Option.some.inj (hv119_7.symm.trans hx119_7)
                                  injection hv119_7 with hva_ hvn_ hvc_
                                  rw [hva_] at ge119_7
                                  rw [hvc_] at ul119_7
                                  have HL119_7 := Aside0.mk (show Kd.V k30 30 _ w.heap.size _ _ ((rd_T32 t113 x6_1).f3.f4) from Kd.V_mk ul119_7 ge119_7)
                                  clear hva_ hvn_ hvc_ ge119_7 ul119_7
                                  clear hcc119 hce119
                                  have HR119_6 := Aside0.mk hi119_6
                                  have HC119_6 := Aside0.mk hl119_6
                                  clear hi119_6 hl119_6
                                  have HR119_7 := Aside0.mk hi119_7
                                  have HC119_7 := Aside0.mk hl119_7
                                  clear hi119_7 hl119_7
                                  replace p119 := eq_true p119
                                  replace q119 := eq_true q119
                                  have p120 : 0 ≤ ((ji20) : Int) := of_decide_eq_true (by first | (with_reducible assumption) | assumption)
                                  have q120 : (ji20) < (t113.length : Int) := of_decide_eq_true (by first | (with_reducible assumption) | assumption)
                                  obtain ⟨ad120, A120_6, c120_6, A120_7, c120_7, e120, hx120_0, hx120_1, hx120_2, hx120_3, hx120_4, hx120_5, hx120_6, hx120_7, hx120_8, hl120_6, hi120_6, hl120_7, hi120_7⟩ := at_T32 (Kd.V_reads' HO_5.out).2.2 (ji20) p120 q120
                                  obtain rfl : ad118 = ad120 := (by injection e120)
                                  obtain ⟨ce120, hce120, hMe120, hcc120⟩ := Kd.V_get HO_5.out z32 (ji20) p120 (by first | exact q120 | exact of_decide_eq_true (by first | (with_reducible assumption) | assumption) | (have e_ := (Kd.V_reads' HO_5.out).1; omega))
                                  obtain ⟨ua120_6, uc120_6, ua120_7, uc120_7, rfl, ul120_6, ge120_6, ul120_7, ge120_7⟩ := k32_openF hMe120
                                  have hv120_6 := hcc120 6 _ rfl
                                  rw [add_field _ _ 6 (by omega)] at hv120_6
                                  replace hv120_6 := Option.some.inj (hv120_6.symm.trans hx120_6)
                                  injection hv120_6 with hva_ hvn_ hvc_
                                  rw [hva_] at ge120_6
                                  rw [hvc_] at ul120_6
                                  have HL120_6 := Aside0.mk (show Kd.V k59 59 _ w.heap.size _ _ ((rd_T32 t113 (ji20)).f3.f3) from Kd.V_mk ul120_6 ge120_6)
                                  clear hva_ hvn_ hvc_ ge120_6 ul120_6
                                  have hv120_7 := hcc120 7 _ rfl
                                  rw [add_field _ _ 7 (by omega)] at hv120_7
                                  replace hv120_7 := Option.some.inj (hv120_7.symm.trans hx120_7)
                                  injection hv120_7 with hva_ hvn_ hvc_
                                  rw [hva_] at ge120_7
                                  rw [hvc_] at ul120_7
                                  have HL120_7 := Aside0.mk (show Kd.V k30 30 _ w.heap.size _ _ ((rd_T32 t113 (ji20)).f3.f4) from Kd.V_mk ul120_7 ge120_7)
                                  clear hva_ hvn_ hvc_ ge120_7 ul120_7
                                  clear hcc120 hce120
                                  have HR120_6 := Aside0.mk hi120_6
                                  have HC120_6 := Aside0.mk hl120_6
                                  clear hi120_6 hl120_6
                                  have HR120_7 := Aside0.mk hi120_7
                                  have HC120_7 := Aside0.mk hl120_7
                                  clear hi120_7 hl120_7
                                  replace p120 := eq_true p120
                                  replace q120 := eq_true q120
                                  have ea_ := Option.some.inj (hx118_6.symm.trans hx120_6)
                                  injection ea_ with ea_ en_ ec_
                                  subst ea_
                                  subst ec_
                                  clear en_
                                  have ea_ := Option.some.inj (hx118_7.symm.trans hx120_7)
                                  injection ea_ with ea_ en_ ec_
                                  subst ea_
                                  subst ec_
                                  clear en_
                                  have p121 : 0 ≤ (x6_1 : Int) := of_decide_eq_true (by first | (with_reducible assumption) | assumption)
                                  have q121 : x6_1 < (t113.length : Int) := of_decide_eq_true (by first | (with_reducible assumption) | assumption)
                                  obtain ⟨ad121, A121_6, c121_6, A121_7, c121_7, e121, hx121_0, hx121_1, hx121_2, hx121_3, hx121_4, hx121_5, hx121_6, hx121_7, hx121_8, hl121_6, hi121_6, hl121_7, hi121_7⟩ := at_T32 (Kd.V_reads' HO_5.out).2.2 x6_1 p121 q121
                                  obtain rfl : ad118 = ad121 := (by injection e121)
                                  obtain ⟨ce121, hce121, hMe121, hcc121⟩ := Kd.V_get HO_5.out z32 x6_1 p121 (by first | exact q121 | exact of_decide_eq_true (by first | (with_reducible assumption) | assumption) | (have e_ := (Kd.V_reads' HO_5.out).1; omega))
                                  obtain ⟨ua121_6, uc121_6, ua121_7, uc121_7, rfl, ul121_6, ge121_6, ul121_7, ge121_7⟩ := k32_openF hMe121
                                  have hv121_6 := hcc121 6 _ rfl
                                  rw [add_field _ _ 6 (by omega)] at hv121_6
                                  replace hv121_6 := Option.some.inj (hv121_6.symm.trans hx121_6)
                                  injection hv121_6 with hva_ hvn_ hvc_
                                  rw [hva_] at ge121_6
                                  rw [hvc_] at ul121_6
                                  have HL121_6 := Aside0.mk (show Kd.V k59 59 _ w.heap.size _ _ ((rd_T32 t113 x6_1).f3.f3) from Kd.V_mk ul121_6 ge121_6)
                                  clear hva_ hvn_ hvc_ ge121_6 ul121_6
                                  have hv121_7 := hcc121 7 _ rfl
                                  rw [add_field _ _ 7 (by omega)] at hv121_7
                                  replace hv121_7 := Option.some.inj (hv121_7.symm.trans hx121_7)
                                  injection hv121_7 with hva_ hvn_ hvc_
                                  rw [hva_] at ge121_7
                                  rw [hvc_] at ul121_7
                                  have HL121_7 := Aside0.mk (show Kd.V k30 30 _ w.heap.size _ _ ((rd_T32 t113 x6_1).f3.f4) from Kd.V_mk ul121_7 ge121_7)
                                  clear hva_ hvn_ hvc_ ge121_7 ul121_7
                                  clear hcc121 hce121
                                  have HR121_6 := Aside0.mk hi121_6
                                  have HC121_6 := Aside0.mk hl121_6
                                  clear hi121_6 hl121_6
                                  have HR121_7 := Aside0.mk hi121_7
                                  have HC121_7 := Aside0.mk hl121_7
                                  clear hi121_7 hl121_7
                                  replace p121 := eq_true p121
                                  replace q121 := eq_true q121
                                  have ea_ := Option.some.inj (hx119_6.symm.trans hx121_6)
                                  injection ea_ with ea_ en_ ec_
                                  subst ea_
                                  subst ec_
                                  clear en_
                                  have ea_ := Option.some.inj (hx119_7.symm.trans hx121_7)
                                  injection ea_ with ea_ en_ ec_
                                  subst ea_
                                  subst ec_
                                  clear en_
                                  go_wp2
                                  repeat (go_quiet (fail); try go_wp2)
                                  go_roundg k2
                                  case measure => have := HK1.out; have := HK2.out; omega
                                  case rel => exact ⟨(wrap64 (x6_1 + 1)), (by first | rfl | (simp; done) | (simp [*]; done)), H', ⟨by have := HK1.out; have := HK2.out; omega⟩, ⟨by (with_reducible repeat (first | apply Kd.R_alloc | apply Kd.R_drewN | apply Kd.R_drew)); exact HO_4.out⟩, ⟨by (with_reducible repeat (first | apply Kd.V_alloc | apply Kd.V_drewN | apply Kd.V_drew)); exact HO_5.out⟩, ⟨by repeat (first | (with_reducible first | exact HB.out | apply below_alloc | apply pw_below_drewN | apply below_drew1) | exact HB.out)⟩⟩
                            · rw [if_neg c24] at H
                              exact absurd H (by simp)
                          · rw [if_neg c23] at H
                            exact absurd H (by simp)
                        · rw [if_neg c22] at H
                          exact absurd H (by simp)
                      · rw [if_neg c21] at H
                        exact absurd H (by simp)
                    · rw [if_neg c19] at H
                      have c19b0 : decide (0 < x6_1) = false := decide_eq_false c19
                      clear c19
                      have H' := Aside0.mk H
                      clear H
                      go_wp2
                      repeat (go_quiet (fail); try go_wp2)
                      go_roundg k2
                      case measure => have := HK1.out; have := HK2.out; omega
                      case rel => exact ⟨(wrap64 (x6_1 + 1)), (by first | rfl | (simp; done) | (simp [*]; done)), H', ⟨by have := HK1.out; have := HK2.out; omega⟩, ⟨by (with_reducible repeat (first | apply Kd.R_alloc | apply Kd.R_drewN | apply Kd.R_drew)); exact HO_4.out⟩, ⟨by (with_reducible repeat (first | apply Kd.V_alloc | apply Kd.V_drewN | apply Kd.V_drew)); exact HO_5.out⟩, ⟨by repeat (first | (with_reducible first | exact HB.out | apply below_alloc | apply pw_below_drewN | apply below_drew1) | exact HB.out)⟩⟩
                  · rw [if_neg c18] at H
                    have c18b0 : (x7_2 == 1) = false := beq_eq_false_iff_ne.mpr c18
                    have c18b1 : (x7_2 != 1) = true := bne_iff_ne.mpr c18
                    obtain rfl := Option.some.inj H
                    go_wp2
                    repeat (go_quiet (fail); try go_wp2)
                    go_ret
                    exact ⟨by first | rfl | (simp [errW_none, errW_some] <;> rfl) | (simp [*, errW_none, errW_some] <;> rfl), by repeat (first | (with_reducible first | exact HB.out | apply below_alloc | apply pw_below_drewN | apply below_drew1) | exact HB.out)⟩
          · rw [if_neg c12] at H
            have c12b0 : decide (x6_1 < (t113.length : Int)) = false := decide_eq_false c12
            clear c12
            obtain rfl := Option.some.inj H
            go_wp2
            repeat (go_quiet (fail); try go_wp2)
            go_ret
            exact ⟨by first | rfl | (simp [errW_none, errW_some] <;> rfl) | (simp [*, errW_none, errW_some] <;> rfl), by repeat (first | (with_reducible first | exact HB.out | apply below_alloc | apply pw_below_drewN | apply below_drew1) | exact HB.out)⟩
    · rw [if_neg c6] at H
      have c6b0 : ((t113.length : Int) == (t110.length : Int)) = false := beq_eq_false_iff_ne.mpr c6
      have c6b1 : ((t113.length : Int) != (t110.length : Int)) = true := bne_iff_ne.mpr c6
      have c6b2 : (t113.length == t110.length) = false := by first | simpa using c6 | (simp at c6 ⊢; omega)
      obtain rfl := Option.some.inj H
      go_enter Try.func3, Try.ntmps3
      go_wp2_with (first | (go_at_call 7; (with_reducible refine (Go.Proofs.Ytjbfjgaghjggpaa.Gv.broadsheetlaw22_awake.calls  true _ A2.out).mono ?_); rintro e w30 ⟨rfl, hb⟩; have n0_ := Aside0.mk (below_step (by repeat (first | (with_reducible first | exact HB.out | apply below_alloc | apply pw_below_drewN | apply below_drew1) | exact HB.out)) hb); clear HB; have HB := n0_; clear n0_; (try clear hb); (try clear hb2); (try clear hk); (try clear hi)) | (go_at_call 8; (with_reducible refine (broadsheetlaw22_Members.calls k _ _ l0 t110 _ ?side1 ?side2 A4.out).mono ?_); (case side1 => repeat (first | exact (Kd.C_below HR0.out HB.out) | (with_reducible refine Kd.C_alloc ?_ _) | (with_reducible refine Kd.C_drewN ?_ _) | (with_reducible refine Kd.C_drew ?_))); (case side2 => exact HC0.out); rintro e w31 ⟨v111, rfl, ho0, hb⟩; have n0_ := Aside0.mk (Kd.R_lower ho0 (below_size (by repeat (first | (with_reducible first | exact HB.out | apply below_alloc | apply pw_below_drewN | apply below_drew1) | exact HB.out)))); have n1_ := Aside0.mk (below_step (by repeat (first | (with_reducible first | exact HB.out | apply below_alloc | apply pw_below_drewN | apply below_drew1) | exact HB.out)) hb); clear HB; have HO112 := n0_; have HB := n1_; clear n0_ n1_; (try clear hb); (try clear hb2); (try clear hk); (try clear hi); (try clear ho0); obtain ⟨Ao32, co32, eo32⟩ := Kd.R_slice HO112.out; subst eo32) | (go_at_call 9; (with_reducible refine (Go.Proofs.Ytjbfjgaghjggpaa.Gv.paging_Order.calls (fun k_ => True) _ _ t110 t113 _ ?side1 A5.out).mono ?_); (case side1 => exact Kd.R_V (HO112.out)); rintro e w33 ⟨v114, rfl, ho0, hb⟩; have n0_ := Aside0.mk (Kd.R_below (by (with_reducible repeat (first | apply Kd.R_alloc | apply Kd.R_drewN | apply Kd.R_drew)); exact HO112.out) hb); have n1_ := Aside0.mk (Kd.V_lower (Kd.V_mono (ok' := fun k_ => True) ho0 (fun k_ hk_ => trivial)) (below_size (by repeat (first | (with_reducible first | exact HB.out | apply below_alloc | apply pw_below_drewN | apply below_drew1) | exact HB.out)))); have n2_ := Aside0.mk (below_step (by repeat (first | (with_reducible first | exact HB.out | apply below_alloc | apply pw_below_drewN | apply below_drew1) | exact HB.out)) hb); clear HO112; clear HB; have HO112 := n0_; have HO115 := n1_; have HB := n2_; clear n0_ n1_ n2_; (try clear hb); (try clear hb2); (try clear hk); (try clear hi); (try clear ho0); obtain ⟨Ao34, co34, eo34⟩ := Kd.V_slice HO115.out; subst eo34))
      repeat (go_quiet (first | (go_at_call 7; (with_reducible refine (Go.Proofs.Ytjbfjgaghjggpaa.Gv.broadsheetlaw22_awake.calls  true _ A2.out).mono ?_); rintro e w30 ⟨rfl, hb⟩; have n0_ := Aside0.mk (below_step (by repeat (first | (with_reducible first | exact HB.out | apply below_alloc | apply pw_below_drewN | apply below_drew1) | exact HB.out)) hb); clear HB; have HB := n0_; clear n0_; (try clear hb); (try clear hb2); (try clear hk); (try clear hi)) | (go_at_call 8; (with_reducible refine (broadsheetlaw22_Members.calls k _ _ l0 t110 _ ?side1 ?side2 A4.out).mono ?_); (case side1 => repeat (first | exact (Kd.C_below HR0.out HB.out) | (with_reducible refine Kd.C_alloc ?_ _) | (with_reducible refine Kd.C_drewN ?_ _) | (with_reducible refine Kd.C_drew ?_))); (case side2 => exact HC0.out); rintro e w31 ⟨v111, rfl, ho0, hb⟩; have n0_ := Aside0.mk (Kd.R_lower ho0 (below_size (by repeat (first | (with_reducible first | exact HB.out | apply below_alloc | apply pw_below_drewN | apply below_drew1) | exact HB.out)))); have n1_ := Aside0.mk (below_step (by repeat (first | (with_reducible first | exact HB.out | apply below_alloc | apply pw_below_drewN | apply below_drew1) | exact HB.out)) hb); clear HB; have HO112 := n0_; have HB := n1_; clear n0_ n1_; (try clear hb); (try clear hb2); (try clear hk); (try clear hi); (try clear ho0); obtain ⟨Ao32, co32, eo32⟩ := Kd.R_slice HO112.out; subst eo32) | (go_at_call 9; (with_reducible refine (Go.Proofs.Ytjbfjgaghjggpaa.Gv.paging_Order.calls (fun k_ => True) _ _ t110 t113 _ ?side1 A5.out).mono ?_); (case side1 => exact Kd.R_V (HO112.out)); rintro e w33 ⟨v114, rfl, ho0, hb⟩; have n0_ := Aside0.mk (Kd.R_below (by (with_reducible repeat (first | apply Kd.R_alloc | apply Kd.R_drewN | apply Kd.R_drew)); exact HO112.out) hb); have n1_ := Aside0.mk (Kd.V_lower (Kd.V_mono (ok' := fun k_ => True) ho0 (fun k_ hk_ => trivial)) (below_size (by repeat (first | (with_reducible first | exact HB.out | apply below_alloc | apply pw_below_drewN | apply below_drew1) | exact HB.out)))); have n2_ := Aside0.mk (below_step (by repeat (first | (with_reducible first | exact HB.out | apply below_alloc | apply pw_below_drewN | apply below_drew1) | exact HB.out)) hb); clear HO112; clear HB; have HO112 := n0_; have HO115 := n1_; have HB := n2_; clear n0_ n1_ n2_; (try clear hb); (try clear hb2); (try clear hk); (try clear hi); (try clear ho0); obtain ⟨Ao34, co34, eo34⟩ := Kd.V_slice HO115.out; subst eo34)); try go_wp2_with (first | (go_at_call 7; (with_reducible refine (Go.Proofs.Ytjbfjgaghjggpaa.Gv.broadsheetlaw22_awake.calls  true _ A2.out).mono ?_); rintro e w30 ⟨rfl, hb⟩; have n0_ := Aside0.mk (below_step (by repeat (first | (with_reducible first | exact HB.out | apply below_alloc | apply pw_below_drewN | apply below_drew1) | exact HB.out)) hb); clear HB; have HB := n0_; clear n0_; (try clear hb); (try clear hb2); (try clear hk); (try clear hi)) | (go_at_call 8; (with_reducible refine (broadsheetlaw22_Members.calls k _ _ l0 t110 _ ?side1 ?side2 A4.out).mono ?_); (case side1 => repeat (first | exact (Kd.C_below HR0.out HB.out) | (with_reducible refine Kd.C_alloc ?_ _) | (with_reducible refine Kd.C_drewN ?_ _) | (with_reducible refine Kd.C_drew ?_))); (case side2 => exact HC0.out); rintro e w31 ⟨v111, rfl, ho0, hb⟩; have n0_ := Aside0.mk (Kd.R_lower ho0 (below_size (by repeat (first | (with_reducible first | exact HB.out | apply below_alloc | apply pw_below_drewN | apply below_drew1) | exact HB.out)))); have n1_ := Aside0.mk (below_step (by repeat (first | (with_reducible first | exact HB.out | apply below_alloc | apply pw_below_drewN | apply below_drew1) | exact HB.out)) hb); clear HB; have HO112 := n0_; have HB := n1_; clear n0_ n1_; (try clear hb); (try clear hb2); (try clear hk); (try clear hi); (try clear ho0); obtain ⟨Ao32, co32, eo32⟩ := Kd.R_slice HO112.out; subst eo32) | (go_at_call 9; (with_reducible refine (Go.Proofs.Ytjbfjgaghjggpaa.Gv.paging_Order.calls (fun k_ => True) _ _ t110 t113 _ ?side1 A5.out).mono ?_); (case side1 => exact Kd.R_V (HO112.out)); rintro e w33 ⟨v114, rfl, ho0, hb⟩; have n0_ := Aside0.mk (Kd.R_below (by (with_reducible repeat (first | apply Kd.R_alloc | apply Kd.R_drewN | apply Kd.R_drew)); exact HO112.out) hb); have n1_ := Aside0.mk (Kd.V_lower (Kd.V_mono (ok' := fun k_ => True) ho0 (fun k_ hk_ => trivial)) (below_size (by repeat (first | (with_reducible first | exact HB.out | apply below_alloc | apply pw_below_drewN | apply below_drew1) | exact HB.out)))); have n2_ := Aside0.mk (below_step (by repeat (first | (with_reducible first | exact HB.out | apply below_alloc | apply pw_below_drewN | apply below_drew1) | exact HB.out)) hb); clear HO112; clear HB; have HO112 := n0_; have HO115 := n1_; have HB := n2_; clear n0_ n1_ n2_; (try clear hb); (try clear hb2); (try clear hk); (try clear hi); (try clear ho0); obtain ⟨Ao34, co34, eo34⟩ := Kd.V_slice HO115.out; subst eo34)))
      go_ret
      exact ⟨by first | rfl | (simp [errW_none, errW_some] <;> rfl) | (simp [*, errW_none, errW_some] <;> rfl), by repeat (first | (with_reducible first | exact HB.out | apply below_alloc | apply pw_below_drewN | apply below_drew1) | exact HB.out)⟩
  · replace c3 := Bool.eq_false_iff.mpr c3
    subst c3
    have H1 : (some false) = some r := by rw [if_neg (show ¬ (false = true) by decide)] at H; exact H
    clear H
    have H := H1
    clear H1
    obtain rfl := Option.some.inj H
    go_enter Try.func3, Try.ntmps3
    go_wp2_with (first | (go_at_call 7; (with_reducible refine (Go.Proofs.Ytjbfjgaghjggpaa.Gv.broadsheetlaw22_awake.calls  false _ A2.out).mono ?_); rintro e w35 ⟨rfl, hb⟩; have n0_ := Aside0.mk (below_step (by repeat (first | (with_reducible first | exact HB.out | apply below_alloc | apply pw_below_drewN | apply below_drew1) | exact HB.out)) hb); clear HB; have HB := n0_; clear n0_; (try clear hb); (try clear hb2); (try clear hk); (try clear hi)))
    repeat (go_quiet (first | (go_at_call 7; (with_reducible refine (Go.Proofs.Ytjbfjgaghjggpaa.Gv.broadsheetlaw22_awake.calls  false _ A2.out).mono ?_); rintro e w35 ⟨rfl, hb⟩; have n0_ := Aside0.mk (below_step (by repeat (first | (with_reducible first | exact HB.out | apply below_alloc | apply pw_below_drewN | apply below_drew1) | exact HB.out)) hb); clear HB; have HB := n0_; clear n0_; (try clear hb); (try clear hb2); (try clear hk); (try clear hi))); try go_wp2_with (first | (go_at_call 7; (with_reducible refine (Go.Proofs.Ytjbfjgaghjggpaa.Gv.broadsheetlaw22_awake.calls  false _ A2.out).mono ?_); rintro e w35 ⟨rfl, hb⟩; have n0_ := Aside0.mk (below_step (by repeat (first | (with_reducible first | exact HB.out | apply below_alloc | apply pw_below_drewN | apply below_drew1) | exact HB.out)) hb); clear HB; have HB := n0_; clear n0_; (try clear hb); (try clear hb2); (try clear hk); (try clear hi))))
    go_ret
    exact ⟨by first | rfl | (simp [errW_none, errW_some] <;> rfl) | (simp [*, errW_none, errW_some] <;> rfl), by repeat (first | (with_reducible first | exact HB.out | apply below_alloc | apply pw_below_drewN | apply below_drew1) | exact HB.out)⟩

end Go.Proofs.Ytjbfjgaghjggpaa.Pr
