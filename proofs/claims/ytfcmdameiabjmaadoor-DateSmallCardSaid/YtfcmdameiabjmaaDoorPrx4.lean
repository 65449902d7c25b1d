-- Written by given.py, a program of this session, over the kit's printer.
import Derived.Test.YtfcmdameiabjmaaDoorPrx0
import Derived.Test.YtfcmdameiabjmaaDoorPrx3
namespace Go.Proofs.YtfcmdameiabjmaaDoor.Pr
open Go.RowKit Go.Proofs.YtfcmdameiabjmaaDoorW.PrintWords Go.Proofs.YtfcmdameiabjmaaDoorW.PrintLast Go.Proofs.YtfcmdameiabjmaaDoorW.PrintMore
attribute [local go_sem] max2_int min2_int max_two min_two max_three min_three max_four min_four   -- for this text's walks alone
set_option linter.unusedVariables false
set_option linter.unusedSimpArgs false

/-! ### broadsheetref11_zone: function 27 -/
mutual
def broadsheetref11_zone.j0 : Nat → ByteArray → Bool → Option (Int × Bool)
  | 0, _, _ => none
  | k + 1, x0, x25 => if x25 = true then (some (0, false)) else ((broadsheetref11_number.f k x0 1 2).bind fun t137 => ((broadsheetref11_number.f k x0 4 2).bind fun t138 => (if t137 < 0 then (broadsheetref11_zone.j1 k x0 t137 t138 true) else (if t137 > 23 then (broadsheetref11_zone.j1 k x0 t137 t138 true) else (if t138 < 0 then (broadsheetref11_zone.j1 k x0 t137 t138 true) else (broadsheetref11_zone.j1 k x0 t137 t138 (decide (t138 > 59))))))))
def broadsheetref11_zone.j1 : Nat → ByteArray → Int → Int → Bool → Option (Int × Bool)
  | 0, _, _, _, _ => none
  | k + 1, x0, x4, x5, x43 => if x43 = true then (some (0, false)) else (if 0 < (x0.size : Int) then (if (bt x0 0) = 45 then (some (wrap64 ((wrap64 ((wrap64 (-x4)) * 3600)) - (wrap64 (x5 * 60))), true)) else (some (wrap64 ((wrap64 (x4 * 3600)) + (wrap64 (x5 * 60))), true))) else (none))
end
def broadsheetref11_zone.f (k : Nat) (a0 : ByteArray) : Option (Int × Bool) := if a0.toList = ([90] : List UInt8) then (some (0, true)) else (if (a0.size : Int) = 6 then (if 0 < (a0.size : Int) then (if (bt a0 0) = 43 then (if 3 < (a0.size : Int) then (broadsheetref11_zone.j0 k a0 ((bt a0 3) != 58)) else (none)) else (if (bt a0 0) = 45 then (if 3 < (a0.size : Int) then (broadsheetref11_zone.j0 k a0 ((bt a0 3) != 58)) else (none)) else (broadsheetref11_zone.j0 k a0 true))) else (none)) else (broadsheetref11_zone.j0 k a0 true))
theorem broadsheetref11_zone.mono_l : ∀ k, (∀ y0 y1, LeO (broadsheetref11_zone.j0 k y0 y1) (broadsheetref11_zone.j0 (k + 1) y0 y1)) ∧ (∀ y0 y1 y2 y3, LeO (broadsheetref11_zone.j1 k y0 y1 y2 y3) (broadsheetref11_zone.j1 (k + 1) y0 y1 y2 y3))
  | 0 => ⟨fun _ _ r h => by simp [broadsheetref11_zone.j0] at h, fun _ _ _ _ r h => by simp [broadsheetref11_zone.j1] at h⟩
  | k + 1 => by
    obtain ⟨ih0, ih1⟩ := broadsheetref11_zone.mono_l k
    refine ⟨?_, ?_⟩
    · intro y0 y1
      unfold broadsheetref11_zone.j0
      repeat' first
      | (with_reducible exact ih0 _ _)
      | (with_reducible exact ih1 _ _ _ _)
      | (with_reducible exact broadsheetref11_number.mono _ _ _ _)
      | (with_reducible exact LeO.refl _)
      | (with_reducible exact LeO.none _)
      | (with_reducible refine LeO.ite ?_ ?_)
      | (with_reducible refine LeO.bind ?_ (fun _ => ?_))
      | exact ih0 _ _
      | exact ih1 _ _ _ _
      | exact broadsheetref11_number.mono _ _ _ _
      | exact LeO.none _
      | refine LeO.ite ?_ ?_
      | refine LeO.bind ?_ (fun _ => ?_)
    · intro y0 y1 y2 y3
      unfold broadsheetref11_zone.j1
      repeat' first
      | (with_reducible exact ih0 _ _)
      | (with_reducible exact ih1 _ _ _ _)
      | (with_reducible exact broadsheetref11_number.mono _ _ _ _)
      | (with_reducible exact LeO.refl _)
      | (with_reducible exact LeO.none _)
      | (with_reducible refine LeO.ite ?_ ?_)
      | (with_reducible refine LeO.bind ?_ (fun _ => ?_))
      | exact ih0 _ _
      | exact ih1 _ _ _ _
      | exact broadsheetref11_number.mono _ _ _ _
      | exact LeO.none _
      | refine LeO.ite ?_ ?_
      | refine LeO.bind ?_ (fun _ => ?_)
theorem broadsheetref11_zone.mono : ∀ a0 k, LeO (broadsheetref11_zone.f k a0) (broadsheetref11_zone.f (k + 1) a0) := by
  intro a0 k
  obtain ⟨ih0, ih1⟩ := broadsheetref11_zone.mono_l k
  unfold broadsheetref11_zone.f
  repeat' first
      | (with_reducible exact ih0 _ _)
      | (with_reducible exact ih1 _ _ _ _)
      | (with_reducible exact broadsheetref11_number.mono _ _ _ _)
      | (with_reducible exact LeO.refl _)
      | (with_reducible exact LeO.none _)
      | (with_reducible refine LeO.ite ?_ ?_)
      | (with_reducible refine LeO.bind ?_ (fun _ => ?_))
      | exact ih0 _ _
      | exact ih1 _ _ _ _
      | exact broadsheetref11_number.mono _ _ _ _
      | exact LeO.none _
      | refine LeO.ite ?_ ?_
      | refine LeO.bind ?_ (fun _ => ?_)
set_option maxHeartbeats 8000000 in
set_option maxRecDepth 100000 in
theorem broadsheetref11_zone.calls (k : Nat) (a0 : ByteArray) (r1 : Int) (r2 : Bool) (w : World) (h : broadsheetref11_zone.f k a0 = some (r1, r2)) :
    Calls Tryd.prog 27 #[.string a0] w fun e w' => e = .returned (.tuple #[.int .i64 r1, .bool r2]) ∧ Drawn0 w w' := by
  have H : (if a0.toList = ([90] : List UInt8) then (some (0, true)) else (if (a0.size : Int) = 6 then (if 0 < (a0.size : Int) then (if (bt a0 0) = 43 then (if 3 < (a0.size : Int) then (broadsheetref11_zone.j0 k a0 ((bt a0 3) != 58)) else (none)) else (if (bt a0 0) = 45 then (if 3 < (a0.size : Int) then (broadsheetref11_zone.j0 k a0 ((bt a0 3) != 58)) else (none)) else (broadsheetref11_zone.j0 k a0 true))) else (none)) else (broadsheetref11_zone.j0 k a0 true))) = some (r1, r2) := h
  clear h
  by_cases c2 : a0.toList = ([90] : List UInt8)
  · rw [if_pos c2] at H
    have c2b0 : (a0.toList == ([90] : List UInt8)) = true := beq_iff_eq.mpr c2
    have c2b1 : (a0.toList != ([90] : List UInt8)) = false := bne_eq_false_iff_eq.mpr c2
    clear c2
    simp only [Option.some.injEq, Prod.mk.injEq] at H
    obtain ⟨rfl, rfl⟩ := H
    go_enter Tryd.func27, Tryd.ntmps27
    go_wp2
    go_ret2
    exact ⟨by first | rfl | (simp; done) | (simp [*]; done), by repeat (first | exact Drawn0.refl _ | apply Drawn0.step)⟩
  · rw [if_neg c2] at H
    have c2b0 : (a0.toList == ([90] : List UInt8)) = false := beq_eq_false_iff_ne.mpr c2
    have c2b1 : (a0.toList != ([90] : List UInt8)) = true := bne_iff_ne.mpr c2
    have HC3 := Aside0.mk H
    clear H
    go_enter Tryd.func27, Tryd.ntmps27
    go_upto_region 3 with (fail)
    go_cut [25] (fun v25 wc => ∃ (kq : Nat) (x25_2 : Bool), v25 = .bool x25_2 ∧ Aside0 (broadsheetref11_zone.j0 kq a0 x25_2 = some (r1, r2)) ∧ Aside0 (kq ≤ k) ∧ Drawn0 w wc)
    case first =>
      have H := HC3.out
      clear HC3
      by_cases c4 : (a0.size : Int) = 6
      · rw [if_pos c4] at H
        have c4b0 : ((a0.size : Int) == 6) = true := beq_iff_eq.mpr c4
        have c4b1 : ((a0.size : Int) != 6) = false := bne_eq_false_iff_eq.mpr c4
        clear c4
        (first | rw [c4b0] | (simp only [i64_w, i32_w]; rw [c4b0]) | skip)
        by_cases c5 : 0 < (a0.size : Int)
        · rw [if_pos c5] at H
          have c5b0 : decide (0 < (a0.size : Int)) = true := decide_eq_true c5
          have c5b1 : decide (0 < a0.size) = true := decide_eq_true (by omega)
          clear c5
          by_cases c7 : (bt a0 0) = 43
          · rw [if_pos c7] at H
            have c7b0 : ((bt a0 0) == 43) = true := beq_iff_eq.mpr c7
            have c7b1 : ((bt a0 0) != 43) = false := bne_eq_false_iff_eq.mpr c7
            clear c7
            by_cases c8 : 3 < (a0.size : Int)
            · rw [if_pos c8] at H
              have c8b0 : decide (3 < (a0.size : Int)) = true := decide_eq_true c8
              have c8b1 : decide (3 < a0.size) = true := decide_eq_true (by omega)
              clear c8
              have H' := Aside0.mk H
              clear H
              have p6 : 0 ≤ (0 : Int) := (by omega)
              have q6 : 0 < a0.size := (by have : (0 : Int) < (a0.size : Int) := of_decide_eq_true (by first | (with_reducible assumption) | assumption); omega)
              have hx6 : ∀ h : 0 < a0.size, ((a0[0]'h).toNat : Int) = bt a0 0 := bt_at a0 0
              clear p6
              have qi6 : (0 < (a0.size : Int)) = True := eq_true (of_decide_eq_true (by first | (with_reducible assumption) | assumption))
              replace q6 := eq_true q6
              have p9 : 0 ≤ (3 : Int) := (by omega)
              have q9 : 3 < a0.size := (by have : (3 : Int) < (a0.size : Int) := of_decide_eq_true (by first | (with_reducible assumption) | assumption); omega)
              have hx9 : ∀ h : 3 < a0.size, ((a0[3]'h).toNat : Int) = bt a0 3 := bt_at a0 3
              clear p9
              have qi9 : (3 < (a0.size : Int)) = True := eq_true (of_decide_eq_true (by first | (with_reducible assumption) | assumption))
              replace q9 := eq_true q9
              go_wp2
              go_meet
              case rel => exact ⟨_, (((bt a0 3) != 58)), (by first | rfl | (simp; done) | (simp [*]; done)), H', ⟨by first | omega | exact Nat.le_refl _⟩, by repeat (first | exact Drawn0.refl _ | apply Drawn0.step)⟩
            · rw [if_neg c8] at H
              exact absurd H (by simp)
          · rw [if_neg c7] at H
            have c7b0 : ((bt a0 0) == 43) = false := beq_eq_false_iff_ne.mpr c7
            have c7b1 : ((bt a0 0) != 43) = true := bne_iff_ne.mpr c7
            by_cases c11 : (bt a0 0) = 45
            · rw [if_pos c11] at H
              have c11b0 : ((bt a0 0) == 45) = true := beq_iff_eq.mpr c11
              have c11b1 : ((bt a0 0) != 45) = false := bne_eq_false_iff_eq.mpr c11
              clear c11
              by_cases c12 : 3 < (a0.size : Int)
              · rw [if_pos c12] at H
                have c12b0 : decide (3 < (a0.size : Int)) = true := decide_eq_true c12
                have c12b1 : decide (3 < a0.size) = true := decide_eq_true (by omega)
                clear c12
                have H' := Aside0.mk H
                clear H
                have p6 : 0 ≤ (0 : Int) := (by omega)
                have q6 : 0 < a0.size := (by have : (0 : Int) < (a0.size : Int) := of_decide_eq_true (by first | (with_reducible assumption) | assumption); omega)
                have hx6 : ∀ h : 0 < a0.size, ((a0[0]'h).toNat : Int) = bt a0 0 := bt_at a0 0
                clear p6
                have qi6 : (0 < (a0.size : Int)) = True := eq_true (of_decide_eq_true (by first | (with_reducible assumption) | assumption))
                replace q6 := eq_true q6
                have p10 : 0 ≤ (0 : Int) := (by omega)
                have q10 : 0 < a0.size := (by have : (0 : Int) < (a0.size : Int) := of_decide_eq_true (by first | (with_reducible assumption) | assumption); omega)
                have hx10 : ∀ h : 0 < a0.size, ((a0[0]'h).toNat : Int) = bt a0 0 := bt_at a0 0
                clear p10
                have qi10 : (0 < (a0.size : Int)) = True := eq_true (of_decide_eq_true (by first | (with_reducible assumption) | assumption))
                replace q10 := eq_true q10
                have p13 : 0 ≤ (3 : Int) := (by omega)
                have q13 : 3 < a0.size := (by have : (3 : Int) < (a0.size : Int) := of_decide_eq_true (by first | (with_reducible assumption) | assumption); omega)
                have hx13 : ∀ h : 3 < a0.size, ((a0[3]'h).toNat : Int) = bt a0 3 := bt_at a0 3
                clear p13
                have qi13 : (3 < (a0.size : Int)) = True := eq_true (of_decide_eq_true (by first | (with_reducible assumption) | assumption))
                replace q13 := eq_true q13
                go_wp2
                go_meet
                case rel => exact ⟨_, (((bt a0 3) != 58)), (by first | rfl | (simp; done) | (simp [*]; done)), H', ⟨by first | omega | exact Nat.le_refl _⟩, by repeat (first | exact Drawn0.refl _ | apply Drawn0.step)⟩
              · rw [if_neg c12] at H
                exact absurd H (by simp)
            · rw [if_neg c11] at H
              have c11b0 : ((bt a0 0) == 45) = false := beq_eq_false_iff_ne.mpr c11
              have c11b1 : ((bt a0 0) != 45) = true := bne_iff_ne.mpr c11
              have H' := Aside0.mk H
              clear H
              have p6 : 0 ≤ (0 : Int) := (by omega)
              have q6 : 0 < a0.size := (by have : (0 : Int) < (a0.size : Int) := of_decide_eq_true (by first | (with_reducible assumption) | assumption); omega)
              have hx6 : ∀ h : 0 < a0.size, ((a0[0]'h).toNat : Int) = bt a0 0 := bt_at a0 0
              clear p6
              have qi6 : (0 < (a0.size : Int)) = True := eq_true (of_decide_eq_true (by first | (with_reducible assumption) | assumption))
              replace q6 := eq_true q6
              have p10 : 0 ≤ (0 : Int) := (by omega)
              have q10 : 0 < a0.size := (by have : (0 : Int) < (a0.size : Int) := of_decide_eq_true (by first | (with_reducible assumption) | assumption); omega)
              have hx10 : ∀ h : 0 < a0.size, ((a0[0]'h).toNat : Int) = bt a0 0 := bt_at a0 0
              clear p10
              have qi10 : (0 < (a0.size : Int)) = True := eq_true (of_decide_eq_true (by first | (with_reducible assumption) | assumption))
              replace q10 := eq_true q10
              go_wp2
              go_meet
              case rel => exact ⟨_, (true), (by first | rfl | (simp; done) | (simp [*]; done)), H', ⟨by first | omega | exact Nat.le_refl _⟩, by repeat (first | exact Drawn0.refl _ | apply Drawn0.step)⟩
        · rw [if_neg c5] at H
          exact absurd H (by simp)
      · rw [if_neg c4] at H
        have c4b0 : ((a0.size : Int) == 6) = false := beq_eq_false_iff_ne.mpr c4
        have c4b1 : ((a0.size : Int) != 6) = true := bne_iff_ne.mpr c4
        (first | rw [c4b0] | (simp only [i64_w, i32_w]; rw [c4b0]) | skip)
        have H' := Aside0.mk H
        clear H
        go_wp2
        go_meet
        case rel => exact ⟨_, (true), (by first | rfl | (simp; done) | (simp [*]; done)), H', ⟨by first | omega | exact Nat.le_refl _⟩, by repeat (first | exact Drawn0.refl _ | apply Drawn0.step)⟩
    case rest =>
      clear HC3
      try clear c1
      try clear p1
      try clear q1
      try clear hx1
      try clear qi1
      try clear c2
      try clear c2b0
      try clear c2b1
      try clear p2
      try clear c4
      try clear c4b0
      try clear c4b1
      try clear c5
      try clear c5b0
      try clear c5b1
      try clear p6
      try clear q6
      try clear hx6
      try clear qi6
      try clear c7
      try clear c7b0
      try clear c7b1
      try clear c8
      try clear c8b0
      try clear c8b1
      try clear p9
      try clear q9
      try clear hx9
      try clear qi9
      try clear p10
      try clear q10
      try clear hx10
      try clear qi10
      try clear c11
      try clear c11b0
      try clear c11b1
      try clear c12
      try clear c12b0
      try clear c12b1
      try clear p13
      try clear q13
      try clear hx13
      try clear qi13
      try clear p10
      try clear p13
      try clear p6
      try clear p9
      try clear q10
      try clear q13
      try clear q6
      try clear q9
      obtain ⟨kq, x25_2, rfl, HA, HJ2, ⟨mc2, rfl⟩⟩ := hcut
      cases kq with
      | zero => exact absurd HA.out (by simp [broadsheetref11_zone.j0])
      | succ kj2 =>
        have H := HA.out
        clear HA
        simp only [broadsheetref11_zone.j0] at H
        by_cases c14 : x25_2 = true
        · subst c14
          have H1 : (some (0, false)) = some (r1, r2) := by rw [if_pos rfl] at H; exact H
          clear H
          have H := H1
          clear H1
          simp only [Option.some.injEq, Prod.mk.injEq] at H
          obtain ⟨rfl, rfl⟩ := H
          go_wp2
          go_ret2
          exact ⟨by first | rfl | (simp; done) | (simp [*]; done), by repeat (first | exact Drawn0.refl _ | apply Drawn0.step)⟩
        · replace c14 := Bool.eq_false_iff.mpr c14
          subst c14
          have H1 : ((broadsheetref11_number.f kj2 a0 1 2).bind fun t137 => ((broadsheetref11_number.f kj2 a0 4 2).bind fun t138 => (if t137 < 0 then (broadsheetref11_zone.j1 kj2 a0 t137 t138 true) else (if t137 > 23 then (broadsheetref11_zone.j1 kj2 a0 t137 t138 true) else (if t138 < 0 then (broadsheetref11_zone.j1 kj2 a0 t137 t138 true) else (broadsheetref11_zone.j1 kj2 a0 t137 t138 (decide (t138 > 59)))))))) = some (r1, r2) := by rw [if_neg (show ¬ (false = true) by decide)] at H; exact H
          clear H
          have H := H1
          clear H1
          replace H := Option.bind_eq_some_iff.mp H
          obtain ⟨t137, A150, H⟩ := H
          replace H : ((broadsheetref11_number.f kj2 a0 4 2).bind fun t138 => (if t137 < 0 then (broadsheetref11_zone.j1 kj2 a0 t137 t138 true) else (if t137 > 23 then (broadsheetref11_zone.j1 kj2 a0 t137 t138 true) else (if t138 < 0 then (broadsheetref11_zone.j1 kj2 a0 t137 t138 true) else (broadsheetref11_zone.j1 kj2 a0 t137 t138 (decide (t138 > 59))))))) = some (r1, r2) := H
          have A15 := Aside0.mk A150
          clear A150
          replace H := Option.bind_eq_some_iff.mp H
          obtain ⟨t138, A160, H⟩ := H
          replace H : (if t137 < 0 then (broadsheetref11_zone.j1 kj2 a0 t137 t138 true) else (if t137 > 23 then (broadsheetref11_zone.j1 kj2 a0 t137 t138 true) else (if t138 < 0 then (broadsheetref11_zone.j1 kj2 a0 t137 t138 true) else (broadsheetref11_zone.j1 kj2 a0 t137 t138 (decide (t138 > 59)))))) = some (r1, r2) := H
          have A16 := Aside0.mk A160
          clear A160
          have HC17 := Aside0.mk H
          clear H
          go_upto_region 6 with (first | ((with_reducible refine gate_callee (f := 23) rfl ?_); refine goesL_ (some 27) rfl rfl Tryd.func23 (by kernel_rfl) rfl #[.string a0, .int .i64 1, .int .i64 2] rfl (by (try simp only [List.map_toArray, List.map_cons, List.map_nil]); first | done | rfl | (simp only [List.length_drop, List.length_take]; rfl) | (simp only [Int.tmod_tmod_of_dvd _ (show (60 : Int) ∣ 86400 by decide)]; rfl)) ?_; (with_reducible refine (broadsheetref11_number.calls kj2 a0 1 2 t137 _ A15.out).mono ?_); rintro e w' ⟨rfl, ⟨nd, rfl⟩⟩; refine ⟨_, rfl, ?_⟩) | ((with_reducible refine gate_callee (f := 23) rfl ?_); refine goesL_ (some 29) rfl rfl Tryd.func23 (by kernel_rfl) rfl #[.string a0, .int .i64 4, .int .i64 2] rfl (by (try simp only [List.map_toArray, List.map_cons, List.map_nil]); first | done | rfl | (simp only [List.length_drop, List.length_take]; rfl) | (simp only [Int.tmod_tmod_of_dvd _ (show (60 : Int) ∣ 86400 by decide)]; rfl)) ?_; (with_reducible refine (broadsheetref11_number.calls kj2 a0 4 2 t138 _ A16.out).mono ?_); rintro e w' ⟨rfl, ⟨nd, rfl⟩⟩; refine ⟨_, rfl, ?_⟩))
          (try simp only [Act.put, List.setIfInBounds_toArray, List.set_cons_zero, List.set_cons_succ])
          go_cut [43] (fun v43 wc => ∃ (kq : Nat) (x43_16 : Bool), v43 = .bool x43_16 ∧ Aside0 (broadsheetref11_zone.j1 kq a0 t137 t138 x43_16 = some (r1, r2)) ∧ Aside0 (kq ≤ kj2) ∧ Drawn0 w wc)
          case first =>
            have H := HC17.out
            clear HC17
            by_cases c18 : t137 < 0
            · rw [if_pos c18] at H
              have c18b0 : decide (t137 < 0) = true := decide_eq_true c18
              clear c18
              (first | rw [c18b0] | (simp only [i64_w, i32_w]; rw [c18b0]) | skip)
              have H' := Aside0.mk H
              clear H
              go_wp2
              go_meet
              case rel => exact ⟨_, (true), (by first | rfl | (simp; done) | (simp [*]; done)), H', ⟨by have := HJ2.out; first | omega | exact Nat.le_refl _⟩, by repeat (first | exact Drawn0.refl _ | apply Drawn0.step)⟩
            · rw [if_neg c18] at H
              have c18b0 : decide (t137 < 0) = false := decide_eq_false c18
              clear c18
              (first | rw [c18b0] | (simp only [i64_w, i32_w]; rw [c18b0]) | skip)
              by_cases c19 : t137 > 23
              · rw [if_pos c19] at H
                have c19b0 : decide (23 < t137) = true := decide_eq_true c19
                clear c19
                have H' := Aside0.mk H
                clear H
                go_wp2
                go_meet
                case rel => exact ⟨_, (true), (by first | rfl | (simp; done) | (simp [*]; done)), H', ⟨by have := HJ2.out; first | omega | exact Nat.le_refl _⟩, by repeat (first | exact Drawn0.refl _ | apply Drawn0.step)⟩
              · rw [if_neg c19] at H
                have c19b0 : decide (23 < t137) = false := decide_eq_false c19
                clear c19
                by_cases c20 : t138 < 0
                · rw [if_pos c20] at H
                  have c20b0 : decide (t138 < 0) = true := decide_eq_true c20
                  clear c20
                  have H' := Aside0.mk H
                  clear H
                  go_wp2
                  go_meet
                  case rel => exact ⟨_, (true), (by first | rfl | (simp; done) | (simp [*]; done)), H', ⟨by have := HJ2.out; first | omega | exact Nat.le_refl _⟩, by repeat (first | exact Drawn0.refl _ | apply Drawn0.step)⟩
                · rw [if_neg c20] at H
                  have c20b0 : decide (t138 < 0) = false := decide_eq_false c20
                  clear c20
                  have H' := Aside0.mk H
                  clear H
                  go_wp2
                  go_meet
                  case rel => exact ⟨_, (decide (t138 > 59)), (by first | rfl | (simp; done) | (simp [*]; done)), H', ⟨by have := HJ2.out; first | omega | exact Nat.le_refl _⟩, by repeat (first | exact Drawn0.refl _ | apply Drawn0.step)⟩
          case rest =>
            clear HC17
            try clear c1
            try clear p1
            try clear q1
            try clear hx1
            try clear qi1
            try clear c2
            try clear c2b0
            try clear c2b1
            try clear p2
            try clear c4
            try clear c4b0
            try clear c4b1
            try clear c5
            try clear c5b0
            try clear c5b1
            try clear p6
            try clear q6
            try clear hx6
            try clear qi6
            try clear c7
            try clear c7b0
            try clear c7b1
            try clear c8
            try clear c8b0
            try clear c8b1
            try clear p9
            try clear q9
            try clear hx9
            try clear qi9
            try clear p10
            try clear q10
            try clear hx10
            try clear qi10
            try clear c11
            try clear c11b0
            try clear c11b1
            try clear c12
            try clear c12b0
            try clear c12b1
            try clear p13
            try clear q13
            try clear hx13
            try clear qi13
            try clear c14
            try clear c18
            try clear c18b0
            try clear c19
            try clear c19b0
            try clear c20
            try clear c20b0
            try clear p1
            try clear p10
            try clear p13
            try clear p2
            try clear p6
            try clear p9
            try clear q1
            try clear q10
            try clear q13
            try clear q6
            try clear q9
            obtain ⟨kq, x43_16, rfl, HA, HJ16, ⟨mc16, rfl⟩⟩ := hcut
            cases kq with
            | zero => exact absurd HA.out (by simp [broadsheetref11_zone.j1])
            | succ kj16 =>
              have H := HA.out
              clear HA
              simp only [broadsheetref11_zone.j1] at H
              by_cases c21 : x43_16 = true
              · subst c21
                have H1 : (some (0, false)) = some (r1, r2) := by rw [if_pos rfl] at H; exact H
                clear H
                have H := H1
                clear H1
                simp only [Option.some.injEq, Prod.mk.injEq] at H
                obtain ⟨rfl, rfl⟩ := H
                go_wp2
                go_ret2
                exact ⟨by first | rfl | (simp; done) | (simp [*]; done), by repeat (first | exact Drawn0.refl _ | apply Drawn0.step)⟩
              · replace c21 := Bool.eq_false_iff.mpr c21
                subst c21
                have H1 : (if 0 < (a0.size : Int) then (if (bt a0 0) = 45 then (some (wrap64 ((wrap64 ((wrap64 (-t137)) * 3600)) - (wrap64 (t138 * 60))), true)) else (some (wrap64 ((wrap64 (t137 * 3600)) + (wrap64 (t138 * 60))), true))) else (none)) = some (r1, r2) := by rw [if_neg (show ¬ (false = true) by decide)] at H; exact H
                clear H
                have H := H1
                clear H1
                by_cases c22 : 0 < (a0.size : Int)
                · rw [if_pos c22] at H
                  have c22b0 : decide (0 < (a0.size : Int)) = true := decide_eq_true c22
                  have c22b1 : decide (0 < a0.size) = true := decide_eq_true (by omega)
                  clear c22
                  by_cases c24 : (bt a0 0) = 45
                  · rw [if_pos c24] at H
                    have c24b0 : ((bt a0 0) == 45) = true := beq_iff_eq.mpr c24
                    have c24b1 : ((bt a0 0) != 45) = false := bne_eq_false_iff_eq.mpr c24
                    clear c24
                    simp only [Option.some.injEq, Prod.mk.injEq] at H
                    obtain ⟨rfl, rfl⟩ := H
                    have p23 : 0 ≤ (0 : Int) := (by omega)
                    have q23 : 0 < a0.size := (by have : (0 : Int) < (a0.size : Int) := of_decide_eq_true (by first | (with_reducible assumption) | assumption); omega)
                    have hx23 : ∀ h : 0 < a0.size, ((a0[0]'h).toNat : Int) = bt a0 0 := bt_at a0 0
                    clear p23
                    have qi23 : (0 < (a0.size : Int)) = True := eq_true (of_decide_eq_true (by first | (with_reducible assumption) | assumption))
                    replace q23 := eq_true q23
                    go_wp2
                    go_ret2
                    exact ⟨by first | rfl | (simp; done) | (simp [*]; done), by repeat (first | exact Drawn0.refl _ | apply Drawn0.step)⟩
                  · rw [if_neg c24] at H
                    have c24b0 : ((bt a0 0) == 45) = false := beq_eq_false_iff_ne.mpr c24
                    have c24b1 : ((bt a0 0) != 45) = true := bne_iff_ne.mpr c24
                    simp only [Option.some.injEq, Prod.mk.injEq] at H
                    obtain ⟨rfl, rfl⟩ := H
                    have p23 : 0 ≤ (0 : Int) := (by omega)
                    have q23 : 0 < a0.size := (by have : (0 : Int) < (a0.size : Int) := of_decide_eq_true (by first | (with_reducible assumption) | assumption); omega)
                    have hx23 : ∀ h : 0 < a0.size, ((a0[0]'h).toNat : Int) = bt a0 0 := bt_at a0 0
                    clear p23
                    have qi23 : (0 < (a0.size : Int)) = True := eq_true (of_decide_eq_true (by first | (with_reducible assumption) | assumption))
                    replace q23 := eq_true q23
                    go_wp2
                    go_ret2
                    exact ⟨by first | rfl | (simp; done) | (simp [*]; done), by repeat (first | exact Drawn0.refl _ | apply Drawn0.step)⟩
                · rw [if_neg c22] at H
                  exact absurd H (by simp)

/-! ### broadsheetref11_since: function 28 -/
mutual
def broadsheetref11_since.l0 : Nat → Int → Int → Int → Int → Option (Int)
  | 0, _, _, _, _ => none
  | k + 1, x0, x1, x2, x7 => if x0 ≥ 2370 then (broadsheetref11_since.l0 k (wrap64 (x0 - 400)) x1 x2 (wrap64 (x7 + 146097))) else (broadsheetref11_since.l1 k x0 x1 x2 x7)
def broadsheetref11_since.l1 : Nat → Int → Int → Int → Int → Option (Int)
  | 0, _, _, _, _ => none
  | k + 1, x0, x1, x2, x7 => if (wrap64 (x0 + 400)) ≤ 1970 then (broadsheetref11_since.l1 k (wrap64 (x0 + 400)) x1 x2 (wrap64 (x7 - 146097))) else (broadsheetref11_since.l2 k x0 x1 x2 x7 1970)
def broadsheetref11_since.l2 : Nat → Int → Int → Int → Int → Int → Option (Int)
  | 0, _, _, _, _, _ => none
  | k + 1, x0, x1, x2, x7, x8 => if x8 < x0 then ((broadsheetref11_leap.f x8).bind fun t139 => (if t139 = true then (broadsheetref11_since.l2 k x0 x1 x2 (wrap64 ((wrap64 (x7 + 365)) + 1)) (wrap64 (x8 + 1))) else (broadsheetref11_since.l2 k x0 x1 x2 (wrap64 (x7 + 365)) (wrap64 (x8 + 1))))) else (broadsheetref11_since.l3 k x0 x1 x2 x7 x0)
def broadsheetref11_since.l3 : Nat → Int → Int → Int → Int → Int → Option (Int)
  | 0, _, _, _, _, _ => none
  | k + 1, x0, x1, x2, x7, x9 => if x9 < 1970 then ((broadsheetref11_leap.f x9).bind fun t140 => (if t140 = true then (broadsheetref11_since.l3 k x0 x1 x2 (wrap64 ((wrap64 (x7 - 365)) - 1)) (wrap64 (x9 + 1))) else (broadsheetref11_since.l3 k x0 x1 x2 (wrap64 (x7 - 365)) (wrap64 (x9 + 1))))) else (broadsheetref11_since.l4 k x0 x1 x2 x7 1)
def broadsheetref11_since.l4 : Nat → Int → Int → Int → Int → Int → Option (Int)
  | 0, _, _, _, _, _ => none
  | k + 1, x0, x1, x2, x7, x10 => if x10 < x1 then ((broadsheetref11_days.f k x0 x10).bind fun t141 => (broadsheetref11_since.l4 k x0 x1 x2 (wrap64 (x7 + t141)) (wrap64 (x10 + 1)))) else (some (wrap64 ((wrap64 (x7 + x2)) - 1)))
end
def broadsheetref11_since.f (k : Nat) (a0 : Int) (a1 : Int) (a2 : Int) : Option (Int) := broadsheetref11_since.l0 k a0 a1 a2 0
theorem broadsheetref11_since.mono_l : ∀ k, (∀ y0 y1 y2 y3, LeO (broadsheetref11_since.l0 k y0 y1 y2 y3) (broadsheetref11_since.l0 (k + 1) y0 y1 y2 y3)) ∧ (∀ y0 y1 y2 y3, LeO (broadsheetref11_since.l1 k y0 y1 y2 y3) (broadsheetref11_since.l1 (k + 1) y0 y1 y2 y3)) ∧ (∀ y0 y1 y2 y3 y4, LeO (broadsheetref11_since.l2 k y0 y1 y2 y3 y4) (broadsheetref11_since.l2 (k + 1) y0 y1 y2 y3 y4)) ∧ (∀ y0 y1 y2 y3 y4, LeO (broadsheetref11_since.l3 k y0 y1 y2 y3 y4) (broadsheetref11_since.l3 (k + 1) y0 y1 y2 y3 y4)) ∧ (∀ y0 y1 y2 y3 y4, LeO (broadsheetref11_since.l4 k y0 y1 y2 y3 y4) (broadsheetref11_since.l4 (k + 1) y0 y1 y2 y3 y4))
  | 0 => ⟨fun _ _ _ _ r h => by simp [broadsheetref11_since.l0] at h, fun _ _ _ _ r h => by simp [broadsheetref11_since.l1] at h, fun _ _ _ _ _ r h => by simp [broadsheetref11_since.l2] at h, fun _ _ _ _ _ r h => by simp [broadsheetref11_since.l3] at h, fun _ _ _ _ _ r h => by simp [broadsheetref11_since.l4] at h⟩
  | k + 1 => by
    obtain ⟨ih0, ih1, ih2, ih3, ih4⟩ := broadsheetref11_since.mono_l k
    refine ⟨?_, ?_, ?_, ?_, ?_⟩
    · intro y0 y1 y2 y3
      unfold broadsheetref11_since.l0
      repeat' first
      | (with_reducible exact ih0 _ _ _ _)
      | (with_reducible exact ih1 _ _ _ _)
      | (with_reducible exact ih2 _ _ _ _ _)
      | (with_reducible exact ih3 _ _ _ _ _)
      | (with_reducible exact ih4 _ _ _ _ _)
      | (with_reducible exact broadsheetref11_days.mono _ _ _)
      | (with_reducible exact LeO.refl _)
      | (with_reducible exact LeO.none _)
      | (with_reducible refine LeO.ite ?_ ?_)
      | (with_reducible refine LeO.bind ?_ (fun _ => ?_))
      | exact ih0 _ _ _ _
      | exact ih1 _ _ _ _
      | exact ih2 _ _ _ _ _
      | exact ih3 _ _ _ _ _
      | exact ih4 _ _ _ _ _
      | exact broadsheetref11_days.mono _ _ _
      | exact LeO.none _
      | refine LeO.ite ?_ ?_
      | refine LeO.bind ?_ (fun _ => ?_)
    · intro y0 y1 y2 y3
      unfold broadsheetref11_since.l1
      repeat' first
      | (with_reducible exact ih0 _ _ _ _)
      | (with_reducible exact ih1 _ _ _ _)
      | (with_reducible exact ih2 _ _ _ _ _)
      | (with_reducible exact ih3 _ _ _ _ _)
      | (with_reducible exact ih4 _ _ _ _ _)
      | (with_reducible exact broadsheetref11_days.mono _ _ _)
      | (with_reducible exact LeO.refl _)
      | (with_reducible exact LeO.none _)
      | (with_reducible refine LeO.ite ?_ ?_)
      | (with_reducible refine LeO.bind ?_ (fun _ => ?_))
      | exact ih0 _ _ _ _
      | exact ih1 _ _ _ _
      | exact ih2 _ _ _ _ _
      | exact ih3 _ _ _ _ _
      | exact ih4 _ _ _ _ _
      | exact broadsheetref11_days.mono _ _ _
      | exact LeO.none _
      | refine LeO.ite ?_ ?_
      | refine LeO.bind ?_ (fun _ => ?_)
    · intro y0 y1 y2 y3 y4
      unfold broadsheetref11_since.l2
      repeat' first
      | (with_reducible exact ih0 _ _ _ _)
      | (with_reducible exact ih1 _ _ _ _)
      | (with_reducible exact ih2 _ _ _ _ _)
      | (with_reducible exact ih3 _ _ _ _ _)
      | (with_reducible exact ih4 _ _ _ _ _)
      | (with_reducible exact broadsheetref11_days.mono _ _ _)
      | (with_reducible exact LeO.refl _)
      | (with_reducible exact LeO.none _)
      | (with_reducible refine LeO.ite ?_ ?_)
      | (with_reducible refine LeO.bind ?_ (fun _ => ?_))
      | exact ih0 _ _ _ _
      | exact ih1 _ _ _ _
      | exact ih2 _ _ _ _ _
      | exact ih3 _ _ _ _ _
      | exact ih4 _ _ _ _ _
      | exact broadsheetref11_days.mono _ _ _
      | exact LeO.none _
      | refine LeO.ite ?_ ?_
      | refine LeO.bind ?_ (fun _ => ?_)
    · intro y0 y1 y2 y3 y4
      unfold broadsheetref11_since.l3
      repeat' first
      | (with_reducible exact ih0 _ _ _ _)
      | (with_reducible exact ih1 _ _ _ _)
      | (with_reducible exact ih2 _ _ _ _ _)
      | (with_reducible exact ih3 _ _ _ _ _)
      | (with_reducible exact ih4 _ _ _ _ _)
      | (with_reducible exact broadsheetref11_days.mono _ _ _)
      | (with_reducible exact LeO.refl _)
      | (with_reducible exact LeO.none _)
      | (with_reducible refine LeO.ite ?_ ?_)
      | (with_reducible refine LeO.bind ?_ (fun _ => ?_))
      | exact ih0 _ _ _ _
      | exact ih1 _ _ _ _
      | exact ih2 _ _ _ _ _
      | exact ih3 _ _ _ _ _
      | exact ih4 _ _ _ _ _
      | exact broadsheetref11_days.mono _ _ _
      | exact LeO.none _
      | refine LeO.ite ?_ ?_
      | refine LeO.bind ?_ (fun _ => ?_)
    · intro y0 y1 y2 y3 y4
      unfold broadsheetref11_since.l4
      repeat' first
      | (with_reducible exact ih0 _ _ _ _)
      | (with_reducible exact ih1 _ _ _ _)
      | (with_reducible exact ih2 _ _ _ _ _)
      | (with_reducible exact ih3 _ _ _ _ _)
      | (with_reducible exact ih4 _ _ _ _ _)
      | (with_reducible exact broadsheetref11_days.mono _ _ _)
      | (with_reducible exact LeO.refl _)
      | (with_reducible exact LeO.none _)
      | (with_reducible refine LeO.ite ?_ ?_)
      | (with_reducible refine LeO.bind ?_ (fun _ => ?_))
      | exact ih0 _ _ _ _
      | exact ih1 _ _ _ _
      | exact ih2 _ _ _ _ _
      | exact ih3 _ _ _ _ _
      | exact ih4 _ _ _ _ _
      | exact broadsheetref11_days.mono _ _ _
      | exact LeO.none _
      | refine LeO.ite ?_ ?_
      | refine LeO.bind ?_ (fun _ => ?_)
theorem broadsheetref11_since.mono : ∀ a0 a1 a2 k, LeO (broadsheetref11_since.f k a0 a1 a2) (broadsheetref11_since.f (k + 1) a0 a1 a2) := by
  intro a0 a1 a2 k
  obtain ⟨ih0, ih1, ih2, ih3, ih4⟩ := broadsheetref11_since.mono_l k
  unfold broadsheetref11_since.f
  repeat' first
      | (with_reducible exact ih0 _ _ _ _)
      | (with_reducible exact ih1 _ _ _ _)
      | (with_reducible exact ih2 _ _ _ _ _)
      | (with_reducible exact ih3 _ _ _ _ _)
      | (with_reducible exact ih4 _ _ _ _ _)
      | (with_reducible exact broadsheetref11_days.mono _ _ _)
      | (with_reducible exact LeO.refl _)
      | (with_reducible exact LeO.none _)
      | (with_reducible refine LeO.ite ?_ ?_)
      | (with_reducible refine LeO.bind ?_ (fun _ => ?_))
      | exact ih0 _ _ _ _
      | exact ih1 _ _ _ _
      | exact ih2 _ _ _ _ _
      | exact ih3 _ _ _ _ _
      | exact ih4 _ _ _ _ _
      | exact broadsheetref11_days.mono _ _ _
      | exact LeO.none _
      | refine LeO.ite ?_ ?_
      | refine LeO.bind ?_ (fun _ => ?_)
set_option maxHeartbeats 8000000 in
set_option maxRecDepth 100000 in
theorem broadsheetref11_since.calls (k : Nat) (a0 : Int) (a1 : Int) (a2 : Int) (r : Int) (w : World) (h : broadsheetref11_since.f k a0 a1 a2 = some r) :
    Calls Tryd.prog 28 #[.int .i64 a0, .int .i64 a1, .int .i64 a2] w fun e w' => e = .returned (.int .i64 r) ∧ Drawn0 w w' := by
  have H : (broadsheetref11_since.l0 k a0 a1 a2 0) = some r := h
  clear h
  have H' := Aside0.mk H
  clear H
  go_enter Tryd.func28, Tryd.ntmps28
  go_wp2
  go_loopg [0, 7] k (fun kq v0 v7 w' => ∃ (x0_1 : Int) (x7_1 : Int), v0 = .int .i64 x0_1 ∧ v7 = .int .i64 x7_1 ∧ Aside0 (broadsheetref11_since.l0 kq x0_1 a1 a2 x7_1 = some r) ∧ Aside0 (kq ≤ k) ∧ Drawn0 w w')
  case atStart => exact ⟨(a0), (0), (by first | rfl | (simp; done) | (simp [*]; done)), (by first | rfl | (simp; done) | (simp [*]; done)), H', ⟨Nat.le_refl _⟩, by repeat (first | exact Drawn0.refl _ | apply Drawn0.step)⟩
  case round =>
    clear H'
    try clear c2
    try clear p2
    obtain ⟨x0_1, x7_1, rfl, rfl, HA, HK1, ⟨m1, rfl⟩⟩ := hrel
    cases gk with
    | zero => exact absurd HA.out (by simp [broadsheetref11_since.l0])
    | succ k1 =>
      have H := HA.out
      clear HA
      simp only [broadsheetref11_since.l0] at H
      by_cases c4 : x0_1 ≥ 2370
      · rw [if_pos c4] at H
        have c4b0 : decide (2370 ≤ x0_1) = true := decide_eq_true c4
        clear c4
        have H' := Aside0.mk H
        clear H
        go_wp2
        go_roundg k1
        case measure => have := HK1.out; omega
        case rel => exact ⟨(wrap64 (x0_1 - 400)), (wrap64 (x7_1 + 146097)), (by first | rfl | (simp; done) | (simp [*]; done)), (by first | rfl | (simp; done) | (simp [*]; done)), H', ⟨by have := HK1.out; omega⟩, by repeat (first | exact Drawn0.refl _ | apply Drawn0.step)⟩
      · rw [if_neg c4] at H
        have c4b0 : decide (2370 ≤ x0_1) = false := decide_eq_false c4
        clear c4
        have H' := Aside0.mk H
        clear H
        go_wp2
        go_loopg [0, 7] k1 (fun kq v0 v7 w' => ∃ (x0_2 : Int) (x7_2 : Int), v0 = .int .i64 x0_2 ∧ v7 = .int .i64 x7_2 ∧ Aside0 (broadsheetref11_since.l1 kq x0_2 a1 a2 x7_2 = some r) ∧ Aside0 (kq ≤ k1) ∧ Drawn0 w w')
        case atStart => exact ⟨(x0_1), (x7_1), (by first | rfl | (simp; done) | (simp [*]; done)), (by first | rfl | (simp; done) | (simp [*]; done)), H', ⟨Nat.le_refl _⟩, by repeat (first | exact Drawn0.refl _ | apply Drawn0.step)⟩
        case round =>
          clear H'
          try clear c2
          try clear p2
          try clear c4
          try clear c4b0
          try clear p2
          obtain ⟨x0_2, x7_2, rfl, rfl, HA, HK2, ⟨m2, rfl⟩⟩ := hrel
          cases gk with
          | zero => exact absurd HA.out (by simp [broadsheetref11_since.l1])
          | succ k2 =>
            have H := HA.out
            clear HA
            simp only [broadsheetref11_since.l1] at H
            by_cases c5 : (wrap64 (x0_2 + 400)) ≤ 1970
            · rw [if_pos c5] at H
              have c5b0 : decide ((wrap64 (x0_2 + 400)) ≤ 1970) = true := decide_eq_true c5
              clear c5
              have H' := Aside0.mk H
              clear H
              go_wp2
              go_roundg k2
              case measure => have := HK1.out; have := HK2.out; omega
              case rel => exact ⟨(wrap64 (x0_2 + 400)), (wrap64 (x7_2 - 146097)), (by first | rfl | (simp; done) | (simp [*]; done)), (by first | rfl | (simp; done) | (simp [*]; done)), H', ⟨by have := HK1.out; have := HK2.out; omega⟩, by repeat (first | exact Drawn0.refl _ | apply Drawn0.step)⟩
            · rw [if_neg c5] at H
              have c5b0 : decide ((wrap64 (x0_2 + 400)) ≤ 1970) = false := decide_eq_false c5
              clear c5
              have H' := Aside0.mk H
              clear H
              go_wp2
              go_loopg [7, 8] k2 (fun kq v7 v8 w' => ∃ (x7_3 : Int) (x8_3 : Int), v7 = .int .i64 x7_3 ∧ v8 = .int .i64 x8_3 ∧ Aside0 (broadsheetref11_since.l2 kq x0_2 a1 a2 x7_3 x8_3 = some r) ∧ Aside0 (kq ≤ k2) ∧ Drawn0 w w')
              case atStart => exact ⟨(x7_2), (1970), (by first | rfl | (simp; done) | (simp [*]; done)), (by first | rfl | (simp; done) | (simp [*]; done)), H', ⟨Nat.le_refl _⟩, by repeat (first | exact Drawn0.refl _ | apply Drawn0.step)⟩
              case round =>
                clear H'
                try clear c2
                try clear p2
                try clear c4
                try clear c4b0
                try clear c5
                try clear c5b0
                try clear p2
                obtain ⟨x7_3, x8_3, rfl, rfl, HA, HK3, ⟨m3, rfl⟩⟩ := hrel
                cases gk with
                | zero => exact absurd HA.out (by simp [broadsheetref11_since.l2])
                | succ k3 =>
                  have H := HA.out
                  clear HA
                  simp only [broadsheetref11_since.l2] at H
                  by_cases c6 : x8_3 < x0_2
                  · rw [if_pos c6] at H
                    have c6b0 : decide (x8_3 < x0_2) = true := decide_eq_true c6
                    clear c6
                    replace H := Option.bind_eq_some_iff.mp H
                    obtain ⟨t139, A70, H⟩ := H
                    replace H : (if t139 = true then (broadsheetref11_since.l2 k3 x0_2 a1 a2 (wrap64 ((wrap64 (x7_3 + 365)) + 1)) (wrap64 (x8_3 + 1))) else (broadsheetref11_since.l2 k3 x0_2 a1 a2 (wrap64 (x7_3 + 365)) (wrap64 (x8_3 + 1)))) = some r := H
                    have A7 := Aside0.mk A70
                    clear A70
                    by_cases c8 : t139 = true
                    · subst c8
                      have H1 : (broadsheetref11_since.l2 k3 x0_2 a1 a2 (wrap64 ((wrap64 (x7_3 + 365)) + 1)) (wrap64 (x8_3 + 1))) = some r := by rw [if_pos rfl] at H; exact H
                      clear H
                      have H := H1
                      clear H1
                      have H' := Aside0.mk H
                      clear H
                      go_wp2_with (first | ((with_reducible refine gate_callee (f := 39) rfl ?_); refine goesL_ (some 32) rfl rfl Tryd.func39 (by kernel_rfl) rfl #[.int .i64 x8_3] rfl (by (try simp only [List.map_toArray, List.map_cons, List.map_nil]); first | done | rfl | (simp only [List.length_drop, List.length_take]; rfl) | (simp only [Int.tmod_tmod_of_dvd _ (show (60 : Int) ∣ 86400 by decide)]; rfl)) ?_; (with_reducible refine (broadsheetref11_leap.calls x8_3 true _ A7.out).mono ?_); rintro e w' ⟨rfl, ⟨nd, rfl⟩⟩; refine ⟨_, rfl, ?_⟩))
                      go_roundg k3
                      case measure => have := HK1.out; have := HK2.out; have := HK3.out; omega
                      case rel => exact ⟨(wrap64 ((wrap64 (x7_3 + 365)) + 1)), (wrap64 (x8_3 + 1)), (by first | rfl | (simp; done) | (simp [*]; done)), (by first | rfl | (simp; done) | (simp [*]; done)), H', ⟨by have := HK1.out; have := HK2.out; have := HK3.out; omega⟩, by repeat (first | exact Drawn0.refl _ | apply Drawn0.step)⟩
                    · replace c8 := Bool.eq_false_iff.mpr c8
                      subst c8
                      have H1 : (broadsheetref11_since.l2 k3 x0_2 a1 a2 (wrap64 (x7_3 + 365)) (wrap64 (x8_3 + 1))) = some r := by rw [if_neg (show ¬ (false = true) by decide)] at H; exact H
                      clear H
                      have H := H1
                      clear H1
                      have H' := Aside0.mk H
                      clear H
                      go_wp2_with (first | ((with_reducible refine gate_callee (f := 39) rfl ?_); refine goesL_ (some 32) rfl rfl Tryd.func39 (by kernel_rfl) rfl #[.int .i64 x8_3] rfl (by (try simp only [List.map_toArray, List.map_cons, List.map_nil]); first | done | rfl | (simp only [List.length_drop, List.length_take]; rfl) | (simp only [Int.tmod_tmod_of_dvd _ (show (60 : Int) ∣ 86400 by decide)]; rfl)) ?_; (with_reducible refine (broadsheetref11_leap.calls x8_3 false _ A7.out).mono ?_); rintro e w' ⟨rfl, ⟨nd, rfl⟩⟩; refine ⟨_, rfl, ?_⟩))
                      go_roundg k3
                      case measure => have := HK1.out; have := HK2.out; have := HK3.out; omega
                      case rel => exact ⟨(wrap64 (x7_3 + 365)), (wrap64 (x8_3 + 1)), (by first | rfl | (simp; done) | (simp [*]; done)), (by first | rfl | (simp; done) | (simp [*]; done)), H', ⟨by have := HK1.out; have := HK2.out; have := HK3.out; omega⟩, by repeat (first | exact Drawn0.refl _ | apply Drawn0.step)⟩
                  · rw [if_neg c6] at H
                    have c6b0 : decide (x8_3 < x0_2) = false := decide_eq_false c6
                    clear c6
                    have H' := Aside0.mk H
                    clear H
                    go_wp2
                    go_loopg [7, 9] k3 (fun kq v7 v9 w' => ∃ (x7_4 : Int) (x9_4 : Int), v7 = .int .i64 x7_4 ∧ v9 = .int .i64 x9_4 ∧ Aside0 (broadsheetref11_since.l3 kq x0_2 a1 a2 x7_4 x9_4 = some r) ∧ Aside0 (kq ≤ k3) ∧ Drawn0 w w')
                    case atStart => exact ⟨(x7_3), (x0_2), (by first | rfl | (simp; done) | (simp [*]; done)), (by first | rfl | (simp; done) | (simp [*]; done)), H', ⟨Nat.le_refl _⟩, by repeat (first | exact Drawn0.refl _ | apply Drawn0.step)⟩
                    case round =>
                      clear H'
                      try clear c2
                      try clear p2
                      try clear c3
                      try clear c4
                      try clear c4b0
                      try clear c5
                      try clear c5b0
                      try clear c6
                      try clear c6b0
                      try clear p6
                      try clear c8
                      try clear p2
                      obtain ⟨x7_4, x9_4, rfl, rfl, HA, HK4, ⟨m4, rfl⟩⟩ := hrel
                      cases gk with
                      | zero => exact absurd HA.out (by simp [broadsheetref11_since.l3])
                      | succ k4 =>
                        have H := HA.out
                        clear HA
                        simp only [broadsheetref11_since.l3] at H
                        by_cases c9 : x9_4 < 1970
                        · rw [if_pos c9] at H
                          have c9b0 : decide (x9_4 < 1970) = true := decide_eq_true c9
                          clear c9
                          replace H := Option.bind_eq_some_iff.mp H
                          obtain ⟨t140, A100, H⟩ := H
                          replace H : (if t140 = true then (broadsheetref11_since.l3 k4 x0_2 a1 a2 (wrap64 ((wrap64 (x7_4 - 365)) - 1)) (wrap64 (x9_4 + 1))) else (broadsheetref11_since.l3 k4 x0_2 a1 a2 (wrap64 (x7_4 - 365)) (wrap64 (x9_4 + 1)))) = some r := H
                          have A10 := Aside0.mk A100
                          clear A100
                          by_cases c11 : t140 = true
                          · subst c11
                            have H1 : (broadsheetref11_since.l3 k4 x0_2 a1 a2 (wrap64 ((wrap64 (x7_4 - 365)) - 1)) (wrap64 (x9_4 + 1))) = some r := by rw [if_pos rfl] at H; exact H
                            clear H
                            have H := H1
                            clear H1
                            have H' := Aside0.mk H
                            clear H
                            go_wp2_with (first | ((with_reducible refine gate_callee (f := 39) rfl ?_); refine goesL_ (some 43) rfl rfl Tryd.func39 (by kernel_rfl) rfl #[.int .i64 x9_4] rfl (by (try simp only [List.map_toArray, List.map_cons, List.map_nil]); first | done | rfl | (simp only [List.length_drop, List.length_take]; rfl) | (simp only [Int.tmod_tmod_of_dvd _ (show (60 : Int) ∣ 86400 by decide)]; rfl)) ?_; (with_reducible refine (broadsheetref11_leap.calls x9_4 true _ A10.out).mono ?_); rintro e w' ⟨rfl, ⟨nd, rfl⟩⟩; refine ⟨_, rfl, ?_⟩))
                            go_roundg k4
                            case measure => have := HK1.out; have := HK2.out; have := HK3.out; have := HK4.out; omega
                            case rel => exact ⟨(wrap64 ((wrap64 (x7_4 - 365)) - 1)), (wrap64 (x9_4 + 1)), (by first | rfl | (simp; done) | (simp [*]; done)), (by first | rfl | (simp; done) | (simp [*]; done)), H', ⟨by have := HK1.out; have := HK2.out; have := HK3.out; have := HK4.out; omega⟩, by repeat (first | exact Drawn0.refl _ | apply Drawn0.step)⟩
                          · replace c11 := Bool.eq_false_iff.mpr c11
                            subst c11
                            have H1 : (broadsheetref11_since.l3 k4 x0_2 a1 a2 (wrap64 (x7_4 - 365)) (wrap64 (x9_4 + 1))) = some r := by rw [if_neg (show ¬ (false = true) by decide)] at H; exact H
                            clear H
                            have H := H1
                            clear H1
                            have H' := Aside0.mk H
                            clear H
                            go_wp2_with (first | ((with_reducible refine gate_callee (f := 39) rfl ?_); refine goesL_ (some 43) rfl rfl Tryd.func39 (by kernel_rfl) rfl #[.int .i64 x9_4] rfl (by (try simp only [List.map_toArray, List.map_cons, List.map_nil]); first | done | rfl | (simp only [List.length_drop, List.length_take]; rfl) | (simp only [Int.tmod_tmod_of_dvd _ (show (60 : Int) ∣ 86400 by decide)]; rfl)) ?_; (with_reducible refine (broadsheetref11_leap.calls x9_4 false _ A10.out).mono ?_); rintro e w' ⟨rfl, ⟨nd, rfl⟩⟩; refine ⟨_, rfl, ?_⟩))
                            go_roundg k4
                            case measure => have := HK1.out; have := HK2.out; have := HK3.out; have := HK4.out; omega
                            case rel => exact ⟨(wrap64 (x7_4 - 365)), (wrap64 (x9_4 + 1)), (by first | rfl | (simp; done) | (simp [*]; done)), (by first | rfl | (simp; done) | (simp [*]; done)), H', ⟨by have := HK1.out; have := HK2.out; have := HK3.out; have := HK4.out; omega⟩, by repeat (first | exact Drawn0.refl _ | apply Drawn0.step)⟩
                        · rw [if_neg c9] at H
                          have c9b0 : decide (x9_4 < 1970) = false := decide_eq_false c9
                          clear c9
                          have H' := Aside0.mk H
                          clear H
                          go_wp2
                          go_loopg [7, 10] k4 (fun kq v7 v10 w' => ∃ (x7_5 : Int) (x10_5 : Int), v7 = .int .i64 x7_5 ∧ v10 = .int .i64 x10_5 ∧ Aside0 (broadsheetref11_since.l4 kq x0_2 a1 a2 x7_5 x10_5 = some r) ∧ Aside0 (kq ≤ k4) ∧ Drawn0 w w')
                          case atStart => exact ⟨(x7_4), (1), (by first | rfl | (simp; done) | (simp [*]; done)), (by first | rfl | (simp; done) | (simp [*]; done)), H', ⟨Nat.le_refl _⟩, by repeat (first | exact Drawn0.refl _ | apply Drawn0.step)⟩
                          case round =>
                            clear H'
                            try clear c1
                            try clear c2
                            try clear p2
                            try clear c3
                            try clear c4
                            try clear c4b0
                            try clear c5
                            try clear c5b0
                            try clear c6
                            try clear c6b0
                            try clear p6
                            try clear c8
                            try clear c9
                            try clear c9b0
                            try clear c11
                            try clear p2
                            try clear p6
                            obtain ⟨x7_5, x10_5, rfl, rfl, HA, HK5, ⟨m5, rfl⟩⟩ := hrel
                            cases gk with
                            | zero => exact absurd HA.out (by simp [broadsheetref11_since.l4])
                            | succ k5 =>
                              have H := HA.out
                              clear HA
                              simp only [broadsheetref11_since.l4] at H
                              by_cases c12 : x10_5 < a1
                              · rw [if_pos c12] at H
                                have c12b0 : decide (x10_5 < a1) = true := decide_eq_true c12
                                clear c12
                                replace H := Option.bind_eq_some_iff.mp H
                                obtain ⟨t141, A130, H⟩ := H
                                replace H : (broadsheetref11_since.l4 k5 x0_2 a1 a2 (wrap64 (x7_5 + t141)) (wrap64 (x10_5 + 1))) = some r := H
                                have A13 := Aside0.mk A130
                                clear A130
                                have H' := Aside0.mk H
                                clear H
                                go_wp2_with (first | ((with_reducible refine gate_callee (f := 25) rfl ?_); refine goesL_ (some 54) rfl rfl Tryd.func25 (by kernel_rfl) rfl #[.int .i64 x0_2, .int .i64 x10_5] rfl (by (try simp only [List.map_toArray, List.map_cons, List.map_nil]); first | done | rfl | (simp only [List.length_drop, List.length_take]; rfl) | (simp only [Int.tmod_tmod_of_dvd _ (show (60 : Int) ∣ 86400 by decide)]; rfl)) ?_; (with_reducible refine (broadsheetref11_days.calls k5 x0_2 x10_5 t141 _ A13.out).mono ?_); rintro e w' ⟨rfl, ⟨nd, rfl⟩⟩; refine ⟨_, rfl, ?_⟩))
                                go_roundg k5
                                case measure => have := HK1.out; have := HK2.out; have := HK3.out; have := HK4.out; have := HK5.out; omega
                                case rel => exact ⟨(wrap64 (x7_5 + t141)), (wrap64 (x10_5 + 1)), (by first | rfl | (simp; done) | (simp [*]; done)), (by first | rfl | (simp; done) | (simp [*]; done)), H', ⟨by have := HK1.out; have := HK2.out; have := HK3.out; have := HK4.out; have := HK5.out; omega⟩, by repeat (first | exact Drawn0.refl _ | apply Drawn0.step)⟩
                              · rw [if_neg c12] at H
                                have c12b0 : decide (x10_5 < a1) = false := decide_eq_false c12
                                clear c12
                                obtain rfl := Option.some.inj H
                                go_wp2
                                go_ret
                                exact ⟨by first | rfl | (simp; done) | (simp [*]; done), by repeat (first | exact Drawn0.refl _ | apply Drawn0.step)⟩

end Go.Proofs.YtfcmdameiabjmaaDoor.Pr
