-- Written by given.py, a program of this session, over the kit's printer.
import Derived.Test.YtcplaafmelcndaaGreatDoorBd1
import Derived.Test.YtcplaafmelcndaaGreatDoorSch
import Derived.Test.YtcplaafmelcndaaGreatDoorPrx3
namespace Go.Proofs.YtcplaafmelcndaaGreatDoor.Pr
open Go.RowKit Go.Proofs.YtcplaafmelcndaaGreatDoorW.PrintWords Go.Proofs.YtcplaafmelcndaaGreatDoorW.PrintLast Go.Proofs.YtcplaafmelcndaaGreatDoorW.PrintMore
attribute [local go_sem] max2_int min2_int max_two min_two max_three min_three max_four min_four
set_option linter.unusedVariables false
set_option linter.unusedSimpArgs false
mutual
def locator_signs.l0 : Nat → ByteArray → ByteArray → Int → Option (Bool)
  | 0, _, _, _ => none
  | k + 1, x0, x1, x5 => if x5 < (x0.size : Int) then (if 0 ≤ x5 then ((locator_letter.f (bt x0 x5)).bind fun t166 => (if t166 = true then (locator_signs.j1 k x0 x1 x5 (bt x0 x5) t166) else ((locator_digit.f (bt x0 x5)).bind fun t167 => (if t167 = true then (locator_signs.j1 k x0 x1 x5 (bt x0 x5) t167) else (if (bt x0 x5) > 127 then (locator_signs.j1 k x0 x1 x5 (bt x0 x5) (decide ((bt x0 x5) > 127))) else ((Go.Proofs.YtcplaafmelcndaaGreatDoor.At.strings_IndexByte.f x1 (bt x0 x5)).bind fun t168 => (locator_signs.j1 k x0 x1 x5 (bt x0 x5) (decide (t168 ≥ 0))))))))) else (none)) else (some true)
def locator_signs.j1 : Nat → ByteArray → ByteArray → Int → Int → Bool → Option (Bool)
  | 0, _, _, _, _, _ => none
  | k + 1, x0, x1, x5, x6, x18 => if x18 = true then (locator_signs.l0 k x0 x1 (wrap64 (x5 + 1))) else (if x6 = 37 then (if 0 ≤ (wrap64 (x5 + 1)) then (if (wrap64 (x5 + 1)) ≤ (x0.size : Int) then ((locator_hex.f (x0.extract ((wrap64 (x5 + 1)) : Int).toNat x0.size)).bind fun t169 => (if t169 = true then (locator_signs.l0 k x0 x1 (wrap64 ((wrap64 (x5 + 2)) + 1))) else (some false))) else (none)) else (none)) else (some false))
end
def locator_signs.f (k : Nat) (a0 : ByteArray) (a1 : ByteArray) : Option (Bool) := if a1.size + 17 ≤ 9223372036854775807 then (locator_signs.l0 k a0 (a1 ++ (⟨#[45, 46, 95, 126, 33, 36, 38, 39, 40, 41, 42, 43, 44, 59, 61, 58, 64]⟩ : ByteArray)) 0) else (none)
set_option maxHeartbeats 8000000 in
set_option maxRecDepth 100000 in
theorem locator_signs.calls (k : Nat) (a0 : ByteArray) (a1 : ByteArray) (r : Bool) (w : World) (h : locator_signs.f k a0 a1 = some r) :
    Calls Tryz.prog 93 #[.string a0, .string a1] w fun e w' => e = .returned (.bool r) ∧ Below w.heap.size w w' := by
  have HB := Aside0.mk (Below.refl w.heap.size w)
  have H : (if a1.size + 17 ≤ 9223372036854775807 then (locator_signs.l0 k a0 (a1 ++ (⟨#[45, 46, 95, 126, 33, 36, 38, 39, 40, 41, 42, 43, 44, 59, 61, 58, 64]⟩ : ByteArray)) 0) else (none)) = some r := h
  clear h
  by_cases c3 : a1.size + 17 ≤ 9223372036854775807
  · rw [if_pos c3] at H
    have c3b0 := eq_true c3
    have c3b1 : decide (a1.size + 17 ≤ 9223372036854775807) = true := decide_eq_true c3
    try have c3b2 : (9223372036854775807 < a1.size + 17) = False := eq_false (Nat.not_lt.2 c3)
    have H' := Aside0.mk H
    clear H
    go_enter Tryz.func93, Tryz.ntmps93
    go_wp2
    go_loopg [5] k (fun kq v5 w' => ∃ (x5_1 : Int), v5 = .int .i64 x5_1 ∧ Aside0 (locator_signs.l0 kq a0 (a1 ++ (⟨#[45, 46, 95, 126, 33, 36, 38, 39, 40, 41, 42, 43, 44, 59, 61, 58, 64]⟩ : ByteArray)) x5_1 = some r) ∧ Aside0 (kq ≤ k) ∧ Aside0 (Below w.heap.size w w'))
    case atStart => exact ⟨(0), (by first | rfl | (simp; done) | (simp [*]; done)), H', ⟨Nat.le_refl _⟩, ⟨by repeat (first | (with_reducible first | exact HB.out | apply below_alloc | apply pw_below_drewN | apply below_drew1) | exact HB.out)⟩⟩
    case round =>
      clear H'
      try clear p2
      try clear c3
      try clear c3b0
      try clear c3b1
      try clear c3b2
      obtain ⟨x5_1, rfl, HA, HK1, HB⟩ := hrel
      cases gk with
      | zero => exact absurd HA.out (by simp [locator_signs.l0])
      | succ k1 =>
        have H := HA.out
        clear HA
        simp only [locator_signs.l0] at H
        by_cases c4 : x5_1 < (a0.size : Int)
        · rw [if_pos c4] at H
          have c4b0 : decide (x5_1 < (a0.size : Int)) = true := decide_eq_true c4
          clear c4
          by_cases c5 : 0 ≤ x5_1
          · rw [if_pos c5] at H
            have c5b0 : decide (0 ≤ x5_1) = true := decide_eq_true c5
            clear c5
            replace H := Option.bind_eq_some_iff.mp H
            obtain ⟨t166, A70, H⟩ := H
            replace H : (if t166 = true then (locator_signs.j1 k1 a0 (a1 ++ (⟨#[45, 46, 95, 126, 33, 36, 38, 39, 40, 41, 42, 43, 44, 59, 61, 58, 64]⟩ : ByteArray)) x5_1 (bt a0 x5_1) t166) else ((locator_digit.f (bt a0 x5_1)).bind fun t167 => (if t167 = true then (locator_signs.j1 k1 a0 (a1 ++ (⟨#[45, 46, 95, 126, 33, 36, 38, 39, 40, 41, 42, 43, 44, 59, 61, 58, 64]⟩ : ByteArray)) x5_1 (bt a0 x5_1) t167) else (if (bt a0 x5_1) > 127 then (locator_signs.j1 k1 a0 (a1 ++ (⟨#[45, 46, 95, 126, 33, 36, 38, 39, 40, 41, 42, 43, 44, 59, 61, 58, 64]⟩ : ByteArray)) x5_1 (bt a0 x5_1) (decide ((bt a0 x5_1) > 127))) else ((Go.Proofs.YtcplaafmelcndaaGreatDoor.At.strings_IndexByte.f (a1 ++ (⟨#[45, 46, 95, 126, 33, 36, 38, 39, 40, 41, 42, 43, 44, 59, 61, 58, 64]⟩ : ByteArray)) (bt a0 x5_1)).bind fun t168 => (locator_signs.j1 k1 a0 (a1 ++ (⟨#[45, 46, 95, 126, 33, 36, 38, 39, 40, 41, 42, 43, 44, 59, 61, 58, 64]⟩ : ByteArray)) x5_1 (bt a0 x5_1) (decide (t168 ≥ 0)))))))) = some r := H
            have A7 := Aside0.mk A70
            clear A70
            have HC8 := Aside0.mk H
            clear H
            have p6 : 0 ≤ (x5_1 : Int) := of_decide_eq_true (by first | (with_reducible assumption) | assumption)
            have q6 : x5_1 < (a0.size : Int) := of_decide_eq_true (by first | (with_reducible assumption) | assumption)
            have hx6 := bt_at a0 x5_1
            replace p6 := eq_true p6
            replace q6 := eq_true q6
            go_upto_if 18 with (first | ((with_reducible refine gate_callee (f := 129) rfl ?_); refine goesL_ (some 20) rfl rfl Tryz.func129 (by kernel_rfl) rfl #[.int .u8 (bt a0 x5_1)] rfl (by (try simp only [List.map_toArray, List.map_cons, List.map_nil]); first | done | rfl | (simp only [List.length_drop, List.length_take]; rfl)) ?_; (with_reducible refine (locator_letter.calls (bt a0 x5_1) t166 _ A7.out).mono ?_); rintro e w' ⟨rfl, ⟨nd, rfl⟩⟩; refine ⟨_, rfl, ?_⟩))
            (try simp only [Act.put, List.setIfInBounds_toArray, List.set_cons_zero, List.set_cons_succ])
            go_cut [18] (fun v18 wc => ∃ (kq : Nat) (x18_7 : Bool), v18 = .bool x18_7 ∧ Aside0 (locator_signs.j1 kq a0 (a1 ++ (⟨#[45, 46, 95, 126, 33, 36, 38, 39, 40, 41, 42, 43, 44, 59, 61, 58, 64]⟩ : ByteArray)) x5_1 (bt a0 x5_1) x18_7 = some r) ∧ Aside0 (kq ≤ k1) ∧ Aside0 (Below w.heap.size w wc))
            case first =>
              have H := HC8.out
              clear HC8
              by_cases c9 : t166 = true
              · subst c9
                have H1 : (locator_signs.j1 k1 a0 (a1 ++ (⟨#[45, 46, 95, 126, 33, 36, 38, 39, 40, 41, 42, 43, 44, 59, 61, 58, 64]⟩ : ByteArray)) x5_1 (bt a0 x5_1) true) = some r := by rw [if_pos rfl] at H; exact H
                clear H
                have H := H1
                clear H1
                have H' := Aside0.mk H
                clear H
                go_wp2
                go_meet
                case rel => exact ⟨_, (true), (by first | rfl | (simp; done) | (simp [*]; done)), H', ⟨by have := HK1.out; first | omega | exact Nat.le_refl _⟩, ⟨by repeat (first | (with_reducible first | exact HB.out | apply below_alloc | apply pw_below_drewN | apply below_drew1) | exact HB.out)⟩⟩
              · replace c9 := Bool.eq_false_iff.mpr c9
                subst c9
                have H1 : ((locator_digit.f (bt a0 x5_1)).bind fun t167 => (if t167 = true then (locator_signs.j1 k1 a0 (a1 ++ (⟨#[45, 46, 95, 126, 33, 36, 38, 39, 40, 41, 42, 43, 44, 59, 61, 58, 64]⟩ : ByteArray)) x5_1 (bt a0 x5_1) t167) else (if (bt a0 x5_1) > 127 then (locator_signs.j1 k1 a0 (a1 ++ (⟨#[45, 46, 95, 126, 33, 36, 38, 39, 40, 41, 42, 43, 44, 59, 61, 58, 64]⟩ : ByteArray)) x5_1 (bt a0 x5_1) (decide ((bt a0 x5_1) > 127))) else ((Go.Proofs.YtcplaafmelcndaaGreatDoor.At.strings_IndexByte.f (a1 ++ (⟨#[45, 46, 95, 126, 33, 36, 38, 39, 40, 41, 42, 43, 44, 59, 61, 58, 64]⟩ : ByteArray)) (bt a0 x5_1)).bind fun t168 => (locator_signs.j1 k1 a0 (a1 ++ (⟨#[45, 46, 95, 126, 33, 36, 38, 39, 40, 41, 42, 43, 44, 59, 61, 58, 64]⟩ : ByteArray)) x5_1 (bt a0 x5_1) (decide (t168 ≥ 0))))))) = some r := by rw [if_neg (show ¬ (false = true) by decide)] at H; exact H
                clear H
                have H := H1
                clear H1
                replace H := Option.bind_eq_some_iff.mp H
                obtain ⟨t167, A100, H⟩ := H
                replace H : (if t167 = true then (locator_signs.j1 k1 a0 (a1 ++ (⟨#[45, 46, 95, 126, 33, 36, 38, 39, 40, 41, 42, 43, 44, 59, 61, 58, 64]⟩ : ByteArray)) x5_1 (bt a0 x5_1) t167) else (if (bt a0 x5_1) > 127 then (locator_signs.j1 k1 a0 (a1 ++ (⟨#[45, 46, 95, 126, 33, 36, 38, 39, 40, 41, 42, 43, 44, 59, 61, 58, 64]⟩ : ByteArray)) x5_1 (bt a0 x5_1) (decide ((bt a0 x5_1) > 127))) else ((Go.Proofs.YtcplaafmelcndaaGreatDoor.At.strings_IndexByte.f (a1 ++ (⟨#[45, 46, 95, 126, 33, 36, 38, 39, 40, 41, 42, 43, 44, 59, 61, 58, 64]⟩ : ByteArray)) (bt a0 x5_1)).bind fun t168 => (locator_signs.j1 k1 a0 (a1 ++ (⟨#[45, 46, 95, 126, 33, 36, 38, 39, 40, 41, 42, 43, 44, 59, 61, 58, 64]⟩ : ByteArray)) x5_1 (bt a0 x5_1) (decide (t168 ≥ 0)))))) = some r := H
                have A10 := Aside0.mk A100
                clear A100
                by_cases c11 : t167 = true
                · subst c11
                  have H1 : (locator_signs.j1 k1 a0 (a1 ++ (⟨#[45, 46, 95, 126, 33, 36, 38, 39, 40, 41, 42, 43, 44, 59, 61, 58, 64]⟩ : ByteArray)) x5_1 (bt a0 x5_1) true) = some r := by rw [if_pos rfl] at H; exact H
                  clear H
                  have H := H1
                  clear H1
                  have H' := Aside0.mk H
                  clear H
                  go_wp2_with (first | ((with_reducible refine gate_callee (f := 130) rfl ?_); refine goesL_ (some 22) rfl rfl Tryz.func130 (by kernel_rfl) rfl #[.int .u8 (bt a0 x5_1)] rfl (by (try simp only [List.map_toArray, List.map_cons, List.map_nil]); first | done | rfl | (simp only [List.length_drop, List.length_take]; rfl)) ?_; (with_reducible refine (locator_digit.calls (bt a0 x5_1) true _ A10.out).mono ?_); rintro e w' ⟨rfl, ⟨nd, rfl⟩⟩; refine ⟨_, rfl, ?_⟩))
                  go_meet
                  case rel => exact ⟨_, (true), (by first | rfl | (simp; done) | (simp [*]; done)), H', ⟨by have := HK1.out; first | omega | exact Nat.le_refl _⟩, ⟨by repeat (first | (with_reducible first | exact HB.out | apply below_alloc | apply pw_below_drewN | apply below_drew1) | exact HB.out)⟩⟩
                · replace c11 := Bool.eq_false_iff.mpr c11
                  subst c11
                  have H1 : (if (bt a0 x5_1) > 127 then (locator_signs.j1 k1 a0 (a1 ++ (⟨#[45, 46, 95, 126, 33, 36, 38, 39, 40, 41, 42, 43, 44, 59, 61, 58, 64]⟩ : ByteArray)) x5_1 (bt a0 x5_1) (decide ((bt a0 x5_1) > 127))) else ((Go.Proofs.YtcplaafmelcndaaGreatDoor.At.strings_IndexByte.f (a1 ++ (⟨#[45, 46, 95, 126, 33, 36, 38, 39, 40, 41, 42, 43, 44, 59, 61, 58, 64]⟩ : ByteArray)) (bt a0 x5_1)).bind fun t168 => (locator_signs.j1 k1 a0 (a1 ++ (⟨#[45, 46, 95, 126, 33, 36, 38, 39, 40, 41, 42, 43, 44, 59, 61, 58, 64]⟩ : ByteArray)) x5_1 (bt a0 x5_1) (decide (t168 ≥ 0))))) = some r := by rw [if_neg (show ¬ (false = true) by decide)] at H; exact H
                  clear H
                  have H := H1
                  clear H1
                  by_cases c12 : (bt a0 x5_1) > 127
                  · rw [if_pos c12] at H
                    have c12b0 : decide (127 < (bt a0 x5_1)) = true := decide_eq_true c12
                    clear c12
                    (first | rw [c12b0] | (simp only [i64_w, i32_w]; rw [c12b0]) | skip)
                    have H' := Aside0.mk H
                    clear H
                    go_wp2_with (first | ((with_reducible refine gate_callee (f := 130) rfl ?_); refine goesL_ (some 22) rfl rfl Tryz.func130 (by kernel_rfl) rfl #[.int .u8 (bt a0 x5_1)] rfl (by (try simp only [List.map_toArray, List.map_cons, List.map_nil]); first | done | rfl | (simp only [List.length_drop, List.length_take]; rfl)) ?_; (with_reducible refine (locator_digit.calls (bt a0 x5_1) false _ A10.out).mono ?_); rintro e w' ⟨rfl, ⟨nd, rfl⟩⟩; refine ⟨_, rfl, ?_⟩))
                    go_meet
                    case rel => exact ⟨_, (decide ((bt a0 x5_1) > 127)), (by first | rfl | (simp; done) | (simp [*]; done)), H', ⟨by have := HK1.out; first | omega | exact Nat.le_refl _⟩, ⟨by repeat (first | (with_reducible first | exact HB.out | apply below_alloc | apply pw_below_drewN | apply below_drew1) | exact HB.out)⟩⟩
                  · rw [if_neg c12] at H
                    have c12b0 : decide (127 < (bt a0 x5_1)) = false := decide_eq_false c12
                    clear c12
                    (first | rw [c12b0] | (simp only [i64_w, i32_w]; rw [c12b0]) | skip)
                    replace H := Option.bind_eq_some_iff.mp H
                    obtain ⟨t168, A130, H⟩ := H
                    replace H : (locator_signs.j1 k1 a0 (a1 ++ (⟨#[45, 46, 95, 126, 33, 36, 38, 39, 40, 41, 42, 43, 44, 59, 61, 58, 64]⟩ : ByteArray)) x5_1 (bt a0 x5_1) (decide (t168 ≥ 0))) = some r := H
                    have A13 := Aside0.mk A130
                    clear A130
                    have H' := Aside0.mk H
                    clear H
                    go_wp2_with (first | ((with_reducible refine gate_callee (f := 130) rfl ?_); refine goesL_ (some 22) rfl rfl Tryz.func130 (by kernel_rfl) rfl #[.int .u8 (bt a0 x5_1)] rfl (by (try simp only [List.map_toArray, List.map_cons, List.map_nil]); first | done | rfl | (simp only [List.length_drop, List.length_take]; rfl)) ?_; (with_reducible refine (locator_digit.calls (bt a0 x5_1) false _ A10.out).mono ?_); rintro e w' ⟨rfl, ⟨nd, rfl⟩⟩; refine ⟨_, rfl, ?_⟩) | ((with_reducible refine gate_callee (f := 108) rfl ?_); refine goesL_ (some 27) rfl rfl Tryz.func108 (by kernel_rfl) rfl #[.string (a1 ++ (⟨#[45, 46, 95, 126, 33, 36, 38, 39, 40, 41, 42, 43, 44, 59, 61, 58, 64]⟩ : ByteArray)), .int .u8 (bt a0 x5_1)] rfl (by (try simp only [List.map_toArray, List.map_cons, List.map_nil]); first | done | rfl | (simp only [List.length_drop, List.length_take]; rfl)) ?_; (with_reducible refine (Go.Proofs.YtcplaafmelcndaaGreatDoor.At.strings_IndexByte.calls (a1 ++ (⟨#[45, 46, 95, 126, 33, 36, 38, 39, 40, 41, 42, 43, 44, 59, 61, 58, 64]⟩ : ByteArray)) (bt a0 x5_1) t168 _ A13.out).mono ?_); rintro e w14 ⟨rfl, hb⟩; refine ⟨_, rfl, ?_⟩; have n0_ := Aside0.mk (below_step (by repeat (first | (with_reducible first | exact HB.out | apply below_alloc | apply pw_below_drewN | apply below_drew1) | exact HB.out)) hb); clear HB; have HB := n0_; clear n0_; (try clear hb); (try clear hb2); (try clear hk); (try clear hi)))
                    go_meet
                    case rel => exact ⟨_, (decide (t168 ≥ 0)), (by first | rfl | (simp; done) | (simp [*]; done)), H', ⟨by have := HK1.out; first | omega | exact Nat.le_refl _⟩, ⟨by repeat (first | (with_reducible first | exact HB.out | apply below_alloc | apply pw_below_drewN | apply below_drew1) | exact HB.out)⟩⟩
            case rest =>
              clear HC8
              try clear c1
              try clear p2
              try clear c3
              try clear c3b0
              try clear c3b1
              try clear c3b2
              try clear c4
              try clear c4b0
              try clear c5
              try clear c5b0
              try clear p6
              try clear q6
              try clear hx6
              try clear c9
              try clear c10
              try clear c11
              try clear c12
              try clear c12b0
              try clear c13
              try clear p2
              try clear p6
              try clear q6
              obtain ⟨kq, x18_7, rfl, HA, HJ7, HB⟩ := hcut
              cases kq with
              | zero => exact absurd HA.out (by simp [locator_signs.j1])
              | succ kj7 =>
                have H := HA.out
                clear HA
                simp only [locator_signs.j1] at H
                by_cases c15 : x18_7 = true
                · subst c15
                  have H1 : (locator_signs.l0 kj7 a0 (a1 ++ (⟨#[45, 46, 95, 126, 33, 36, 38, 39, 40, 41, 42, 43, 44, 59, 61, 58, 64]⟩ : ByteArray)) (wrap64 (x5_1 + 1))) = some r := by rw [if_pos rfl] at H; exact H
                  clear H
                  have H := H1
                  clear H1
                  have H' := Aside0.mk H
                  clear H
                  go_wp2
                  go_roundg kj7
                  case measure => have := HK1.out; have := HJ7.out; omega
                  case rel => exact ⟨(wrap64 (x5_1 + 1)), (by first | rfl | (simp; done) | (simp [*]; done)), H', ⟨by have := HK1.out; have := HJ7.out; omega⟩, ⟨by repeat (first | (with_reducible first | exact HB.out | apply below_alloc | apply pw_below_drewN | apply below_drew1) | exact HB.out)⟩⟩
                · replace c15 := Bool.eq_false_iff.mpr c15
                  subst c15
                  have H1 : (if (bt a0 x5_1) = 37 then (if 0 ≤ (wrap64 (x5_1 + 1)) then (if (wrap64 (x5_1 + 1)) ≤ (a0.size : Int) then ((locator_hex.f (a0.extract ((wrap64 (x5_1 + 1)) : Int).toNat a0.size)).bind fun t169 => (if t169 = true then (locator_signs.l0 kj7 a0 (a1 ++ (⟨#[45, 46, 95, 126, 33, 36, 38, 39, 40, 41, 42, 43, 44, 59, 61, 58, 64]⟩ : ByteArray)) (wrap64 ((wrap64 (x5_1 + 2)) + 1))) else (some false))) else (none)) else (none)) else (some false)) = some r := by rw [if_neg (show ¬ (false = true) by decide)] at H; exact H
                  clear H
                  have H := H1
                  clear H1
                  by_cases c16 : (bt a0 x5_1) = 37
                  · rw [if_pos c16] at H
                    have c16b0 : ((bt a0 x5_1) == 37) = true := beq_iff_eq.mpr c16
                    have c16b1 : ((bt a0 x5_1) != 37) = false := bne_eq_false_iff_eq.mpr c16
                    clear c16
                    obtain ⟨ji17, hji17⟩ : ∃ j_ : Int, (wrap64 (x5_1 + 1)) = j_ := ⟨_, rfl⟩
                    replace H : (if 0 ≤ (ji17) then (if (ji17) ≤ (a0.size : Int) then ((locator_hex.f (a0.extract ((ji17) : Int).toNat a0.size)).bind fun t169 => (if t169 = true then (locator_signs.l0 kj7 a0 (a1 ++ (⟨#[45, 46, 95, 126, 33, 36, 38, 39, 40, 41, 42, 43, 44, 59, 61, 58, 64]⟩ : ByteArray)) (wrap64 ((wrap64 (x5_1 + 2)) + 1))) else (some false))) else (none)) else (none)) = some r := by first | (rw [hji17] at H; exact H) | (simp only [hji17] at H ⊢; exact H)
                    have hji17w : (IntKind.i64.wrap (x5_1 + 1)) = ji17 := (i64_w _).trans hji17
                    by_cases c18 : 0 ≤ (ji17)
                    · rw [if_pos c18] at H
                      have c18b0 := eq_true c18
                      have c18b1 : decide (0 ≤ (ji17)) = true := decide_eq_true c18
                      clear c18
                      by_cases c19 : (ji17) ≤ (a0.size : Int)
                      · rw [if_pos c19] at H
                        have c19b0 := eq_true c19
                        have c19b1 : decide ((ji17) ≤ (a0.size : Int)) = true := decide_eq_true c19
                        clear c19
                        replace H := Option.bind_eq_some_iff.mp H
                        obtain ⟨t169, A200, H⟩ := H
                        replace H : (if t169 = true then (locator_signs.l0 kj7 a0 (a1 ++ (⟨#[45, 46, 95, 126, 33, 36, 38, 39, 40, 41, 42, 43, 44, 59, 61, 58, 64]⟩ : ByteArray)) (wrap64 ((wrap64 (x5_1 + 2)) + 1))) else (some false)) = some r := H
                        have A20 := Aside0.mk A200
                        clear A200
                        by_cases c21 : t169 = true
                        · subst c21
                          have H1 : (locator_signs.l0 kj7 a0 (a1 ++ (⟨#[45, 46, 95, 126, 33, 36, 38, 39, 40, 41, 42, 43, 44, 59, 61, 58, 64]⟩ : ByteArray)) (wrap64 ((wrap64 (x5_1 + 2)) + 1))) = some r := by rw [if_pos rfl] at H; exact H
                          clear H
                          have H := H1
                          clear H1
                          have H' := Aside0.mk H
                          clear H
                          go_wp2_with (first | (go_at_call 131; (with_reducible refine (locator_hex.calls (a0.extract ((ji17) : Int).toNat a0.size) true _ A20.out).mono ?_); rintro e w22 ⟨rfl, hb⟩; have n0_ := Aside0.mk (below_step (by repeat (first | (with_reducible first | exact HB.out | apply below_alloc | apply pw_below_drewN | apply below_drew1) | exact HB.out)) hb); clear HB; have HB := n0_; clear n0_; (try clear hb); (try clear hb2); (try clear hk); (try clear hi)))
                          go_roundg kj7
                          case measure => have := HK1.out; have := HJ7.out; omega
                          case rel => exact ⟨(wrap64 ((wrap64 (x5_1 + 2)) + 1)), (by first | rfl | (simp; done) | (simp [*]; done)), H', ⟨by have := HK1.out; have := HJ7.out; omega⟩, ⟨by repeat (first | (with_reducible first | exact HB.out | apply below_alloc | apply pw_below_drewN | apply below_drew1) | exact HB.out)⟩⟩
                        · replace c21 := Bool.eq_false_iff.mpr c21
                          subst c21
                          have H1 : (some false) = some r := by rw [if_neg (show ¬ (false = true) by decide)] at H; exact H
                          clear H
                          have H := H1
                          clear H1
                          obtain rfl := Option.some.inj H
                          go_wp2_with (first | (go_at_call 131; (with_reducible refine (locator_hex.calls (a0.extract ((ji17) : Int).toNat a0.size) false _ A20.out).mono ?_); rintro e w23 ⟨rfl, hb⟩; have n0_ := Aside0.mk (below_step (by repeat (first | (with_reducible first | exact HB.out | apply below_alloc | apply pw_below_drewN | apply below_drew1) | exact HB.out)) hb); clear HB; have HB := n0_; clear n0_; (try clear hb); (try clear hb2); (try clear hk); (try clear hi)))
                          go_ret
                          exact ⟨by first | rfl | (simp [errW_none, errW_some] <;> rfl) | (simp only [← hji17]; first | rfl | (simp [errW_none, errW_some] <;> rfl)) | (simp [*, errW_none, errW_some] <;> rfl), by repeat (first | (with_reducible first | exact HB.out | apply below_alloc | apply pw_below_drewN | apply below_drew1) | exact HB.out)⟩
                      · rw [if_neg c19] at H
                        exact absurd H (by simp)
                    · rw [if_neg c18] at H
                      exact absurd H (by simp)
                  · rw [if_neg c16] at H
                    have c16b0 : ((bt a0 x5_1) == 37) = false := beq_eq_false_iff_ne.mpr c16
                    have c16b1 : ((bt a0 x5_1) != 37) = true := bne_iff_ne.mpr c16
                    obtain rfl := Option.some.inj H
                    go_wp2
                    go_ret
                    exact ⟨by first | rfl | (simp [errW_none, errW_some] <;> rfl) | (simp [*, errW_none, errW_some] <;> rfl), by repeat (first | (with_reducible first | exact HB.out | apply below_alloc | apply pw_below_drewN | apply below_drew1) | exact HB.out)⟩
          · rw [if_neg c5] at H
            exact absurd H (by simp)
        · rw [if_neg c4] at H
          have c4b0 : decide (x5_1 < (a0.size : Int)) = false := decide_eq_false c4
          clear c4
          obtain rfl := Option.some.inj H
          go_wp2
          go_ret
          exact ⟨by first | rfl | (simp [errW_none, errW_some] <;> rfl) | (simp [*, errW_none, errW_some] <;> rfl), by repeat (first | (with_reducible first | exact HB.out | apply below_alloc | apply pw_below_drewN | apply below_drew1) | exact HB.out)⟩
  · rw [if_neg c3] at H
    exact absurd H (by simp)
def locator_Parse.f (k : Nat) (a0 : ByteArray) : Option (ByteArray × ByteArray × ByteArray × ByteArray × ByteArray × Bool × Bool × Bool × Bool × Int) := (locator_split.f k a0).bind fun bt171 => ((Go.Proofs.YtcplaafmelcndaaGreatDoor.At.glyph_Check.f a0).bind fun t181 => (if t181 = 0 then (if bt171.2.2.2.2.2.1 = true then ((Go.Proofs.YtcplaafmelcndaaGreatDoor.At.locator_scheme.f bt171.1).bind fun t182 => (if t182 = true then ((locator_signs.f k bt171.2.1 (⟨#[91, 93]⟩ : ByteArray)).bind fun t183 => (if t183 = true then ((locator_signs.f k bt171.2.2.1 (⟨#[47]⟩ : ByteArray)).bind fun t184 => (if t184 = true then ((locator_signs.f k bt171.2.2.2.1 (⟨#[47, 63]⟩ : ByteArray)).bind fun t185 => (if t185 = true then ((locator_signs.f k bt171.2.2.2.2.1 (⟨#[47, 63]⟩ : ByteArray)).bind fun t186 => (if t186 = true then (some (bt171.1, bt171.2.1, bt171.2.2.1, bt171.2.2.2.1, bt171.2.2.2.2.1, bt171.2.2.2.2.2.1, bt171.2.2.2.2.2.2.1, bt171.2.2.2.2.2.2.2.1, bt171.2.2.2.2.2.2.2.2, 0)) else (some ((⟨#[]⟩ : ByteArray), (⟨#[]⟩ : ByteArray), (⟨#[]⟩ : ByteArray), (⟨#[]⟩ : ByteArray), (⟨#[]⟩ : ByteArray), false, false, false, false, 120)))) else (some ((⟨#[]⟩ : ByteArray), (⟨#[]⟩ : ByteArray), (⟨#[]⟩ : ByteArray), (⟨#[]⟩ : ByteArray), (⟨#[]⟩ : ByteArray), false, false, false, false, 120)))) else (some ((⟨#[]⟩ : ByteArray), (⟨#[]⟩ : ByteArray), (⟨#[]⟩ : ByteArray), (⟨#[]⟩ : ByteArray), (⟨#[]⟩ : ByteArray), false, false, false, false, 120)))) else (some ((⟨#[]⟩ : ByteArray), (⟨#[]⟩ : ByteArray), (⟨#[]⟩ : ByteArray), (⟨#[]⟩ : ByteArray), (⟨#[]⟩ : ByteArray), false, false, false, false, 120)))) else (some ((⟨#[]⟩ : ByteArray), (⟨#[]⟩ : ByteArray), (⟨#[]⟩ : ByteArray), (⟨#[]⟩ : ByteArray), (⟨#[]⟩ : ByteArray), false, false, false, false, 120)))) else ((locator_signs.f k bt171.2.1 (⟨#[91, 93]⟩ : ByteArray)).bind fun t187 => (if t187 = true then ((locator_signs.f k bt171.2.2.1 (⟨#[47]⟩ : ByteArray)).bind fun t188 => (if t188 = true then ((locator_signs.f k bt171.2.2.2.1 (⟨#[47, 63]⟩ : ByteArray)).bind fun t189 => (if t189 = true then ((locator_signs.f k bt171.2.2.2.2.1 (⟨#[47, 63]⟩ : ByteArray)).bind fun t190 => (if t190 = true then (some (bt171.1, bt171.2.1, bt171.2.2.1, bt171.2.2.2.1, bt171.2.2.2.2.1, bt171.2.2.2.2.2.1, bt171.2.2.2.2.2.2.1, bt171.2.2.2.2.2.2.2.1, bt171.2.2.2.2.2.2.2.2, 0)) else (some ((⟨#[]⟩ : ByteArray), (⟨#[]⟩ : ByteArray), (⟨#[]⟩ : ByteArray), (⟨#[]⟩ : ByteArray), (⟨#[]⟩ : ByteArray), false, false, false, false, 120)))) else (some ((⟨#[]⟩ : ByteArray), (⟨#[]⟩ : ByteArray), (⟨#[]⟩ : ByteArray), (⟨#[]⟩ : ByteArray), (⟨#[]⟩ : ByteArray), false, false, false, false, 120)))) else (some ((⟨#[]⟩ : ByteArray), (⟨#[]⟩ : ByteArray), (⟨#[]⟩ : ByteArray), (⟨#[]⟩ : ByteArray), (⟨#[]⟩ : ByteArray), false, false, false, false, 120)))) else (some ((⟨#[]⟩ : ByteArray), (⟨#[]⟩ : ByteArray), (⟨#[]⟩ : ByteArray), (⟨#[]⟩ : ByteArray), (⟨#[]⟩ : ByteArray), false, false, false, false, 120))))) else (some ((⟨#[]⟩ : ByteArray), (⟨#[]⟩ : ByteArray), (⟨#[]⟩ : ByteArray), (⟨#[]⟩ : ByteArray), (⟨#[]⟩ : ByteArray), false, false, false, false, 120))))
theorem box9 {w : World} {b : Nat} {v0 v1 v2 v3 v4 v5 v6 v7 v8 : Value} (h : w.heap[b]? = some (.cells #[v0, v1, v2, v3, v4, v5, v6, v7, v8] 88 (0, 0))) : w.cell? ⟨b, 0, none⟩ = some v0 ∧ w.cell? ⟨b, 1, none⟩ = some v1 ∧ w.cell? ⟨b, 2, none⟩ = some v2 ∧ w.cell? ⟨b, 3, none⟩ = some v3 ∧ w.cell? ⟨b, 4, none⟩ = some v4 ∧ w.cell? ⟨b, 5, none⟩ = some v5 ∧ w.cell? ⟨b, 6, none⟩ = some v6 ∧ w.cell? ⟨b, 7, none⟩ = some v7 ∧ w.cell? ⟨b, 8, none⟩ = some v8 :=
  ⟨(blk_cell h 0).trans rfl, (blk_cell h 1).trans rfl, (blk_cell h 2).trans rfl, (blk_cell h 3).trans rfl, (blk_cell h 4).trans rfl, (blk_cell h 5).trans rfl, (blk_cell h 6).trans rfl, (blk_cell h 7).trans rfl, (blk_cell h 8).trans rfl⟩
theorem put9 {W : World} {g : Nat} {u0 u1 u2 u3 u4 u5 u6 u7 u8 : Value} (v0 v1 v2 v3 v4 v5 v6 v7 v8 : Value) (h : W.heap[g]? = some (.cells #[u0, u1, u2, u3, u4, u5, u6, u7, u8] 88 (0, 0))) : (((((((((W.setCell ⟨g, 0, none⟩ v0).setCell ⟨g, 1, none⟩ v1).setCell ⟨g, 2, none⟩ v2).setCell ⟨g, 3, none⟩ v3).setCell ⟨g, 4, none⟩ v4).setCell ⟨g, 5, none⟩ v5).setCell ⟨g, 6, none⟩ v6).setCell ⟨g, 7, none⟩ v7).setCell ⟨g, 8, none⟩ v8).heap[g]? = some (.cells #[v0, v1, v2, v3, v4, v5, v6, v7, v8] 88 (0, 0)) := by
  have q0 : (W.setCell ⟨g, 0, none⟩ v0).heap[g]? = some (.cells #[v0, u1, u2, u3, u4, u5, u6, u7, u8] 88 (0, 0)) := blk_put h 0 _ rfl
  have q1 : ((W.setCell ⟨g, 0, none⟩ v0).setCell ⟨g, 1, none⟩ v1).heap[g]? = some (.cells #[v0, v1, u2, u3, u4, u5, u6, u7, u8] 88 (0, 0)) := blk_put q0 1 _ rfl
  have q2 : (((W.setCell ⟨g, 0, none⟩ v0).setCell ⟨g, 1, none⟩ v1).setCell ⟨g, 2, none⟩ v2).heap[g]? = some (.cells #[v0, v1, v2, u3, u4, u5, u6, u7, u8] 88 (0, 0)) := blk_put q1 2 _ rfl
  have q3 : ((((W.setCell ⟨g, 0, none⟩ v0).setCell ⟨g, 1, none⟩ v1).setCell ⟨g, 2, none⟩ v2).setCell ⟨g, 3, none⟩ v3).heap[g]? = some (.cells #[v0, v1, v2, v3, u4, u5, u6, u7, u8] 88 (0, 0)) := blk_put q2 3 _ rfl
  have q4 : (((((W.setCell ⟨g, 0, none⟩ v0).setCell ⟨g, 1, none⟩ v1).setCell ⟨g, 2, none⟩ v2).setCell ⟨g, 3, none⟩ v3).setCell ⟨g, 4, none⟩ v4).heap[g]? = some (.cells #[v0, v1, v2, v3, v4, u5, u6, u7, u8] 88 (0, 0)) := blk_put q3 4 _ rfl
  have q5 : ((((((W.setCell ⟨g, 0, none⟩ v0).setCell ⟨g, 1, none⟩ v1).setCell ⟨g, 2, none⟩ v2).setCell ⟨g, 3, none⟩ v3).setCell ⟨g, 4, none⟩ v4).setCell ⟨g, 5, none⟩ v5).heap[g]? = some (.cells #[v0, v1, v2, v3, v4, v5, u6, u7, u8] 88 (0, 0)) := blk_put q4 5 _ rfl
  have q6 : (((((((W.setCell ⟨g, 0, none⟩ v0).setCell ⟨g, 1, none⟩ v1).setCell ⟨g, 2, none⟩ v2).setCell ⟨g, 3, none⟩ v3).setCell ⟨g, 4, none⟩ v4).setCell ⟨g, 5, none⟩ v5).setCell ⟨g, 6, none⟩ v6).heap[g]? = some (.cells #[v0, v1, v2, v3, v4, v5, v6, u7, u8] 88 (0, 0)) := blk_put q5 6 _ rfl
  have q7 : ((((((((W.setCell ⟨g, 0, none⟩ v0).setCell ⟨g, 1, none⟩ v1).setCell ⟨g, 2, none⟩ v2).setCell ⟨g, 3, none⟩ v3).setCell ⟨g, 4, none⟩ v4).setCell ⟨g, 5, none⟩ v5).setCell ⟨g, 6, none⟩ v6).setCell ⟨g, 7, none⟩ v7).heap[g]? = some (.cells #[v0, v1, v2, v3, v4, v5, v6, v7, u8] 88 (0, 0)) := blk_put q6 7 _ rfl
  have q8 : (((((((((W.setCell ⟨g, 0, none⟩ v0).setCell ⟨g, 1, none⟩ v1).setCell ⟨g, 2, none⟩ v2).setCell ⟨g, 3, none⟩ v3).setCell ⟨g, 4, none⟩ v4).setCell ⟨g, 5, none⟩ v5).setCell ⟨g, 6, none⟩ v6).setCell ⟨g, 7, none⟩ v7).setCell ⟨g, 8, none⟩ v8).heap[g]? = some (.cells #[v0, v1, v2, v3, v4, v5, v6, v7, v8] 88 (0, 0)) := blk_put q7 8 _ rfl
  exact q8
/-- The result's block, and that of the parts. -/
structure U9 (w W : World) (g2 g4 : Nat) (c2 c4 : Array Value) : Prop where
  bw : Below w.heap.size w W
  b2 : W.heap[g2]? = some (.cells c2 88 (0, 0))
  b4 : W.heap[g4]? = some (.cells c4 88 (0, 0))
  o2 : w.heap.size ≤ g2
theorem U9.step {w W W1 : World} {g2 g4 : Nat} {c2 c4 : Array Value} (h : U9 w W g2 g4 c2 c4) (hb : Below W.heap.size W W1) : U9 w W1 g2 g4 c2 c4 := ⟨h.bw.trans (hb.mono h.bw.size), blk_below h.b2 hb, blk_below h.b4 hb, h.o2⟩
theorem U9.start {w w1 w2 w3 : World} {g2 g4 : Nat} {c2 : Array Value} (h2 : w1.heap[g2]? = some (.cells c2 88 (0, 0)) ∧ g2 = w.heap.size ∧ Below w.heap.size w w1) (hb : Below w1.heap.size w1 w2) {u0 u1 u2 u3 u4 u5 u6 u7 u8 v0 v1 v2 v3 v4 v5 v6 v7 v8 : Value} (h4 : w3.heap[g4]? = some (.cells #[u0, u1, u2, u3, u4, u5, u6, u7, u8] 88 (0, 0)) ∧ g4 = w2.heap.size ∧ Below w2.heap.size w2 w3) :
    U9 w (((((((((w3.setCell ⟨g4, 0, none⟩ v0).setCell ⟨g4, 1, none⟩ v1).setCell ⟨g4, 2, none⟩ v2).setCell ⟨g4, 3, none⟩ v3).setCell ⟨g4, 4, none⟩ v4).setCell ⟨g4, 5, none⟩ v5).setCell ⟨g4, 6, none⟩ v6).setCell ⟨g4, 7, none⟩ v7).setCell ⟨g4, 8, none⟩ v8) g2 g4 c2 #[v0, v1, v2, v3, v4, v5, v6, v7, v8] := by
  obtain ⟨b2, e2, hb2⟩ := h2
  obtain ⟨b4, e4, hb4⟩ := h4
  have s1 := hb2.size
  have s2 := hb.size
  have l2 := blk_lt b2
  have hge : w.heap.size ≤ g4 := by omega
  have n2 : g2 ≠ g4 := by omega
  refine ⟨?_, ?_, ?_, by omega⟩
  · exact below_set (below_set (below_set (below_set (below_set (below_set (below_set (below_set (below_set ((hb2.trans (hb.mono s1)).trans (hb4.mono (Nat.le_trans s1 s2))) hge) hge) hge) hge) hge) hge) hge) hge) hge
  · exact blk_far (p := ⟨g4, 8, none⟩) (blk_far (p := ⟨g4, 7, none⟩) (blk_far (p := ⟨g4, 6, none⟩) (blk_far (p := ⟨g4, 5, none⟩) (blk_far (p := ⟨g4, 4, none⟩) (blk_far (p := ⟨g4, 3, none⟩) (blk_far (p := ⟨g4, 2, none⟩) (blk_far (p := ⟨g4, 1, none⟩) (blk_far (p := ⟨g4, 0, none⟩) (blk_below (blk_below b2 hb) hb4) n2 _) n2 _) n2 _) n2 _) n2 _) n2 _) n2 _) n2 _) n2 _
  · exact put9 v0 v1 v2 v3 v4 v5 v6 v7 v8 b4
theorem U9.last {w W : World} {g2 g4 : Nat} {c4 : Array Value} {u0 u1 u2 u3 u4 u5 u6 u7 u8 v0 v1 v2 v3 v4 v5 v6 v7 v8 : Value} (h : U9 w W g2 g4 #[u0, u1, u2, u3, u4, u5, u6, u7, u8] c4) :
    (((((((((W.setCell ⟨g2, 0, none⟩ v0).setCell ⟨g2, 1, none⟩ v1).setCell ⟨g2, 2, none⟩ v2).setCell ⟨g2, 3, none⟩ v3).setCell ⟨g2, 4, none⟩ v4).setCell ⟨g2, 5, none⟩ v5).setCell ⟨g2, 6, none⟩ v6).setCell ⟨g2, 7, none⟩ v7).setCell ⟨g2, 8, none⟩ v8).heap[g2]? = some (.cells #[v0, v1, v2, v3, v4, v5, v6, v7, v8] 88 (0, 0)) ∧ Below w.heap.size w (((((((((W.setCell ⟨g2, 0, none⟩ v0).setCell ⟨g2, 1, none⟩ v1).setCell ⟨g2, 2, none⟩ v2).setCell ⟨g2, 3, none⟩ v3).setCell ⟨g2, 4, none⟩ v4).setCell ⟨g2, 5, none⟩ v5).setCell ⟨g2, 6, none⟩ v6).setCell ⟨g2, 7, none⟩ v7).setCell ⟨g2, 8, none⟩ v8) :=
  ⟨put9 v0 v1 v2 v3 v4 v5 v6 v7 v8 h.b2, below_set (below_set (below_set (below_set (below_set (below_set (below_set (below_set (below_set (h.bw) h.o2) h.o2) h.o2) h.o2) h.o2) h.o2) h.o2) h.o2) h.o2⟩
set_option maxHeartbeats 8000000 in
set_option maxRecDepth 100000 in
theorem locator_Parse.calls (k : Nat) (a0 : ByteArray) (r1 : ByteArray) (r2 : ByteArray) (r3 : ByteArray) (r4 : ByteArray) (r5 : ByteArray) (r6 : Bool) (r7 : Bool) (r8 : Bool) (r9 : Bool) (r10 : Int) (w : World) (hG : Go.Proofs.YtcplaafmelcndaaGreatDoor.At.LaidW w) (h : locator_Parse.f k a0 = some (r1, r2, r3, r4, r5, r6, r7, r8, r9, r10)) :
    Calls Tryz.prog 67 #[.string a0] w fun e w' => e = .returned (.tuple #[.agg #[.string r1, .string r2, .string r3, .string r4, .string r5, .bool r6, .bool r7, .bool r8, .bool r9], .int .i64 r10]) ∧ Below w.heap.size w w' := by
  have HG := Aside0.mk hG
  clear hG
  unfold locator_Parse.f at h
  obtain ⟨⟨t1, t2, t3, t4, t5, t6, t7, t8, t9⟩, hA, h'⟩ := Option.bind_eq_some_iff.mp h
  clear h
  obtain ⟨tc, hC, h⟩ := Option.bind_eq_some_iff.mp h'
  have HA := Aside0.mk hA
  clear h' hA
  dsimp only at h
  by_cases c0 : tc = 0
  all_goals (first | rw [if_pos c0] at h | rw [if_neg c0] at h)
  all_goals (first | (cases t6 <;> (first | rw [if_pos rfl] at h | rw [if_neg Bool.false_ne_true] at h)) | skip)
  all_goals ((try (dsimp only at h)); (try (obtain ⟨b0, hF, h'⟩ := Option.bind_eq_some_iff.mp h; clear h; have h := h'; clear h'; have F0 := Aside0.mk hF; clear hF; cases b0 <;> (first | rw [if_pos rfl] at h | rw [if_neg Bool.false_ne_true] at h))))
  all_goals ((try (dsimp only at h)); (try (obtain ⟨b1, hF, h'⟩ := Option.bind_eq_some_iff.mp h; clear h; have h := h'; clear h'; have F1 := Aside0.mk hF; clear hF; cases b1 <;> (first | rw [if_pos rfl] at h | rw [if_neg Bool.false_ne_true] at h))))
  all_goals ((try (dsimp only at h)); (try (obtain ⟨b2, hF, h'⟩ := Option.bind_eq_some_iff.mp h; clear h; have h := h'; clear h'; have F2 := Aside0.mk hF; clear hF; cases b2 <;> (first | rw [if_pos rfl] at h | rw [if_neg Bool.false_ne_true] at h))))
  all_goals ((try (dsimp only at h)); (try (obtain ⟨b3, hF, h'⟩ := Option.bind_eq_some_iff.mp h; clear h; have h := h'; clear h'; have F3 := Aside0.mk hF; clear hF; cases b3 <;> (first | rw [if_pos rfl] at h | rw [if_neg Bool.false_ne_true] at h))))
  all_goals ((try (dsimp only at h)); (try (obtain ⟨b4, hF, h'⟩ := Option.bind_eq_some_iff.mp h; clear h; have h := h'; clear h'; have F4 := Aside0.mk hF; clear hF; cases b4 <;> (first | rw [if_pos rfl] at h | rw [if_neg Bool.false_ne_true] at h))))
  all_goals
    simp only [Option.some.injEq, Prod.mk.injEq] at h
    obtain ⟨rfl, rfl, rfl, rfl, rfl, rfl, rfl, rfl, rfl, rfl⟩ := h
    (first | subst c0 | (have c1 := beq_eq_false_iff_ne.mpr c0; have c2 := bne_iff_ne.mpr c0; clear c0))
    have HC := Aside0.mk hC
    clear hC
    go_enter Tryz.func67, Tryz.ntmps67
    go_wp2_with (first | ((with_reducible refine gate_dst (N := 2) rfl ?_); refine box_event ?hg (N := 2) ?hd (cs := #[.string ⟨#[]⟩, .string ⟨#[]⟩, .string ⟨#[]⟩, .string ⟨#[]⟩, .string ⟨#[]⟩, .bool false, .bool false, .bool false, .bool false]) (t := 88) ?hr ?_; (case hd => rfl); (case hg => rfl); (case hr => first | (go_simp; done) | (go_simp; rfl)); intro g2 hg2 w1 hx2 hb2; have H2 := Aside0.mk (And.intro hx2 (And.intro hg2 hb2)); clear hx2 hg2 hb2))
    with_reducible refine (locator_split.calls k a0 t1 t2 t3 t4 t5 _ t7 t8 t9 _ HA.out).mono ?_
    rintro e w2 ⟨rfl, hb⟩
    have HB := Aside0.mk hb
    clear hb
    go_upto_region 2 with (first | ((with_reducible refine gate_dst (N := 4) rfl ?_); refine box_event ?hg (N := 4) ?hd (cs := #[.string ⟨#[]⟩, .string ⟨#[]⟩, .string ⟨#[]⟩, .string ⟨#[]⟩, .string ⟨#[]⟩, .bool false, .bool false, .bool false, .bool false]) (t := 88) ?hr ?_; (case hd => rfl); (case hg => rfl); (case hr => first | (go_simp; done) | (go_simp; rfl)); intro g4 hg4 w3 hx4 hb4; have H4 := Aside0.mk (And.intro hx4 (And.intro hg4 hb4)); obtain ⟨z0, z1, z2, z3, z4, z5, z6, z7, z8⟩ := box9 hx4; have y0 := blk_frozen hx4 0; have y1 := blk_frozen hx4 1; have y2 := blk_frozen hx4 2; have y3 := blk_frozen hx4 3; have y4 := blk_frozen hx4 4; have y5 := blk_frozen hx4 5; have y6 := blk_frozen hx4 6; have y7 := blk_frozen hx4 7; have y8 := blk_frozen hx4 8; clear hx4 hg4 hb4))
    (first | (have hh : Aside0 (locator_split.f k a0 = some (t1, t2, t3, t4, t5, true, t7, t8, t9)) := HA; clear hh; have HK := Aside0.mk (U9.start (v0 := (.string t1)) (v1 := (.string t2)) (v2 := (.string t3)) (v3 := (.string t4)) (v4 := (.string t5)) (v5 := (.bool true)) (v6 := (.bool t7)) (v7 := (.bool t8)) (v8 := (.bool t9)) H2.out HB.out H4.out); generalize (((((((((w3.setCell ⟨g4, 0, none⟩ (.string t1)).setCell ⟨g4, 1, none⟩ (.string t2)).setCell ⟨g4, 2, none⟩ (.string t3)).setCell ⟨g4, 3, none⟩ (.string t4)).setCell ⟨g4, 4, none⟩ (.string t5)).setCell ⟨g4, 5, none⟩ (.bool true)).setCell ⟨g4, 6, none⟩ (.bool t7)).setCell ⟨g4, 7, none⟩ (.bool t8)).setCell ⟨g4, 8, none⟩ (.bool t9)) = w4 at HK ⊢) | (have hh : Aside0 (locator_split.f k a0 = some (t1, t2, t3, t4, t5, false, t7, t8, t9)) := HA; clear hh; have HK := Aside0.mk (U9.start (v0 := (.string t1)) (v1 := (.string t2)) (v2 := (.string t3)) (v3 := (.string t4)) (v4 := (.string t5)) (v5 := (.bool false)) (v6 := (.bool t7)) (v7 := (.bool t8)) (v8 := (.bool t9)) H2.out HB.out H4.out); generalize (((((((((w3.setCell ⟨g4, 0, none⟩ (.string t1)).setCell ⟨g4, 1, none⟩ (.string t2)).setCell ⟨g4, 2, none⟩ (.string t3)).setCell ⟨g4, 3, none⟩ (.string t4)).setCell ⟨g4, 4, none⟩ (.string t5)).setCell ⟨g4, 5, none⟩ (.bool false)).setCell ⟨g4, 6, none⟩ (.bool t7)).setCell ⟨g4, 7, none⟩ (.bool t8)).setCell ⟨g4, 8, none⟩ (.bool t9)) = w4 at HK ⊢) | (have hh : Aside0 (locator_split.f k a0 = some (t1, t2, t3, t4, t5, t6, t7, t8, t9)) := HA; clear hh; have HK := Aside0.mk (U9.start (v0 := (.string t1)) (v1 := (.string t2)) (v2 := (.string t3)) (v3 := (.string t4)) (v4 := (.string t5)) (v5 := (.bool t6)) (v6 := (.bool t7)) (v7 := (.bool t8)) (v8 := (.bool t9)) H2.out HB.out H4.out); generalize (((((((((w3.setCell ⟨g4, 0, none⟩ (.string t1)).setCell ⟨g4, 1, none⟩ (.string t2)).setCell ⟨g4, 2, none⟩ (.string t3)).setCell ⟨g4, 3, none⟩ (.string t4)).setCell ⟨g4, 4, none⟩ (.string t5)).setCell ⟨g4, 5, none⟩ (.bool t6)).setCell ⟨g4, 6, none⟩ (.bool t7)).setCell ⟨g4, 7, none⟩ (.bool t8)).setCell ⟨g4, 8, none⟩ (.bool t9)) = w4 at HK ⊢))
    clear H2 HB H4 z0 z1 z2 z3 z4 z5 z6 z7 z8 y0 y1 y2 y3 y4 y5 y6 y7 y8
    obtain ⟨z0, z1, z2, z3, z4, z5, z6, z7, z8⟩ := box9 HK.out.b4; obtain ⟨y0, y1, y2, y3, y4, y5, y6, y7, y8⟩ := box9 HK.out.b2; have f0 := blk_frozen HK.out.b2 0; have f1 := blk_frozen HK.out.b2 1; have f2 := blk_frozen HK.out.b2 2; have f3 := blk_frozen HK.out.b2 3; have f4 := blk_frozen HK.out.b2 4; have f5 := blk_frozen HK.out.b2 5; have f6 := blk_frozen HK.out.b2 6; have f7 := blk_frozen HK.out.b2 7; have f8 := blk_frozen HK.out.b2 8
    go_wp2_with fail
    with_reducible refine (Go.Proofs.YtcplaafmelcndaaGreatDoor.At.glyph_Check.calls a0 _ _ (Go.Proofs.YtcplaafmelcndaaGreatDoor.At.LaidW.step HG.out HK.out.bw) HC.out).mono ?_
    rintro e w5 ⟨rfl, hb⟩
    have HK := Aside0.mk (HK.out.step hb); clear hb z0 z1 z2 z3 z4 z5 z6 z7 z8 y0 y1 y2 y3 y4 y5 y6 y7 y8 f0 f1 f2 f3 f4 f5 f6 f7 f8; obtain ⟨z0, z1, z2, z3, z4, z5, z6, z7, z8⟩ := box9 HK.out.b4; obtain ⟨y0, y1, y2, y3, y4, y5, y6, y7, y8⟩ := box9 HK.out.b2; have f0 := blk_frozen HK.out.b2 0; have f1 := blk_frozen HK.out.b2 1; have f2 := blk_frozen HK.out.b2 2; have f3 := blk_frozen HK.out.b2 3; have f4 := blk_frozen HK.out.b2 4; have f5 := blk_frozen HK.out.b2 5; have f6 := blk_frozen HK.out.b2 6; have f7 := blk_frozen HK.out.b2 7; have f8 := blk_frozen HK.out.b2 8
    go_wp2_with (first | (go_at_call 92; (with_reducible refine (Go.Proofs.YtcplaafmelcndaaGreatDoor.At.locator_scheme.calls t1 _ _ F0.out).mono ?_); rintro e w6 ⟨rfl, hb⟩; have HK := Aside0.mk (HK.out.step hb); clear hb z0 z1 z2 z3 z4 z5 z6 z7 z8 y0 y1 y2 y3 y4 y5 y6 y7 y8 f0 f1 f2 f3 f4 f5 f6 f7 f8; obtain ⟨z0, z1, z2, z3, z4, z5, z6, z7, z8⟩ := box9 HK.out.b4; obtain ⟨y0, y1, y2, y3, y4, y5, y6, y7, y8⟩ := box9 HK.out.b2; have f0 := blk_frozen HK.out.b2 0; have f1 := blk_frozen HK.out.b2 1; have f2 := blk_frozen HK.out.b2 2; have f3 := blk_frozen HK.out.b2 3; have f4 := blk_frozen HK.out.b2 4; have f5 := blk_frozen HK.out.b2 5; have f6 := blk_frozen HK.out.b2 6; have f7 := blk_frozen HK.out.b2 7; have f8 := blk_frozen HK.out.b2 8) | (go_at_call 93; (first | (with_reducible refine (locator_signs.calls k t2 (⟨#[91, 93]⟩ : ByteArray) _ _ F0.out).mono ?_) | (with_reducible refine (locator_signs.calls k t3 (⟨#[47]⟩ : ByteArray) _ _ F0.out).mono ?_) | (with_reducible refine (locator_signs.calls k t4 (⟨#[47, 63]⟩ : ByteArray) _ _ F0.out).mono ?_) | (with_reducible refine (locator_signs.calls k t5 (⟨#[47, 63]⟩ : ByteArray) _ _ F0.out).mono ?_) | (with_reducible refine (locator_signs.calls k t2 (⟨#[91, 93]⟩ : ByteArray) _ _ F1.out).mono ?_) | (with_reducible refine (locator_signs.calls k t3 (⟨#[47]⟩ : ByteArray) _ _ F1.out).mono ?_) | (with_reducible refine (locator_signs.calls k t4 (⟨#[47, 63]⟩ : ByteArray) _ _ F1.out).mono ?_) | (with_reducible refine (locator_signs.calls k t5 (⟨#[47, 63]⟩ : ByteArray) _ _ F1.out).mono ?_) | (with_reducible refine (locator_signs.calls k t2 (⟨#[91, 93]⟩ : ByteArray) _ _ F2.out).mono ?_) | (with_reducible refine (locator_signs.calls k t3 (⟨#[47]⟩ : ByteArray) _ _ F2.out).mono ?_) | (with_reducible refine (locator_signs.calls k t4 (⟨#[47, 63]⟩ : ByteArray) _ _ F2.out).mono ?_) | (with_reducible refine (locator_signs.calls k t5 (⟨#[47, 63]⟩ : ByteArray) _ _ F2.out).mono ?_) | (with_reducible refine (locator_signs.calls k t2 (⟨#[91, 93]⟩ : ByteArray) _ _ F3.out).mono ?_) | (with_reducible refine (locator_signs.calls k t3 (⟨#[47]⟩ : ByteArray) _ _ F3.out).mono ?_) | (with_reducible refine (locator_signs.calls k t4 (⟨#[47, 63]⟩ : ByteArray) _ _ F3.out).mono ?_) | (with_reducible refine (locator_signs.calls k t5 (⟨#[47, 63]⟩ : ByteArray) _ _ F3.out).mono ?_) | (with_reducible refine (locator_signs.calls k t2 (⟨#[91, 93]⟩ : ByteArray) _ _ F4.out).mono ?_) | (with_reducible refine (locator_signs.calls k t3 (⟨#[47]⟩ : ByteArray) _ _ F4.out).mono ?_) | (with_reducible refine (locator_signs.calls k t4 (⟨#[47, 63]⟩ : ByteArray) _ _ F4.out).mono ?_) | (with_reducible refine (locator_signs.calls k t5 (⟨#[47, 63]⟩ : ByteArray) _ _ F4.out).mono ?_)); rintro e w7 ⟨rfl, hb⟩; have HK := Aside0.mk (HK.out.step hb); clear hb z0 z1 z2 z3 z4 z5 z6 z7 z8 y0 y1 y2 y3 y4 y5 y6 y7 y8 f0 f1 f2 f3 f4 f5 f6 f7 f8; obtain ⟨z0, z1, z2, z3, z4, z5, z6, z7, z8⟩ := box9 HK.out.b4; obtain ⟨y0, y1, y2, y3, y4, y5, y6, y7, y8⟩ := box9 HK.out.b2; have f0 := blk_frozen HK.out.b2 0; have f1 := blk_frozen HK.out.b2 1; have f2 := blk_frozen HK.out.b2 2; have f3 := blk_frozen HK.out.b2 3; have f4 := blk_frozen HK.out.b2 4; have f5 := blk_frozen HK.out.b2 5; have f6 := blk_frozen HK.out.b2 6; have f7 := blk_frozen HK.out.b2 7; have f8 := blk_frozen HK.out.b2 8))
    refine bodyPost_ret (results_ct rfl _ _ g2 88 _ (0, 0) _ rfl HK.out.last.1 Tryz.underlying88 rfl (by kernel_rfl)) rfl ?_
    exact ⟨rfl, HK.out.last.2⟩
def atom_reference.f (k : Nat) (a0 : ByteArray) (a1 : Bool) : Option (Bool) := (locator_Parse.f k a0).bind fun bt191 => (if a0.toList = ([] : List UInt8) then (some false) else (if bt191.2.2.2.2.2.2.2.2.2 = 0 then (if bt191.2.2.2.2.2.1 = true then (some true) else (some (!a1))) else (some false)))
set_option maxHeartbeats 8000000 in
set_option maxRecDepth 100000 in
theorem atom_reference.calls (k : Nat) (a0 : ByteArray) (a1 : Bool) (r : Bool) (w : World) (hG : Go.Proofs.YtcplaafmelcndaaGreatDoor.At.LaidW w) (h : atom_reference.f k a0 a1 = some r) :
    Calls Tryz.prog 38 #[.string a0, .bool a1] w fun e w' => e = .returned (.bool r) ∧ Below w.heap.size w w' := by
  have hu88 := Tryz.underlying88
  have HB := Aside0.mk (Below.refl w.heap.size w)
  have HG := Aside0.mk hG
  clear hG
  have H : ((locator_Parse.f k a0).bind fun bt191 => (if a0.toList = ([] : List UInt8) then (some false) else (if bt191.2.2.2.2.2.2.2.2.2 = 0 then (if bt191.2.2.2.2.2.1 = true then (some true) else (some (!a1))) else (some false)))) = some r := h
  clear h
  replace H := Option.bind_eq_some_iff.mp H
  obtain ⟨⟨t191, t192, t193, t194, t195, t196, t197, t198, t199, t200⟩, A30, H⟩ := H
  replace H : (if a0.toList = ([] : List UInt8) then (some false) else (if t200 = 0 then (if t196 = true then (some true) else (some (!a1))) else (some false))) = some r := H
  have A3 := Aside0.mk A30
  clear A30
  by_cases c4 : a0.toList = ([] : List UInt8)
  · rw [if_pos c4] at H
    have c4b0 : (a0.toList == ([] : List UInt8)) = true := beq_iff_eq.mpr c4
    have c4b1 : (a0.toList != ([] : List UInt8)) = false := bne_eq_false_iff_eq.mpr c4
    clear c4
    obtain rfl := Option.some.inj H
    go_enter Tryz.func38, Tryz.ntmps38
    go_wp2_with (first | ((with_reducible refine gate_callee (f := 67) rfl ?_); refine goesL_ (some 9) rfl rfl Tryz.func67 (by kernel_rfl) rfl #[.string a0] rfl (by (try simp only [List.map_toArray, List.map_cons, List.map_nil]); first | done | rfl | (simp only [List.length_drop, List.length_take]; rfl)) ?_; (with_reducible refine (locator_Parse.calls k a0 t191 t192 t193 t194 t195 t196 t197 t198 t199 t200 _ ?side1 A3.out).mono ?_); (case side1 => exact Go.Proofs.YtcplaafmelcndaaGreatDoor.At.LaidW.step HG.out (by repeat (first | (with_reducible first | exact HB.out | apply below_alloc | apply pw_below_drewN | apply below_drew1) | exact HB.out))); rintro e w5 ⟨rfl, hb⟩; refine ⟨_, rfl, ?_⟩; have n0_ := Aside0.mk (below_step (by repeat (first | (with_reducible first | exact HB.out | apply below_alloc | apply pw_below_drewN | apply below_drew1) | exact HB.out)) hb); clear HB; have HB := n0_; clear n0_; (try clear hb); (try clear hb2); (try clear hk); (try clear hi)) | ((with_reducible refine gate_dst (N := 5) rfl ?_); refine box_event ?hg (N := 5) ?hd (cs := #[.string (⟨#[]⟩ : ByteArray), .string (⟨#[]⟩ : ByteArray), .string (⟨#[]⟩ : ByteArray), .string (⟨#[]⟩ : ByteArray), .string (⟨#[]⟩ : ByteArray), .bool false, .bool false, .bool false, .bool false]) (t := 88) ?hr ?_; (case hd => rfl); (case hg => rfl); (case hr => first | (go_simp; done) | (go_simp; rfl)); intro gb201 hg w6 hbox hb; have n0_ := Aside0.mk (below_step (by repeat (first | (with_reducible first | exact HB.out | apply below_alloc | apply pw_below_drewN | apply below_drew1) | exact HB.out)) hb); have n1_ := Aside0.mk (hbox); have n2_ := Aside0.mk ((by rw [hg]; exact (below_size (by repeat (first | (with_reducible first | exact HB.out | apply below_alloc | apply pw_below_drewN | apply below_drew1) | exact HB.out))) : w.heap.size ≤ gb201)); have n3_ := Aside0.mk ((by rw [hg]; exact (below_size (by repeat (first | (with_reducible first | exact HB.out | apply below_alloc | apply pw_below_drewN | apply below_drew1) | exact HB.out))) : w.heap.size ≤ gb201)); clear HB; have HB := n0_; have BK201 := n1_; have GW201 := n2_; have GE201 := n3_; clear n0_ n1_ n2_ n3_; clear hb hbox hg; have hcz7_0 : w6.cell? ⟨gb201, 0, none⟩ = some (.string (⟨#[]⟩ : ByteArray)) := (blk_cell BK201.out 0).trans rfl; have hcz7_1 : w6.cell? ⟨gb201, 1, none⟩ = some (.string (⟨#[]⟩ : ByteArray)) := (blk_cell BK201.out 1).trans rfl; have hcz7_2 : w6.cell? ⟨gb201, 2, none⟩ = some (.string (⟨#[]⟩ : ByteArray)) := (blk_cell BK201.out 2).trans rfl; have hcz7_3 : w6.cell? ⟨gb201, 3, none⟩ = some (.string (⟨#[]⟩ : ByteArray)) := (blk_cell BK201.out 3).trans rfl; have hcz7_4 : w6.cell? ⟨gb201, 4, none⟩ = some (.string (⟨#[]⟩ : ByteArray)) := (blk_cell BK201.out 4).trans rfl; have hcz7_5 : w6.cell? ⟨gb201, 5, none⟩ = some (.bool false) := (blk_cell BK201.out 5).trans rfl; have hcz7_6 : w6.cell? ⟨gb201, 6, none⟩ = some (.bool false) := (blk_cell BK201.out 6).trans rfl; have hcz7_7 : w6.cell? ⟨gb201, 7, none⟩ = some (.bool false) := (blk_cell BK201.out 7).trans rfl; have hcz7_8 : w6.cell? ⟨gb201, 8, none⟩ = some (.bool false) := (blk_cell BK201.out 8).trans rfl; have hfz7_0 := blk_frozen BK201.out 0; have hfz7_1 := blk_frozen BK201.out 1; have hfz7_2 := blk_frozen BK201.out 2; have hfz7_3 := blk_frozen BK201.out 3; have hfz7_4 := blk_frozen BK201.out 4; have hfz7_5 := blk_frozen BK201.out 5; have hfz7_6 := blk_frozen BK201.out 6; have hfz7_7 := blk_frozen BK201.out 7; have hfz7_8 := blk_frozen BK201.out 8))
    go_ret
    exact ⟨by first | rfl | (simp [errW_none, errW_some] <;> rfl) | (simp [*, errW_none, errW_some] <;> rfl), by repeat (first | (with_reducible first | exact HB.out | apply below_alloc | apply pw_below_drewN | apply below_drew1 | refine below_set ?_ GE201.out) | exact HB.out)⟩
  · rw [if_neg c4] at H
    have c4b0 : (a0.toList == ([] : List UInt8)) = false := beq_eq_false_iff_ne.mpr c4
    have c4b1 : (a0.toList != ([] : List UInt8)) = true := bne_iff_ne.mpr c4
    by_cases c8 : t200 = 0
    · rw [if_pos c8] at H
      have c8b0 : (t200 == 0) = true := beq_iff_eq.mpr c8
      have c8b1 : (t200 != 0) = false := bne_eq_false_iff_eq.mpr c8
      clear c8
      by_cases c9 : t196 = true
      · subst c9
        have H1 : (some true) = some r := by rw [if_pos rfl] at H; exact H
        clear H
        have H := H1
        clear H1
        obtain rfl := Option.some.inj H
        go_enter Tryz.func38, Tryz.ntmps38
        go_wp2_with (first | ((with_reducible refine gate_callee (f := 67) rfl ?_); refine goesL_ (some 9) rfl rfl Tryz.func67 (by kernel_rfl) rfl #[.string a0] rfl (by (try simp only [List.map_toArray, List.map_cons, List.map_nil]); first | done | rfl | (simp only [List.length_drop, List.length_take]; rfl)) ?_; (with_reducible refine (locator_Parse.calls k a0 t191 t192 t193 t194 t195 true t197 t198 t199 t200 _ ?side1 A3.out).mono ?_); (case side1 => exact Go.Proofs.YtcplaafmelcndaaGreatDoor.At.LaidW.step HG.out (by repeat (first | (with_reducible first | exact HB.out | apply below_alloc | apply pw_below_drewN | apply below_drew1) | exact HB.out))); rintro e w10 ⟨rfl, hb⟩; refine ⟨_, rfl, ?_⟩; have n0_ := Aside0.mk (below_step (by repeat (first | (with_reducible first | exact HB.out | apply below_alloc | apply pw_below_drewN | apply below_drew1) | exact HB.out)) hb); clear HB; have HB := n0_; clear n0_; (try clear hb); (try clear hb2); (try clear hk); (try clear hi)) | ((with_reducible refine gate_dst (N := 5) rfl ?_); refine box_event ?hg (N := 5) ?hd (cs := #[.string (⟨#[]⟩ : ByteArray), .string (⟨#[]⟩ : ByteArray), .string (⟨#[]⟩ : ByteArray), .string (⟨#[]⟩ : ByteArray), .string (⟨#[]⟩ : ByteArray), .bool false, .bool false, .bool false, .bool false]) (t := 88) ?hr ?_; (case hd => rfl); (case hg => rfl); (case hr => first | (go_simp; done) | (go_simp; rfl)); intro gb201 hg w11 hbox hb; have n0_ := Aside0.mk (below_step (by repeat (first | (with_reducible first | exact HB.out | apply below_alloc | apply pw_below_drewN | apply below_drew1) | exact HB.out)) hb); have n1_ := Aside0.mk (hbox); have n2_ := Aside0.mk ((by rw [hg]; exact (below_size (by repeat (first | (with_reducible first | exact HB.out | apply below_alloc | apply pw_below_drewN | apply below_drew1) | exact HB.out))) : w.heap.size ≤ gb201)); have n3_ := Aside0.mk ((by rw [hg]; exact (below_size (by repeat (first | (with_reducible first | exact HB.out | apply below_alloc | apply pw_below_drewN | apply below_drew1) | exact HB.out))) : w.heap.size ≤ gb201)); clear HB; have HB := n0_; have BK201 := n1_; have GW201 := n2_; have GE201 := n3_; clear n0_ n1_ n2_ n3_; clear hb hbox hg; have hcz12_0 : w11.cell? ⟨gb201, 0, none⟩ = some (.string (⟨#[]⟩ : ByteArray)) := (blk_cell BK201.out 0).trans rfl; have hcz12_1 : w11.cell? ⟨gb201, 1, none⟩ = some (.string (⟨#[]⟩ : ByteArray)) := (blk_cell BK201.out 1).trans rfl; have hcz12_2 : w11.cell? ⟨gb201, 2, none⟩ = some (.string (⟨#[]⟩ : ByteArray)) := (blk_cell BK201.out 2).trans rfl; have hcz12_3 : w11.cell? ⟨gb201, 3, none⟩ = some (.string (⟨#[]⟩ : ByteArray)) := (blk_cell BK201.out 3).trans rfl; have hcz12_4 : w11.cell? ⟨gb201, 4, none⟩ = some (.string (⟨#[]⟩ : ByteArray)) := (blk_cell BK201.out 4).trans rfl; have hcz12_5 : w11.cell? ⟨gb201, 5, none⟩ = some (.bool false) := (blk_cell BK201.out 5).trans rfl; have hcz12_6 : w11.cell? ⟨gb201, 6, none⟩ = some (.bool false) := (blk_cell BK201.out 6).trans rfl; have hcz12_7 : w11.cell? ⟨gb201, 7, none⟩ = some (.bool false) := (blk_cell BK201.out 7).trans rfl; have hcz12_8 : w11.cell? ⟨gb201, 8, none⟩ = some (.bool false) := (blk_cell BK201.out 8).trans rfl; have hfz12_0 := blk_frozen BK201.out 0; have hfz12_1 := blk_frozen BK201.out 1; have hfz12_2 := blk_frozen BK201.out 2; have hfz12_3 := blk_frozen BK201.out 3; have hfz12_4 := blk_frozen BK201.out 4; have hfz12_5 := blk_frozen BK201.out 5; have hfz12_6 := blk_frozen BK201.out 6; have hfz12_7 := blk_frozen BK201.out 7; have hfz12_8 := blk_frozen BK201.out 8))
        go_ret
        exact ⟨by first | rfl | (simp [errW_none, errW_some] <;> rfl) | (simp [*, errW_none, errW_some] <;> rfl), by repeat (first | (with_reducible first | exact HB.out | apply below_alloc | apply pw_below_drewN | apply below_drew1 | refine below_set ?_ GE201.out) | exact HB.out)⟩
      · replace c9 := Bool.eq_false_iff.mpr c9
        subst c9
        have H1 : (some (!a1)) = some r := by rw [if_neg (show ¬ (false = true) by decide)] at H; exact H
        clear H
        have H := H1
        clear H1
        obtain rfl := Option.some.inj H
        go_enter Tryz.func38, Tryz.ntmps38
        go_wp2_with (first | ((with_reducible refine gate_callee (f := 67) rfl ?_); refine goesL_ (some 9) rfl rfl Tryz.func67 (by kernel_rfl) rfl #[.string a0] rfl (by (try simp only [List.map_toArray, List.map_cons, List.map_nil]); first | done | rfl | (simp only [List.length_drop, List.length_take]; rfl)) ?_; (with_reducible refine (locator_Parse.calls k a0 t191 t192 t193 t194 t195 false t197 t198 t199 t200 _ ?side1 A3.out).mono ?_); (case side1 => exact Go.Proofs.YtcplaafmelcndaaGreatDoor.At.LaidW.step HG.out (by repeat (first | (with_reducible first | exact HB.out | apply below_alloc | apply pw_below_drewN | apply below_drew1) | exact HB.out))); rintro e w13 ⟨rfl, hb⟩; refine ⟨_, rfl, ?_⟩; have n0_ := Aside0.mk (below_step (by repeat (first | (with_reducible first | exact HB.out | apply below_alloc | apply pw_below_drewN | apply below_drew1) | exact HB.out)) hb); clear HB; have HB := n0_; clear n0_; (try clear hb); (try clear hb2); (try clear hk); (try clear hi)) | ((with_reducible refine gate_dst (N := 5) rfl ?_); refine box_event ?hg (N := 5) ?hd (cs := #[.string (⟨#[]⟩ : ByteArray), .string (⟨#[]⟩ : ByteArray), .string (⟨#[]⟩ : ByteArray), .string (⟨#[]⟩ : ByteArray), .string (⟨#[]⟩ : ByteArray), .bool false, .bool false, .bool false, .bool false]) (t := 88) ?hr ?_; (case hd => rfl); (case hg => rfl); (case hr => first | (go_simp; done) | (go_simp; rfl)); intro gb201 hg w14 hbox hb; have n0_ := Aside0.mk (below_step (by repeat (first | (with_reducible first | exact HB.out | apply below_alloc | apply pw_below_drewN | apply below_drew1) | exact HB.out)) hb); have n1_ := Aside0.mk (hbox); have n2_ := Aside0.mk ((by rw [hg]; exact (below_size (by repeat (first | (with_reducible first | exact HB.out | apply below_alloc | apply pw_below_drewN | apply below_drew1) | exact HB.out))) : w.heap.size ≤ gb201)); have n3_ := Aside0.mk ((by rw [hg]; exact (below_size (by repeat (first | (with_reducible first | exact HB.out | apply below_alloc | apply pw_below_drewN | apply below_drew1) | exact HB.out))) : w.heap.size ≤ gb201)); clear HB; have HB := n0_; have BK201 := n1_; have GW201 := n2_; have GE201 := n3_; clear n0_ n1_ n2_ n3_; clear hb hbox hg; have hcz15_0 : w14.cell? ⟨gb201, 0, none⟩ = some (.string (⟨#[]⟩ : ByteArray)) := (blk_cell BK201.out 0).trans rfl; have hcz15_1 : w14.cell? ⟨gb201, 1, none⟩ = some (.string (⟨#[]⟩ : ByteArray)) := (blk_cell BK201.out 1).trans rfl; have hcz15_2 : w14.cell? ⟨gb201, 2, none⟩ = some (.string (⟨#[]⟩ : ByteArray)) := (blk_cell BK201.out 2).trans rfl; have hcz15_3 : w14.cell? ⟨gb201, 3, none⟩ = some (.string (⟨#[]⟩ : ByteArray)) := (blk_cell BK201.out 3).trans rfl; have hcz15_4 : w14.cell? ⟨gb201, 4, none⟩ = some (.string (⟨#[]⟩ : ByteArray)) := (blk_cell BK201.out 4).trans rfl; have hcz15_5 : w14.cell? ⟨gb201, 5, none⟩ = some (.bool false) := (blk_cell BK201.out 5).trans rfl; have hcz15_6 : w14.cell? ⟨gb201, 6, none⟩ = some (.bool false) := (blk_cell BK201.out 6).trans rfl; have hcz15_7 : w14.cell? ⟨gb201, 7, none⟩ = some (.bool false) := (blk_cell BK201.out 7).trans rfl; have hcz15_8 : w14.cell? ⟨gb201, 8, none⟩ = some (.bool false) := (blk_cell BK201.out 8).trans rfl; have hfz15_0 := blk_frozen BK201.out 0; have hfz15_1 := blk_frozen BK201.out 1; have hfz15_2 := blk_frozen BK201.out 2; have hfz15_3 := blk_frozen BK201.out 3; have hfz15_4 := blk_frozen BK201.out 4; have hfz15_5 := blk_frozen BK201.out 5; have hfz15_6 := blk_frozen BK201.out 6; have hfz15_7 := blk_frozen BK201.out 7; have hfz15_8 := blk_frozen BK201.out 8))
        go_ret
        exact ⟨by first | rfl | (simp [errW_none, errW_some] <;> rfl) | (simp [*, errW_none, errW_some] <;> rfl), by repeat (first | (with_reducible first | exact HB.out | apply below_alloc | apply pw_below_drewN | apply below_drew1 | refine below_set ?_ GE201.out) | exact HB.out)⟩
    · rw [if_neg c8] at H
      have c8b0 : (t200 == 0) = false := beq_eq_false_iff_ne.mpr c8
      have c8b1 : (t200 != 0) = true := bne_iff_ne.mpr c8
      obtain rfl := Option.some.inj H
      go_enter Tryz.func38, Tryz.ntmps38
      go_wp2_with (first | ((with_reducible refine gate_callee (f := 67) rfl ?_); refine goesL_ (some 9) rfl rfl Tryz.func67 (by kernel_rfl) rfl #[.string a0] rfl (by (try simp only [List.map_toArray, List.map_cons, List.map_nil]); first | done | rfl | (simp only [List.length_drop, List.length_take]; rfl)) ?_; (with_reducible refine (locator_Parse.calls k a0 t191 t192 t193 t194 t195 t196 t197 t198 t199 t200 _ ?side1 A3.out).mono ?_); (case side1 => exact Go.Proofs.YtcplaafmelcndaaGreatDoor.At.LaidW.step HG.out (by repeat (first | (with_reducible first | exact HB.out | apply below_alloc | apply pw_below_drewN | apply below_drew1) | exact HB.out))); rintro e w16 ⟨rfl, hb⟩; refine ⟨_, rfl, ?_⟩; have n0_ := Aside0.mk (below_step (by repeat (first | (with_reducible first | exact HB.out | apply below_alloc | apply pw_below_drewN | apply below_drew1) | exact HB.out)) hb); clear HB; have HB := n0_; clear n0_; (try clear hb); (try clear hb2); (try clear hk); (try clear hi)) | ((with_reducible refine gate_dst (N := 5) rfl ?_); refine box_event ?hg (N := 5) ?hd (cs := #[.string (⟨#[]⟩ : ByteArray), .string (⟨#[]⟩ : ByteArray), .string (⟨#[]⟩ : ByteArray), .string (⟨#[]⟩ : ByteArray), .string (⟨#[]⟩ : ByteArray), .bool false, .bool false, .bool false, .bool false]) (t := 88) ?hr ?_; (case hd => rfl); (case hg => rfl); (case hr => first | (go_simp; done) | (go_simp; rfl)); intro gb201 hg w17 hbox hb; have n0_ := Aside0.mk (below_step (by repeat (first | (with_reducible first | exact HB.out | apply below_alloc | apply pw_below_drewN | apply below_drew1) | exact HB.out)) hb); have n1_ := Aside0.mk (hbox); have n2_ := Aside0.mk ((by rw [hg]; exact (below_size (by repeat (first | (with_reducible first | exact HB.out | apply below_alloc | apply pw_below_drewN | apply below_drew1) | exact HB.out))) : w.heap.size ≤ gb201)); have n3_ := Aside0.mk ((by rw [hg]; exact (below_size (by repeat (first | (with_reducible first | exact HB.out | apply below_alloc | apply pw_below_drewN | apply below_drew1) | exact HB.out))) : w.heap.size ≤ gb201)); clear HB; have HB := n0_; have BK201 := n1_; have GW201 := n2_; have GE201 := n3_; clear n0_ n1_ n2_ n3_; clear hb hbox hg; have hcz18_0 : w17.cell? ⟨gb201, 0, none⟩ = some (.string (⟨#[]⟩ : ByteArray)) := (blk_cell BK201.out 0).trans rfl; have hcz18_1 : w17.cell? ⟨gb201, 1, none⟩ = some (.string (⟨#[]⟩ : ByteArray)) := (blk_cell BK201.out 1).trans rfl; have hcz18_2 : w17.cell? ⟨gb201, 2, none⟩ = some (.string (⟨#[]⟩ : ByteArray)) := (blk_cell BK201.out 2).trans rfl; have hcz18_3 : w17.cell? ⟨gb201, 3, none⟩ = some (.string (⟨#[]⟩ : ByteArray)) := (blk_cell BK201.out 3).trans rfl; have hcz18_4 : w17.cell? ⟨gb201, 4, none⟩ = some (.string (⟨#[]⟩ : ByteArray)) := (blk_cell BK201.out 4).trans rfl; have hcz18_5 : w17.cell? ⟨gb201, 5, none⟩ = some (.bool false) := (blk_cell BK201.out 5).trans rfl; have hcz18_6 : w17.cell? ⟨gb201, 6, none⟩ = some (.bool false) := (blk_cell BK201.out 6).trans rfl; have hcz18_7 : w17.cell? ⟨gb201, 7, none⟩ = some (.bool false) := (blk_cell BK201.out 7).trans rfl; have hcz18_8 : w17.cell? ⟨gb201, 8, none⟩ = some (.bool false) := (blk_cell BK201.out 8).trans rfl; have hfz18_0 := blk_frozen BK201.out 0; have hfz18_1 := blk_frozen BK201.out 1; have hfz18_2 := blk_frozen BK201.out 2; have hfz18_3 := blk_frozen BK201.out 3; have hfz18_4 := blk_frozen BK201.out 4; have hfz18_5 := blk_frozen BK201.out 5; have hfz18_6 := blk_frozen BK201.out 6; have hfz18_7 := blk_frozen BK201.out 7; have hfz18_8 := blk_frozen BK201.out 8))
      go_ret
      exact ⟨by first | rfl | (simp [errW_none, errW_some] <;> rfl) | (simp [*, errW_none, errW_some] <;> rfl), by repeat (first | (with_reducible first | exact HB.out | apply below_alloc | apply pw_below_drewN | apply below_drew1 | refine below_set ?_ GE201.out) | exact HB.out)⟩
end Go.Proofs.YtcplaafmelcndaaGreatDoor.Pr
