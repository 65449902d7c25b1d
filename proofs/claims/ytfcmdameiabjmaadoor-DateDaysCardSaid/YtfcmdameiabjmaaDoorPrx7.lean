-- Written by given.py, a program of this session, over the kit's printer.
import Derived.Test.YtfcmdameiabjmaaDoorPrx0
import Derived.Test.YtfcmdameiabjmaaDoorPrx4
import Derived.Test.YtfcmdameiabjmaaDoorPrx6
namespace Go.Proofs.YtfcmdameiabjmaaDoor.Pr
open Go.RowKit Go.Proofs.YtfcmdameiabjmaaDoorW.PrintWords Go.Proofs.YtfcmdameiabjmaaDoorW.PrintLast Go.Proofs.YtfcmdameiabjmaaDoorW.PrintMore
attribute [local go_sem] max2_int min2_int max_two min_two max_three min_three max_four min_four   -- for this text's walks alone
set_option linter.unusedVariables false
set_option linter.unusedSimpArgs false

/-! ### broadsheetref11_Print: function 14 -/
mutual
def broadsheetref11_Print.j0 : Nat → Bool → Int → Int → Option (ByteArray × Int)
  | 0, _, _, _ => none
  | k + 1, x28, x180000, x180001 => if x28 = true then (some ((⟨#[]⟩ : ByteArray), 110)) else (broadsheetref11_Print.l0 k (wrap64 ((wrap64 (Int.tdiv (wrap64 (x180000 + 62167219200)) 86400)) - 719528)) 0 x180000 x180001)
def broadsheetref11_Print.l0 : Nat → Int → Int → Int → Int → Option (ByteArray × Int)
  | 0, _, _, _, _ => none
  | k + 1, x4, x5, x180000, x180001 => (broadsheetref11_since.f k (wrap64 (x5 + 400)) 1 1).bind fun t180 => (if t180 ≤ x4 then (broadsheetref11_Print.l0 k x4 (wrap64 (x5 + 400)) x180000 x180001) else (broadsheetref11_Print.l1 k x4 x5 x180000 x180001))
def broadsheetref11_Print.l1 : Nat → Int → Int → Int → Int → Option (ByteArray × Int)
  | 0, _, _, _, _ => none
  | k + 1, x4, x5, x180000, x180001 => (broadsheetref11_since.f k (wrap64 (x5 + 1)) 1 1).bind fun t181 => (if t181 ≤ x4 then (broadsheetref11_Print.l1 k x4 (wrap64 (x5 + 1)) x180000 x180001) else (broadsheetref11_Print.l2 k x4 x5 1 x180000 x180001))
def broadsheetref11_Print.j4 : Nat → Int → Int → Int → Int → Int → Option (ByteArray × Int)
  | 0, _, _, _, _, _ => none
  | k + 1, x4, x5, x6, x180000, x180001 => (broadsheetref11_since.f k x5 x6 1).bind fun t183 => ((broadsheetref11_pad.f k x5 4).bind fun t184 => (if t184.size + 1 ≤ 9223372036854775807 then ((broadsheetref11_pad.f k x6 2).bind fun t185 => (if (t184 ++ (⟨#[45]⟩ : ByteArray)).size + t185.size ≤ 9223372036854775807 then (if ((t184 ++ (⟨#[45]⟩ : ByteArray)) ++ t185).size + 1 ≤ 9223372036854775807 then ((broadsheetref11_pad.f k (wrap64 ((wrap64 (x4 - t183)) + 1)) 2).bind fun t186 => (if (((t184 ++ (⟨#[45]⟩ : ByteArray)) ++ t185) ++ (⟨#[45]⟩ : ByteArray)).size + t186.size ≤ 9223372036854775807 then (if ((((t184 ++ (⟨#[45]⟩ : ByteArray)) ++ t185) ++ (⟨#[45]⟩ : ByteArray)) ++ t186).size + 1 ≤ 9223372036854775807 then ((broadsheetref11_pad.f k (wrap64 (Int.tdiv (Int.tmod (wrap64 (x180000 + 62167219200)) 86400) 3600)) 2).bind fun t187 => (if (((((t184 ++ (⟨#[45]⟩ : ByteArray)) ++ t185) ++ (⟨#[45]⟩ : ByteArray)) ++ t186) ++ (⟨#[84]⟩ : ByteArray)).size + t187.size ≤ 9223372036854775807 then (if ((((((t184 ++ (⟨#[45]⟩ : ByteArray)) ++ t185) ++ (⟨#[45]⟩ : ByteArray)) ++ t186) ++ (⟨#[84]⟩ : ByteArray)) ++ t187).size + 1 ≤ 9223372036854775807 then ((broadsheetref11_pad.f k (Int.tmod (wrap64 (Int.tdiv (Int.tmod (wrap64 (x180000 + 62167219200)) 86400) 60)) 60) 2).bind fun t188 => (if (((((((t184 ++ (⟨#[45]⟩ : ByteArray)) ++ t185) ++ (⟨#[45]⟩ : ByteArray)) ++ t186) ++ (⟨#[84]⟩ : ByteArray)) ++ t187) ++ (⟨#[58]⟩ : ByteArray)).size + t188.size ≤ 9223372036854775807 then (if ((((((((t184 ++ (⟨#[45]⟩ : ByteArray)) ++ t185) ++ (⟨#[45]⟩ : ByteArray)) ++ t186) ++ (⟨#[84]⟩ : ByteArray)) ++ t187) ++ (⟨#[58]⟩ : ByteArray)) ++ t188).size + 1 ≤ 9223372036854775807 then ((broadsheetref11_pad.f k (Int.tmod (Int.tmod (wrap64 (x180000 + 62167219200)) 86400) 60) 2).bind fun t189 => (if (((((((((t184 ++ (⟨#[45]⟩ : ByteArray)) ++ t185) ++ (⟨#[45]⟩ : ByteArray)) ++ t186) ++ (⟨#[84]⟩ : ByteArray)) ++ t187) ++ (⟨#[58]⟩ : ByteArray)) ++ t188) ++ (⟨#[58]⟩ : ByteArray)).size + t189.size ≤ 9223372036854775807 then (if x180001 > 0 then ((broadsheetref11_pad.f k x180001 9).bind fun t190 => (broadsheetref11_Print.l3 k ((((((((((t184 ++ (⟨#[45]⟩ : ByteArray)) ++ t185) ++ (⟨#[45]⟩ : ByteArray)) ++ t186) ++ (⟨#[84]⟩ : ByteArray)) ++ t187) ++ (⟨#[58]⟩ : ByteArray)) ++ t188) ++ (⟨#[58]⟩ : ByteArray)) ++ t189) t190)) else (if ((((((((((t184 ++ (⟨#[45]⟩ : ByteArray)) ++ t185) ++ (⟨#[45]⟩ : ByteArray)) ++ t186) ++ (⟨#[84]⟩ : ByteArray)) ++ t187) ++ (⟨#[58]⟩ : ByteArray)) ++ t188) ++ (⟨#[58]⟩ : ByteArray)) ++ t189).size + 1 ≤ 9223372036854775807 then (some (((((((((((t184 ++ (⟨#[45]⟩ : ByteArray)) ++ t185) ++ (⟨#[45]⟩ : ByteArray)) ++ t186) ++ (⟨#[84]⟩ : ByteArray)) ++ t187) ++ (⟨#[58]⟩ : ByteArray)) ++ t188) ++ (⟨#[58]⟩ : ByteArray)) ++ t189) ++ (⟨#[90]⟩ : ByteArray), 0)) else (none))) else (none))) else (none)) else (none))) else (none)) else (none))) else (none)) else (none))) else (none)) else (none))) else (none)))
def broadsheetref11_Print.l3 : Nat → ByteArray → ByteArray → Option (ByteArray × Int)
  | 0, _, _ => none
  | k + 1, x9, x10 => if 0 ≤ (wrap64 ((x10.size : Int) - 1)) then (if (wrap64 ((x10.size : Int) - 1)) < (x10.size : Int) then (if (bt x10 (wrap64 ((x10.size : Int) - 1))) = 48 then (if (wrap64 ((x10.size : Int) - 1)) ≤ (x10.size : Int) then (broadsheetref11_Print.l3 k x9 (x10.extract 0 ((wrap64 ((x10.size : Int) - 1)) : Int).toNat)) else (none)) else (if x9.size + 1 ≤ 9223372036854775807 then (if (x9 ++ (⟨#[46]⟩ : ByteArray)).size + x10.size ≤ 9223372036854775807 then (if ((x9 ++ (⟨#[46]⟩ : ByteArray)) ++ x10).size + 1 ≤ 9223372036854775807 then (some (((x9 ++ (⟨#[46]⟩ : ByteArray)) ++ x10) ++ (⟨#[90]⟩ : ByteArray), 0)) else (none)) else (none)) else (none))) else (none)) else (none)
def broadsheetref11_Print.l2 : Nat → Int → Int → Int → Int → Int → Option (ByteArray × Int)
  | 0, _, _, _, _, _ => none
  | k + 1, x4, x5, x6, x180000, x180001 => if x6 < 12 then ((broadsheetref11_since.f k x5 (wrap64 (x6 + 1)) 1).bind fun t182 => (if t182 ≤ x4 then (broadsheetref11_Print.l2 k x4 x5 (wrap64 (x6 + 1)) x180000 x180001) else (broadsheetref11_Print.j4 k x4 x5 x6 x180000 x180001))) else (broadsheetref11_Print.j4 k x4 x5 x6 x180000 x180001)
end
def broadsheetref11_Print.f (k : Nat) (a0_0 : Int) (a0_1 : Int) : Option (ByteArray × Int) := if a0_0 < (-62167219200) then (broadsheetref11_Print.j0 k true a0_0 a0_1) else (if a0_0 > 253402300799 then (broadsheetref11_Print.j0 k true a0_0 a0_1) else (if a0_1 < 0 then (broadsheetref11_Print.j0 k true a0_0 a0_1) else (broadsheetref11_Print.j0 k (decide (a0_1 > 999999999)) a0_0 a0_1)))
theorem broadsheetref11_Print.mono_l : ∀ k, (∀ y0 y1 y2, LeO (broadsheetref11_Print.j0 k y0 y1 y2) (broadsheetref11_Print.j0 (k + 1) y0 y1 y2)) ∧ (∀ y0 y1 y2 y3, LeO (broadsheetref11_Print.l0 k y0 y1 y2 y3) (broadsheetref11_Print.l0 (k + 1) y0 y1 y2 y3)) ∧ (∀ y0 y1 y2 y3, LeO (broadsheetref11_Print.l1 k y0 y1 y2 y3) (broadsheetref11_Print.l1 (k + 1) y0 y1 y2 y3)) ∧ (∀ y0 y1 y2 y3 y4, LeO (broadsheetref11_Print.j4 k y0 y1 y2 y3 y4) (broadsheetref11_Print.j4 (k + 1) y0 y1 y2 y3 y4)) ∧ (∀ y0 y1, LeO (broadsheetref11_Print.l3 k y0 y1) (broadsheetref11_Print.l3 (k + 1) y0 y1)) ∧ (∀ y0 y1 y2 y3 y4, LeO (broadsheetref11_Print.l2 k y0 y1 y2 y3 y4) (broadsheetref11_Print.l2 (k + 1) y0 y1 y2 y3 y4))
  | 0 => ⟨fun _ _ _ r h => by simp [broadsheetref11_Print.j0] at h, fun _ _ _ _ r h => by simp [broadsheetref11_Print.l0] at h, fun _ _ _ _ r h => by simp [broadsheetref11_Print.l1] at h, fun _ _ _ _ _ r h => by simp [broadsheetref11_Print.j4] at h, fun _ _ r h => by simp [broadsheetref11_Print.l3] at h, fun _ _ _ _ _ r h => by simp [broadsheetref11_Print.l2] at h⟩
  | k + 1 => by
    obtain ⟨ih0, ih1, ih2, ih3, ih4, ih5⟩ := broadsheetref11_Print.mono_l k
    refine ⟨?_, ?_, ?_, ?_, ?_, ?_⟩
    · intro y0 y1 y2
      unfold broadsheetref11_Print.j0
      repeat' first
      | (with_reducible exact ih0 _ _ _)
      | (with_reducible exact ih1 _ _ _ _)
      | (with_reducible exact ih2 _ _ _ _)
      | (with_reducible exact ih3 _ _ _ _ _)
      | (with_reducible exact ih4 _ _)
      | (with_reducible exact ih5 _ _ _ _ _)
      | (with_reducible exact broadsheetref11_pad.mono _ _ _)
      | (with_reducible exact broadsheetref11_since.mono _ _ _ _)
      | (with_reducible exact LeO.refl _)
      | (with_reducible exact LeO.none _)
      | (with_reducible refine LeO.ite ?_ ?_)
      | (with_reducible refine LeO.bind ?_ (fun _ => ?_))
      | exact ih0 _ _ _
      | exact ih1 _ _ _ _
      | exact ih2 _ _ _ _
      | exact ih3 _ _ _ _ _
      | exact ih4 _ _
      | exact ih5 _ _ _ _ _
      | exact broadsheetref11_pad.mono _ _ _
      | exact broadsheetref11_since.mono _ _ _ _
      | exact LeO.none _
      | refine LeO.ite ?_ ?_
      | refine LeO.bind ?_ (fun _ => ?_)
    · intro y0 y1 y2 y3
      unfold broadsheetref11_Print.l0
      repeat' first
      | (with_reducible exact ih0 _ _ _)
      | (with_reducible exact ih1 _ _ _ _)
      | (with_reducible exact ih2 _ _ _ _)
      | (with_reducible exact ih3 _ _ _ _ _)
      | (with_reducible exact ih4 _ _)
      | (with_reducible exact ih5 _ _ _ _ _)
      | (with_reducible exact broadsheetref11_pad.mono _ _ _)
      | (with_reducible exact broadsheetref11_since.mono _ _ _ _)
      | (with_reducible exact LeO.refl _)
      | (with_reducible exact LeO.none _)
      | (with_reducible refine LeO.ite ?_ ?_)
      | (with_reducible refine LeO.bind ?_ (fun _ => ?_))
      | exact ih0 _ _ _
      | exact ih1 _ _ _ _
      | exact ih2 _ _ _ _
      | exact ih3 _ _ _ _ _
      | exact ih4 _ _
      | exact ih5 _ _ _ _ _
      | exact broadsheetref11_pad.mono _ _ _
      | exact broadsheetref11_since.mono _ _ _ _
      | exact LeO.none _
      | refine LeO.ite ?_ ?_
      | refine LeO.bind ?_ (fun _ => ?_)
    · intro y0 y1 y2 y3
      unfold broadsheetref11_Print.l1
      repeat' first
      | (with_reducible exact ih0 _ _ _)
      | (with_reducible exact ih1 _ _ _ _)
      | (with_reducible exact ih2 _ _ _ _)
      | (with_reducible exact ih3 _ _ _ _ _)
      | (with_reducible exact ih4 _ _)
      | (with_reducible exact ih5 _ _ _ _ _)
      | (with_reducible exact broadsheetref11_pad.mono _ _ _)
      | (with_reducible exact broadsheetref11_since.mono _ _ _ _)
      | (with_reducible exact LeO.refl _)
      | (with_reducible exact LeO.none _)
      | (with_reducible refine LeO.ite ?_ ?_)
      | (with_reducible refine LeO.bind ?_ (fun _ => ?_))
      | exact ih0 _ _ _
      | exact ih1 _ _ _ _
      | exact ih2 _ _ _ _
      | exact ih3 _ _ _ _ _
      | exact ih4 _ _
      | exact ih5 _ _ _ _ _
      | exact broadsheetref11_pad.mono _ _ _
      | exact broadsheetref11_since.mono _ _ _ _
      | exact LeO.none _
      | refine LeO.ite ?_ ?_
      | refine LeO.bind ?_ (fun _ => ?_)
    · intro y0 y1 y2 y3 y4
      unfold broadsheetref11_Print.j4
      repeat' first
      | (with_reducible exact ih0 _ _ _)
      | (with_reducible exact ih1 _ _ _ _)
      | (with_reducible exact ih2 _ _ _ _)
      | (with_reducible exact ih3 _ _ _ _ _)
      | (with_reducible exact ih4 _ _)
      | (with_reducible exact ih5 _ _ _ _ _)
      | (with_reducible exact broadsheetref11_pad.mono _ _ _)
      | (with_reducible exact broadsheetref11_since.mono _ _ _ _)
      | (with_reducible exact LeO.refl _)
      | (with_reducible exact LeO.none _)
      | (with_reducible refine LeO.ite ?_ ?_)
      | (with_reducible refine LeO.bind ?_ (fun _ => ?_))
      | exact ih0 _ _ _
      | exact ih1 _ _ _ _
      | exact ih2 _ _ _ _
      | exact ih3 _ _ _ _ _
      | exact ih4 _ _
      | exact ih5 _ _ _ _ _
      | exact broadsheetref11_pad.mono _ _ _
      | exact broadsheetref11_since.mono _ _ _ _
      | exact LeO.none _
      | refine LeO.ite ?_ ?_
      | refine LeO.bind ?_ (fun _ => ?_)
    · intro y0 y1
      unfold broadsheetref11_Print.l3
      repeat' first
      | (with_reducible exact ih0 _ _ _)
      | (with_reducible exact ih1 _ _ _ _)
      | (with_reducible exact ih2 _ _ _ _)
      | (with_reducible exact ih3 _ _ _ _ _)
      | (with_reducible exact ih4 _ _)
      | (with_reducible exact ih5 _ _ _ _ _)
      | (with_reducible exact broadsheetref11_pad.mono _ _ _)
      | (with_reducible exact broadsheetref11_since.mono _ _ _ _)
      | (with_reducible exact LeO.refl _)
      | (with_reducible exact LeO.none _)
      | (with_reducible refine LeO.ite ?_ ?_)
      | (with_reducible refine LeO.bind ?_ (fun _ => ?_))
      | exact ih0 _ _ _
      | exact ih1 _ _ _ _
      | exact ih2 _ _ _ _
      | exact ih3 _ _ _ _ _
      | exact ih4 _ _
      | exact ih5 _ _ _ _ _
      | exact broadsheetref11_pad.mono _ _ _
      | exact broadsheetref11_since.mono _ _ _ _
      | exact LeO.none _
      | refine LeO.ite ?_ ?_
      | refine LeO.bind ?_ (fun _ => ?_)
    · intro y0 y1 y2 y3 y4
      unfold broadsheetref11_Print.l2
      repeat' first
      | (with_reducible exact ih0 _ _ _)
      | (with_reducible exact ih1 _ _ _ _)
      | (with_reducible exact ih2 _ _ _ _)
      | (with_reducible exact ih3 _ _ _ _ _)
      | (with_reducible exact ih4 _ _)
      | (with_reducible exact ih5 _ _ _ _ _)
      | (with_reducible exact broadsheetref11_pad.mono _ _ _)
      | (with_reducible exact broadsheetref11_since.mono _ _ _ _)
      | (with_reducible exact LeO.refl _)
      | (with_reducible exact LeO.none _)
      | (with_reducible refine LeO.ite ?_ ?_)
      | (with_reducible refine LeO.bind ?_ (fun _ => ?_))
      | exact ih0 _ _ _
      | exact ih1 _ _ _ _
      | exact ih2 _ _ _ _
      | exact ih3 _ _ _ _ _
      | exact ih4 _ _
      | exact ih5 _ _ _ _ _
      | exact broadsheetref11_pad.mono _ _ _
      | exact broadsheetref11_since.mono _ _ _ _
      | exact LeO.none _
      | refine LeO.ite ?_ ?_
      | refine LeO.bind ?_ (fun _ => ?_)
theorem broadsheetref11_Print.mono : ∀ a0 a1 k, LeO (broadsheetref11_Print.f k a0 a1) (broadsheetref11_Print.f (k + 1) a0 a1) := by
  intro a0 a1 k
  obtain ⟨ih0, ih1, ih2, ih3, ih4, ih5⟩ := broadsheetref11_Print.mono_l k
  unfold broadsheetref11_Print.f
  repeat' first
      | (with_reducible exact ih0 _ _ _)
      | (with_reducible exact ih1 _ _ _ _)
      | (with_reducible exact ih2 _ _ _ _)
      | (with_reducible exact ih3 _ _ _ _ _)
      | (with_reducible exact ih4 _ _)
      | (with_reducible exact ih5 _ _ _ _ _)
      | (with_reducible exact broadsheetref11_pad.mono _ _ _)
      | (with_reducible exact broadsheetref11_since.mono _ _ _ _)
      | (with_reducible exact LeO.refl _)
      | (with_reducible exact LeO.none _)
      | (with_reducible refine LeO.ite ?_ ?_)
      | (with_reducible refine LeO.bind ?_ (fun _ => ?_))
      | exact ih0 _ _ _
      | exact ih1 _ _ _ _
      | exact ih2 _ _ _ _
      | exact ih3 _ _ _ _ _
      | exact ih4 _ _
      | exact ih5 _ _ _ _ _
      | exact broadsheetref11_pad.mono _ _ _
      | exact broadsheetref11_since.mono _ _ _ _
      | exact LeO.none _
      | refine LeO.ite ?_ ?_
      | refine LeO.bind ?_ (fun _ => ?_)
set_option maxHeartbeats 8000000 in
set_option maxRecDepth 100000 in
theorem broadsheetref11_Print.calls (k : Nat) (a0_0 : Int) (a0_1 : Int) (r1 : ByteArray) (r2 : Int) (w : World) (h : broadsheetref11_Print.f k a0_0 a0_1 = some (r1, r2)) :
    Calls Tryd.prog 14 #[.agg #[.int .i64 a0_0, .int .i64 a0_1]] w fun e w' => e = .returned (.tuple #[.string r1, .int .i64 r2]) ∧ Below w.heap.size w w' := by
  have hu24 := Tryd.underlying24
  have HB := Aside0.mk (Below.refl w.heap.size w)
  have H : (if a0_0 < (-62167219200) then (broadsheetref11_Print.j0 k true a0_0 a0_1) else (if a0_0 > 253402300799 then (broadsheetref11_Print.j0 k true a0_0 a0_1) else (if a0_1 < 0 then (broadsheetref11_Print.j0 k true a0_0 a0_1) else (broadsheetref11_Print.j0 k (decide (a0_1 > 999999999)) a0_0 a0_1)))) = some (r1, r2) := h
  clear h
  have HC2 := Aside0.mk H
  clear H
  go_enter Tryd.func14, Tryd.ntmps14
  go_upto_region 1 with (first | ((with_reducible refine gate_dst (N := 1) rfl ?_); refine box_event ?hg (N := 1) ?hd (cs := #[.int .i64 a0_0, .int .i64 a0_1]) (t := 24) ?hr ?_; (case hd => rfl); (case hg => rfl); (case hr => first | (go_simp; done) | (go_simp; rfl)); intro gb179 hg w3 hbox hb; have n0_ := Aside0.mk (below_step (by repeat (first | (with_reducible first | exact HB.out | apply below_alloc | apply pw_below_drewN | apply below_drew1) | exact HB.out)) hb); have n1_ := Aside0.mk (hbox); have n2_ := Aside0.mk ((by rw [hg]; exact (below_size (by repeat (first | (with_reducible first | exact HB.out | apply below_alloc | apply pw_below_drewN | apply below_drew1) | exact HB.out))) : w.heap.size ≤ gb179)); have n3_ := Aside0.mk ((by rw [hg]; exact (below_size (by repeat (first | (with_reducible first | exact HB.out | apply below_alloc | apply pw_below_drewN | apply below_drew1) | exact HB.out))) : w.heap.size ≤ gb179)); clear HB; have HB := n0_; have BK179 := n1_; have GW179 := n2_; have GE179 := n3_; clear n0_ n1_ n2_ n3_; clear hb hbox hg))
  (try simp only [Act.put, List.setIfInBounds_toArray, List.set_cons_zero, List.set_cons_succ])
  go_cut [28] (fun v28 wc => ∃ (kq : Nat) (x28_1 : Bool), v28 = .bool x28_1 ∧ Aside0 (broadsheetref11_Print.j0 kq x28_1 a0_0 a0_1 = some (r1, r2)) ∧ Aside0 (kq ≤ k) ∧ Aside0 (wc.heap[gb179]? = some (.cells #[.int .i64 a0_0, .int .i64 a0_1] 24 (0, 0))) ∧ Aside0 (Below w.heap.size w wc))
  case first =>
    have H := HC2.out
    clear HC2
    by_cases c4 : a0_0 < (-62167219200)
    · rw [if_pos c4] at H
      have c4b0 : decide (a0_0 < (-62167219200)) = true := decide_eq_true c4
      clear c4
      (first | rw [c4b0] | (simp only [i64_w, i32_w]; rw [c4b0]) | skip)
      have H' := Aside0.mk H
      clear H
      have hcz5_0 : w3.cell? ⟨gb179, 0, none⟩ = some (.int .i64 a0_0) := (blk_cell BK179.out 0).trans rfl
      have hcz5_1 : w3.cell? ⟨gb179, 1, none⟩ = some (.int .i64 a0_1) := (blk_cell BK179.out 1).trans rfl
      have hfz5_0 := blk_frozen BK179.out 0
      have hfz5_1 := blk_frozen BK179.out 1
      go_wp2
      go_meet
      case rel => exact ⟨_, (true), (by first | rfl | (simp; done) | (simp [*]; done)), H', ⟨by first | omega | exact Nat.le_refl _⟩, ⟨by (with_reducible repeat (first | refine blk_drewN ?_ _ | refine blk_drew ?_ | refine blk_alloc ?_ _)); exact BK179.out⟩, ⟨by repeat (first | (with_reducible first | exact HB.out | apply below_alloc | apply pw_below_drewN | apply below_drew1 | refine below_set ?_ GE179.out) | exact HB.out)⟩⟩
    · rw [if_neg c4] at H
      have c4b0 : decide (a0_0 < (-62167219200)) = false := decide_eq_false c4
      clear c4
      (first | rw [c4b0] | (simp only [i64_w, i32_w]; rw [c4b0]) | skip)
      by_cases c6 : a0_0 > 253402300799
      · rw [if_pos c6] at H
        have c6b0 : decide (253402300799 < a0_0) = true := decide_eq_true c6
        clear c6
        have H' := Aside0.mk H
        clear H
        have hcz7_0 : w3.cell? ⟨gb179, 0, none⟩ = some (.int .i64 a0_0) := (blk_cell BK179.out 0).trans rfl
        have hcz7_1 : w3.cell? ⟨gb179, 1, none⟩ = some (.int .i64 a0_1) := (blk_cell BK179.out 1).trans rfl
        have hfz7_0 := blk_frozen BK179.out 0
        have hfz7_1 := blk_frozen BK179.out 1
        go_wp2
        go_meet
        case rel => exact ⟨_, (true), (by first | rfl | (simp; done) | (simp [*]; done)), H', ⟨by first | omega | exact Nat.le_refl _⟩, ⟨by (with_reducible repeat (first | refine blk_drewN ?_ _ | refine blk_drew ?_ | refine blk_alloc ?_ _)); exact BK179.out⟩, ⟨by repeat (first | (with_reducible first | exact HB.out | apply below_alloc | apply pw_below_drewN | apply below_drew1 | refine below_set ?_ GE179.out) | exact HB.out)⟩⟩
      · rw [if_neg c6] at H
        have c6b0 : decide (253402300799 < a0_0) = false := decide_eq_false c6
        clear c6
        by_cases c8 : a0_1 < 0
        · rw [if_pos c8] at H
          have c8b0 : decide (a0_1 < 0) = true := decide_eq_true c8
          clear c8
          have H' := Aside0.mk H
          clear H
          have hcz9_0 : w3.cell? ⟨gb179, 0, none⟩ = some (.int .i64 a0_0) := (blk_cell BK179.out 0).trans rfl
          have hcz9_1 : w3.cell? ⟨gb179, 1, none⟩ = some (.int .i64 a0_1) := (blk_cell BK179.out 1).trans rfl
          have hfz9_0 := blk_frozen BK179.out 0
          have hfz9_1 := blk_frozen BK179.out 1
          go_wp2
          go_meet
          case rel => exact ⟨_, (true), (by first | rfl | (simp; done) | (simp [*]; done)), H', ⟨by first | omega | exact Nat.le_refl _⟩, ⟨by (with_reducible repeat (first | refine blk_drewN ?_ _ | refine blk_drew ?_ | refine blk_alloc ?_ _)); exact BK179.out⟩, ⟨by repeat (first | (with_reducible first | exact HB.out | apply below_alloc | apply pw_below_drewN | apply below_drew1 | refine below_set ?_ GE179.out) | exact HB.out)⟩⟩
        · rw [if_neg c8] at H
          have c8b0 : decide (a0_1 < 0) = false := decide_eq_false c8
          clear c8
          have H' := Aside0.mk H
          clear H
          have hcz10_0 : w3.cell? ⟨gb179, 0, none⟩ = some (.int .i64 a0_0) := (blk_cell BK179.out 0).trans rfl
          have hcz10_1 : w3.cell? ⟨gb179, 1, none⟩ = some (.int .i64 a0_1) := (blk_cell BK179.out 1).trans rfl
          have hfz10_0 := blk_frozen BK179.out 0
          have hfz10_1 := blk_frozen BK179.out 1
          go_wp2
          go_meet
          case rel => exact ⟨_, (decide (a0_1 > 999999999)), (by first | rfl | (simp; done) | (simp [*]; done)), H', ⟨by first | omega | exact Nat.le_refl _⟩, ⟨by (with_reducible repeat (first | refine blk_drewN ?_ _ | refine blk_drew ?_ | refine blk_alloc ?_ _)); exact BK179.out⟩, ⟨by repeat (first | (with_reducible first | exact HB.out | apply below_alloc | apply pw_below_drewN | apply below_drew1 | refine below_set ?_ GE179.out) | exact HB.out)⟩⟩
  case rest =>
    clear HC2
    try clear c1
    try clear p2
    try clear c4
    try clear c4b0
    try clear c6
    try clear c6b0
    try clear c8
    try clear c8b0
    try clear hcz10_0
    try clear hcz10_1
    try clear hcz5_0
    try clear hcz5_1
    try clear hcz7_0
    try clear hcz7_1
    try clear hcz9_0
    try clear hcz9_1
    try clear hfz10_0
    try clear hfz10_1
    try clear hfz5_0
    try clear hfz5_1
    try clear hfz7_0
    try clear hfz7_1
    try clear hfz9_0
    try clear hfz9_1
    obtain ⟨kq, x28_1, rfl, HA, HJ1, BK179, HB⟩ := hcut
    cases kq with
    | zero => exact absurd HA.out (by simp [broadsheetref11_Print.j0])
    | succ kj1 =>
      have H := HA.out
      clear HA
      simp only [broadsheetref11_Print.j0] at H
      by_cases c11 : x28_1 = true
      · subst c11
        have H1 : (some ((⟨#[]⟩ : ByteArray), 110)) = some (r1, r2) := by rw [if_pos rfl] at H; exact H
        clear H
        have H := H1
        clear H1
        simp only [Option.some.injEq, Prod.mk.injEq] at H
        obtain ⟨rfl, rfl⟩ := H
        go_wp2
        go_ret2
        exact ⟨by first | rfl | (simp [errW_none, errW_some] <;> rfl) | (simp [*, errW_none, errW_some] <;> rfl), by repeat (first | (with_reducible first | exact HB.out | apply below_alloc | apply pw_below_drewN | apply below_drew1 | refine below_set ?_ GE179.out) | exact HB.out)⟩
      · replace c11 := Bool.eq_false_iff.mpr c11
        subst c11
        have H1 : (broadsheetref11_Print.l0 kj1 (wrap64 ((wrap64 (Int.tdiv (wrap64 (a0_0 + 62167219200)) 86400)) - 719528)) 0 a0_0 a0_1) = some (r1, r2) := by rw [if_neg (show ¬ (false = true) by decide)] at H; exact H
        clear H
        have H := H1
        clear H1
        have H' := Aside0.mk H
        clear H
        have hcz12_0 : wc.cell? ⟨gb179, 0, none⟩ = some (.int .i64 a0_0) := (blk_cell BK179.out 0).trans rfl
        have hcz12_1 : wc.cell? ⟨gb179, 1, none⟩ = some (.int .i64 a0_1) := (blk_cell BK179.out 1).trans rfl
        have hfz12_0 := blk_frozen BK179.out 0
        have hfz12_1 := blk_frozen BK179.out 1
        go_wp2
        go_loopg [5] kj1 (fun kq v5 w' => ∃ (x5_2 : Int), v5 = .int .i64 x5_2 ∧ Aside0 (broadsheetref11_Print.l0 kq (wrap64 ((wrap64 (Int.tdiv (wrap64 (a0_0 + 62167219200)) 86400)) - 719528)) x5_2 a0_0 a0_1 = some (r1, r2)) ∧ Aside0 (kq ≤ kj1) ∧ Aside0 (w'.heap[gb179]? = some (.cells #[.int .i64 a0_0, .int .i64 a0_1] 24 (0, 0))) ∧ Aside0 (Below w.heap.size w w'))
        case atStart => exact ⟨(0), (by first | rfl | (simp; done) | (simp [*]; done)), H', ⟨Nat.le_refl _⟩, ⟨by (with_reducible repeat (first | refine blk_drewN ?_ _ | refine blk_drew ?_ | refine blk_alloc ?_ _)); exact BK179.out⟩, ⟨by repeat (first | (with_reducible first | exact HB.out | apply below_alloc | apply pw_below_drewN | apply below_drew1 | refine below_set ?_ GE179.out) | exact HB.out)⟩⟩
        case round =>
          clear H'
          try clear c1
          try clear p2
          try clear c4
          try clear c4b0
          try clear c6
          try clear c6b0
          try clear p6
          try clear c8
          try clear c8b0
          try clear c11
          try clear hcz10_0
          try clear hcz10_1
          try clear hcz12_0
          try clear hcz12_1
          try clear hcz5_0
          try clear hcz5_1
          try clear hcz7_0
          try clear hcz7_1
          try clear hcz9_0
          try clear hcz9_1
          try clear hfz10_0
          try clear hfz10_1
          try clear hfz12_0
          try clear hfz12_1
          try clear hfz5_0
          try clear hfz5_1
          try clear hfz7_0
          try clear hfz7_1
          try clear hfz9_0
          try clear hfz9_1
          try clear p2
          obtain ⟨x5_2, rfl, HA, HK2, BK179, HB⟩ := hrel
          cases gk with
          | zero => exact absurd HA.out (by simp [broadsheetref11_Print.l0])
          | succ k2 =>
            have H := HA.out
            clear HA
            simp only [broadsheetref11_Print.l0] at H
            replace H := Option.bind_eq_some_iff.mp H
            obtain ⟨t180, A130, H⟩ := H
            replace H : (if t180 ≤ (wrap64 ((wrap64 (Int.tdiv (wrap64 (a0_0 + 62167219200)) 86400)) - 719528)) then (broadsheetref11_Print.l0 k2 (wrap64 ((wrap64 (Int.tdiv (wrap64 (a0_0 + 62167219200)) 86400)) - 719528)) (wrap64 (x5_2 + 400)) a0_0 a0_1) else (broadsheetref11_Print.l1 k2 (wrap64 ((wrap64 (Int.tdiv (wrap64 (a0_0 + 62167219200)) 86400)) - 719528)) x5_2 a0_0 a0_1)) = some (r1, r2) := H
            have A13 := Aside0.mk A130
            clear A130
            by_cases c14 : t180 ≤ (wrap64 ((wrap64 (Int.tdiv (wrap64 (a0_0 + 62167219200)) 86400)) - 719528))
            · rw [if_pos c14] at H
              have c14b0 : decide (t180 ≤ (wrap64 ((wrap64 (Int.tdiv (wrap64 (a0_0 + 62167219200)) 86400)) - 719528))) = true := decide_eq_true c14
              clear c14
              have H' := Aside0.mk H
              clear H
              go_wp2_with (first | ((with_reducible refine gate_callee (f := 28) rfl ?_); refine goesL_ (some 36) rfl rfl Tryd.func28 (by kernel_rfl) rfl #[.int .i64 (wrap64 (x5_2 + 400)), .int .i64 1, .int .i64 1] rfl (by (try simp only [List.map_toArray, List.map_cons, List.map_nil]); first | done | rfl | (simp only [List.length_drop, List.length_take]; rfl) | (simp only [Int.tmod_tmod_of_dvd _ (show (60 : Int) ∣ 86400 by decide)]; rfl)) ?_; (with_reducible refine (broadsheetref11_since.calls k2 (wrap64 (x5_2 + 400)) 1 1 t180 _ A13.out).mono ?_); rintro e w' ⟨rfl, ⟨nd, rfl⟩⟩; refine ⟨_, rfl, ?_⟩))
              go_roundg k2
              case measure => have := HJ1.out; have := HK2.out; omega
              case rel => exact ⟨(wrap64 (x5_2 + 400)), (by first | rfl | (simp; done) | (simp [*]; done)), H', ⟨by have := HJ1.out; have := HK2.out; omega⟩, ⟨by (with_reducible repeat (first | refine blk_drewN ?_ _ | refine blk_drew ?_ | refine blk_alloc ?_ _)); exact BK179.out⟩, ⟨by repeat (first | (with_reducible first | exact HB.out | apply below_alloc | apply pw_below_drewN | apply below_drew1 | refine below_set ?_ GE179.out) | exact HB.out)⟩⟩
            · rw [if_neg c14] at H
              have c14b0 : decide (t180 ≤ (wrap64 ((wrap64 (Int.tdiv (wrap64 (a0_0 + 62167219200)) 86400)) - 719528))) = false := decide_eq_false c14
              clear c14
              have H' := Aside0.mk H
              clear H
              go_wp2_with (first | ((with_reducible refine gate_callee (f := 28) rfl ?_); refine goesL_ (some 36) rfl rfl Tryd.func28 (by kernel_rfl) rfl #[.int .i64 (wrap64 (x5_2 + 400)), .int .i64 1, .int .i64 1] rfl (by (try simp only [List.map_toArray, List.map_cons, List.map_nil]); first | done | rfl | (simp only [List.length_drop, List.length_take]; rfl) | (simp only [Int.tmod_tmod_of_dvd _ (show (60 : Int) ∣ 86400 by decide)]; rfl)) ?_; (with_reducible refine (broadsheetref11_since.calls k2 (wrap64 (x5_2 + 400)) 1 1 t180 _ A13.out).mono ?_); rintro e w' ⟨rfl, ⟨nd, rfl⟩⟩; refine ⟨_, rfl, ?_⟩))
              go_loopg [5] k2 (fun kq v5 w' => ∃ (x5_3 : Int), v5 = .int .i64 x5_3 ∧ Aside0 (broadsheetref11_Print.l1 kq (wrap64 ((wrap64 (Int.tdiv (wrap64 (a0_0 + 62167219200)) 86400)) - 719528)) x5_3 a0_0 a0_1 = some (r1, r2)) ∧ Aside0 (kq ≤ k2) ∧ Aside0 (w'.heap[gb179]? = some (.cells #[.int .i64 a0_0, .int .i64 a0_1] 24 (0, 0))) ∧ Aside0 (Below w.heap.size w w'))
              case atStart => exact ⟨(x5_2), (by first | rfl | (simp; done) | (simp [*]; done)), H', ⟨Nat.le_refl _⟩, ⟨by (with_reducible repeat (first | refine blk_drewN ?_ _ | refine blk_drew ?_ | refine blk_alloc ?_ _)); exact BK179.out⟩, ⟨by repeat (first | (with_reducible first | exact HB.out | apply below_alloc | apply pw_below_drewN | apply below_drew1 | refine below_set ?_ GE179.out) | exact HB.out)⟩⟩
              case round =>
                clear H'
                try clear c1
                try clear c2
                try clear p2
                try clear c4
                try clear c4b0
                try clear c6
                try clear c6b0
                try clear p6
                try clear c8
                try clear c8b0
                try clear c11
                try clear c14
                try clear c14b0
                try clear hcz10_0
                try clear hcz10_1
                try clear hcz12_0
                try clear hcz12_1
                try clear hcz5_0
                try clear hcz5_1
                try clear hcz7_0
                try clear hcz7_1
                try clear hcz9_0
                try clear hcz9_1
                try clear hfz10_0
                try clear hfz10_1
                try clear hfz12_0
                try clear hfz12_1
                try clear hfz5_0
                try clear hfz5_1
                try clear hfz7_0
                try clear hfz7_1
                try clear hfz9_0
                try clear hfz9_1
                try clear p2
                try clear p6
                obtain ⟨x5_3, rfl, HA, HK3, BK179, HB⟩ := hrel
                cases gk with
                | zero => exact absurd HA.out (by simp [broadsheetref11_Print.l1])
                | succ k3 =>
                  have H := HA.out
                  clear HA
                  simp only [broadsheetref11_Print.l1] at H
                  replace H := Option.bind_eq_some_iff.mp H
                  obtain ⟨t181, A150, H⟩ := H
                  replace H : (if t181 ≤ (wrap64 ((wrap64 (Int.tdiv (wrap64 (a0_0 + 62167219200)) 86400)) - 719528)) then (broadsheetref11_Print.l1 k3 (wrap64 ((wrap64 (Int.tdiv (wrap64 (a0_0 + 62167219200)) 86400)) - 719528)) (wrap64 (x5_3 + 1)) a0_0 a0_1) else (broadsheetref11_Print.l2 k3 (wrap64 ((wrap64 (Int.tdiv (wrap64 (a0_0 + 62167219200)) 86400)) - 719528)) x5_3 1 a0_0 a0_1)) = some (r1, r2) := H
                  have A15 := Aside0.mk A150
                  clear A150
                  by_cases c16 : t181 ≤ (wrap64 ((wrap64 (Int.tdiv (wrap64 (a0_0 + 62167219200)) 86400)) - 719528))
                  · rw [if_pos c16] at H
                    have c16b0 : decide (t181 ≤ (wrap64 ((wrap64 (Int.tdiv (wrap64 (a0_0 + 62167219200)) 86400)) - 719528))) = true := decide_eq_true c16
                    clear c16
                    have H' := Aside0.mk H
                    clear H
                    go_wp2_with (first | ((with_reducible refine gate_callee (f := 28) rfl ?_); refine goesL_ (some 43) rfl rfl Tryd.func28 (by kernel_rfl) rfl #[.int .i64 (wrap64 (x5_3 + 1)), .int .i64 1, .int .i64 1] rfl (by (try simp only [List.map_toArray, List.map_cons, List.map_nil]); first | done | rfl | (simp only [List.length_drop, List.length_take]; rfl) | (simp only [Int.tmod_tmod_of_dvd _ (show (60 : Int) ∣ 86400 by decide)]; rfl)) ?_; (with_reducible refine (broadsheetref11_since.calls k3 (wrap64 (x5_3 + 1)) 1 1 t181 _ A15.out).mono ?_); rintro e w' ⟨rfl, ⟨nd, rfl⟩⟩; refine ⟨_, rfl, ?_⟩))
                    go_roundg k3
                    case measure => have := HJ1.out; have := HK2.out; have := HK3.out; omega
                    case rel => exact ⟨(wrap64 (x5_3 + 1)), (by first | rfl | (simp; done) | (simp [*]; done)), H', ⟨by have := HJ1.out; have := HK2.out; have := HK3.out; omega⟩, ⟨by (with_reducible repeat (first | refine blk_drewN ?_ _ | refine blk_drew ?_ | refine blk_alloc ?_ _)); exact BK179.out⟩, ⟨by repeat (first | (with_reducible first | exact HB.out | apply below_alloc | apply pw_below_drewN | apply below_drew1 | refine below_set ?_ GE179.out) | exact HB.out)⟩⟩
                  · rw [if_neg c16] at H
                    have c16b0 : decide (t181 ≤ (wrap64 ((wrap64 (Int.tdiv (wrap64 (a0_0 + 62167219200)) 86400)) - 719528))) = false := decide_eq_false c16
                    clear c16
                    have HC17 := Aside0.mk H
                    clear H
                    go_upto_block 4 with (first | ((with_reducible refine gate_callee (f := 28) rfl ?_); refine goesL_ (some 43) rfl rfl Tryd.func28 (by kernel_rfl) rfl #[.int .i64 (wrap64 (x5_3 + 1)), .int .i64 1, .int .i64 1] rfl (by (try simp only [List.map_toArray, List.map_cons, List.map_nil]); first | done | rfl | (simp only [List.length_drop, List.length_take]; rfl) | (simp only [Int.tmod_tmod_of_dvd _ (show (60 : Int) ∣ 86400 by decide)]; rfl)) ?_; (with_reducible refine (broadsheetref11_since.calls k3 (wrap64 (x5_3 + 1)) 1 1 t181 _ A15.out).mono ?_); rintro e w' ⟨rfl, ⟨nd, rfl⟩⟩; refine ⟨_, rfl, ?_⟩))
                    (try simp only [Act.put, List.setIfInBounds_toArray, List.set_cons_zero, List.set_cons_succ])
                    go_cut [6] (fun v6 wc => ∃ (kq : Nat) (x6_16 : Int), v6 = .int .i64 x6_16 ∧ Aside0 (broadsheetref11_Print.j4 kq (wrap64 ((wrap64 (Int.tdiv (wrap64 (a0_0 + 62167219200)) 86400)) - 719528)) x5_3 x6_16 a0_0 a0_1 = some (r1, r2)) ∧ Aside0 (kq ≤ k3) ∧ Aside0 (wc.heap[gb179]? = some (.cells #[.int .i64 a0_0, .int .i64 a0_1] 24 (0, 0))) ∧ Aside0 (Below w.heap.size w wc))
                    case first =>
                      have H := HC17.out
                      clear HC17
                      have H' := Aside0.mk H
                      clear H
                      go_wp2
                      go_loopg [6] k3 (fun kq v6 w' => ∃ (x6_4 : Int), v6 = .int .i64 x6_4 ∧ Aside0 (broadsheetref11_Print.l2 kq (wrap64 ((wrap64 (Int.tdiv (wrap64 (a0_0 + 62167219200)) 86400)) - 719528)) x5_3 x6_4 a0_0 a0_1 = some (r1, r2)) ∧ Aside0 (kq ≤ k3) ∧ Aside0 (w'.heap[gb179]? = some (.cells #[.int .i64 a0_0, .int .i64 a0_1] 24 (0, 0))) ∧ Aside0 (Below w.heap.size w w'))
                      case atStart => exact ⟨(1), (by first | rfl | (simp; done) | (simp [*]; done)), H', ⟨Nat.le_refl _⟩, ⟨by (with_reducible repeat (first | refine blk_drewN ?_ _ | refine blk_drew ?_ | refine blk_alloc ?_ _)); exact BK179.out⟩, ⟨by repeat (first | (with_reducible first | exact HB.out | apply below_alloc | apply pw_below_drewN | apply below_drew1 | refine below_set ?_ GE179.out) | exact HB.out)⟩⟩
                      case round =>
                        clear H'
                        try clear c1
                        try clear c2
                        try clear p2
                        try clear c4
                        try clear c4b0
                        try clear c6
                        try clear c6b0
                        try clear p6
                        try clear c8
                        try clear c8b0
                        try clear c11
                        try clear c14
                        try clear c14b0
                        try clear c16
                        try clear c16b0
                        try clear hcz10_0
                        try clear hcz10_1
                        try clear hcz12_0
                        try clear hcz12_1
                        try clear hcz5_0
                        try clear hcz5_1
                        try clear hcz7_0
                        try clear hcz7_1
                        try clear hcz9_0
                        try clear hcz9_1
                        try clear hfz10_0
                        try clear hfz10_1
                        try clear hfz12_0
                        try clear hfz12_1
                        try clear hfz5_0
                        try clear hfz5_1
                        try clear hfz7_0
                        try clear hfz7_1
                        try clear hfz9_0
                        try clear hfz9_1
                        try clear p2
                        try clear p6
                        obtain ⟨x6_4, rfl, HA, HK4, BK179, HB⟩ := hrel
                        cases gk with
                        | zero => exact absurd HA.out (by simp [broadsheetref11_Print.l2])
                        | succ k4 =>
                          have H := HA.out
                          clear HA
                          simp only [broadsheetref11_Print.l2] at H
                          by_cases c18 : x6_4 < 12
                          · rw [if_pos c18] at H
                            have c18b0 : decide (x6_4 < 12) = true := decide_eq_true c18
                            clear c18
                            (first | rw [c18b0] | (simp only [i64_w, i32_w]; rw [c18b0]) | skip)
                            replace H := Option.bind_eq_some_iff.mp H
                            obtain ⟨t182, A190, H⟩ := H
                            replace H : (if t182 ≤ (wrap64 ((wrap64 (Int.tdiv (wrap64 (a0_0 + 62167219200)) 86400)) - 719528)) then (broadsheetref11_Print.l2 k4 (wrap64 ((wrap64 (Int.tdiv (wrap64 (a0_0 + 62167219200)) 86400)) - 719528)) x5_3 (wrap64 (x6_4 + 1)) a0_0 a0_1) else (broadsheetref11_Print.j4 k4 (wrap64 ((wrap64 (Int.tdiv (wrap64 (a0_0 + 62167219200)) 86400)) - 719528)) x5_3 x6_4 a0_0 a0_1)) = some (r1, r2) := H
                            have A19 := Aside0.mk A190
                            clear A190
                            by_cases c20 : t182 ≤ (wrap64 ((wrap64 (Int.tdiv (wrap64 (a0_0 + 62167219200)) 86400)) - 719528))
                            · rw [if_pos c20] at H
                              have c20b0 : decide (t182 ≤ (wrap64 ((wrap64 (Int.tdiv (wrap64 (a0_0 + 62167219200)) 86400)) - 719528))) = true := decide_eq_true c20
                              clear c20
                              have H' := Aside0.mk H
                              clear H
                              go_wp2_with (first | (go_at_call 28; (with_reducible refine (broadsheetref11_since.calls k4 x5_3 (wrap64 (x6_4 + 1)) 1 t182 _ A19.out).mono ?_); rintro e w' ⟨rfl, ⟨nd, rfl⟩⟩))
                              go_roundg k4
                              case measure => have := HJ1.out; have := HK2.out; have := HK3.out; have := HK4.out; omega
                              case rel => exact ⟨(wrap64 (x6_4 + 1)), (by first | rfl | (simp; done) | (simp [*]; done)), H', ⟨by have := HJ1.out; have := HK2.out; have := HK3.out; have := HK4.out; omega⟩, ⟨by (with_reducible repeat (first | refine blk_drewN ?_ _ | refine blk_drew ?_ | refine blk_alloc ?_ _)); exact BK179.out⟩, ⟨by repeat (first | (with_reducible first | exact HB.out | apply below_alloc | apply pw_below_drewN | apply below_drew1 | refine below_set ?_ GE179.out) | exact HB.out)⟩⟩
                            · rw [if_neg c20] at H
                              have c20b0 : decide (t182 ≤ (wrap64 ((wrap64 (Int.tdiv (wrap64 (a0_0 + 62167219200)) 86400)) - 719528))) = false := decide_eq_false c20
                              clear c20
                              have H' := Aside0.mk H
                              clear H
                              go_wp2_with (first | (go_at_call 28; (with_reducible refine (broadsheetref11_since.calls k4 x5_3 (wrap64 (x6_4 + 1)) 1 t182 _ A19.out).mono ?_); rintro e w' ⟨rfl, ⟨nd, rfl⟩⟩))
                              go_meet
                              case rel => exact ⟨_, (x6_4), (by first | rfl | (simp; done) | (simp [*]; done)), H', ⟨by have := HJ1.out; have := HK2.out; have := HK3.out; have := HK4.out; first | omega | exact Nat.le_refl _⟩, ⟨by (with_reducible repeat (first | refine blk_drewN ?_ _ | refine blk_drew ?_ | refine blk_alloc ?_ _)); exact BK179.out⟩, ⟨by repeat (first | (with_reducible first | exact HB.out | apply below_alloc | apply pw_below_drewN | apply below_drew1 | refine below_set ?_ GE179.out) | exact HB.out)⟩⟩
                          · rw [if_neg c18] at H
                            have c18b0 : decide (x6_4 < 12) = false := decide_eq_false c18
                            clear c18
                            (first | rw [c18b0] | (simp only [i64_w, i32_w]; rw [c18b0]) | skip)
                            have H' := Aside0.mk H
                            clear H
                            go_wp2
                            go_meet
                            case rel => exact ⟨_, (x6_4), (by first | rfl | (simp; done) | (simp [*]; done)), H', ⟨by have := HJ1.out; have := HK2.out; have := HK3.out; have := HK4.out; first | omega | exact Nat.le_refl _⟩, ⟨by (with_reducible repeat (first | refine blk_drewN ?_ _ | refine blk_drew ?_ | refine blk_alloc ?_ _)); exact BK179.out⟩, ⟨by repeat (first | (with_reducible first | exact HB.out | apply below_alloc | apply pw_below_drewN | apply below_drew1 | refine below_set ?_ GE179.out) | exact HB.out)⟩⟩
                    case rest =>
                      clear HC17
                      try clear c1
                      try clear c2
                      try clear p2
                      try clear c4
                      try clear c4b0
                      try clear c6
                      try clear c6b0
                      try clear p6
                      try clear c8
                      try clear c8b0
                      try clear c11
                      try clear c14
                      try clear c14b0
                      try clear c16
                      try clear c16b0
                      try clear c18
                      try clear c18b0
                      try clear c20
                      try clear c20b0
                      try clear hcz10_0
                      try clear hcz10_1
                      try clear hcz12_0
                      try clear hcz12_1
                      try clear hcz5_0
                      try clear hcz5_1
                      try clear hcz7_0
                      try clear hcz7_1
                      try clear hcz9_0
                      try clear hcz9_1
                      try clear hfz10_0
                      try clear hfz10_1
                      try clear hfz12_0
                      try clear hfz12_1
                      try clear hfz5_0
                      try clear hfz5_1
                      try clear hfz7_0
                      try clear hfz7_1
                      try clear hfz9_0
                      try clear hfz9_1
                      try clear p2
                      try clear p6
                      obtain ⟨kq, x6_16, rfl, HA, HJ16, BK179, HB⟩ := hcut
                      cases kq with
                      | zero => exact absurd HA.out (by simp [broadsheetref11_Print.j4])
                      | succ kj16 =>
                        have H := HA.out
                        clear HA
                        simp only [broadsheetref11_Print.j4] at H
                        replace H := Option.bind_eq_some_iff.mp H
                        obtain ⟨t183, A210, H⟩ := H
                        replace H : ((broadsheetref11_pad.f kj16 x5_3 4).bind fun t184 => (if t184.size + 1 ≤ 9223372036854775807 then ((broadsheetref11_pad.f kj16 x6_16 2).bind fun t185 => (if (t184 ++ (⟨#[45]⟩ : ByteArray)).size + t185.size ≤ 9223372036854775807 then (if ((t184 ++ (⟨#[45]⟩ : ByteArray)) ++ t185).size + 1 ≤ 9223372036854775807 then ((broadsheetref11_pad.f kj16 (wrap64 ((wrap64 ((wrap64 ((wrap64 (Int.tdiv (wrap64 (a0_0 + 62167219200)) 86400)) - 719528)) - t183)) + 1)) 2).bind fun t186 => (if (((t184 ++ (⟨#[45]⟩ : ByteArray)) ++ t185) ++ (⟨#[45]⟩ : ByteArray)).size + t186.size ≤ 9223372036854775807 then (if ((((t184 ++ (⟨#[45]⟩ : ByteArray)) ++ t185) ++ (⟨#[45]⟩ : ByteArray)) ++ t186).size + 1 ≤ 9223372036854775807 then ((broadsheetref11_pad.f kj16 (wrap64 (Int.tdiv (Int.tmod (wrap64 (a0_0 + 62167219200)) 86400) 3600)) 2).bind fun t187 => (if (((((t184 ++ (⟨#[45]⟩ : ByteArray)) ++ t185) ++ (⟨#[45]⟩ : ByteArray)) ++ t186) ++ (⟨#[84]⟩ : ByteArray)).size + t187.size ≤ 9223372036854775807 then (if ((((((t184 ++ (⟨#[45]⟩ : ByteArray)) ++ t185) ++ (⟨#[45]⟩ : ByteArray)) ++ t186) ++ (⟨#[84]⟩ : ByteArray)) ++ t187).size + 1 ≤ 9223372036854775807 then ((broadsheetref11_pad.f kj16 (Int.tmod (wrap64 (Int.tdiv (Int.tmod (wrap64 (a0_0 + 62167219200)) 86400) 60)) 60) 2).bind fun t188 => (if (((((((t184 ++ (⟨#[45]⟩ : ByteArray)) ++ t185) ++ (⟨#[45]⟩ : ByteArray)) ++ t186) ++ (⟨#[84]⟩ : ByteArray)) ++ t187) ++ (⟨#[58]⟩ : ByteArray)).size + t188.size ≤ 9223372036854775807 then (if ((((((((t184 ++ (⟨#[45]⟩ : ByteArray)) ++ t185) ++ (⟨#[45]⟩ : ByteArray)) ++ t186) ++ (⟨#[84]⟩ : ByteArray)) ++ t187) ++ (⟨#[58]⟩ : ByteArray)) ++ t188).size + 1 ≤ 9223372036854775807 then ((broadsheetref11_pad.f kj16 (Int.tmod (Int.tmod (wrap64 (a0_0 + 62167219200)) 86400) 60) 2).bind fun t189 => (if (((((((((t184 ++ (⟨#[45]⟩ : ByteArray)) ++ t185) ++ (⟨#[45]⟩ : ByteArray)) ++ t186) ++ (⟨#[84]⟩ : ByteArray)) ++ t187) ++ (⟨#[58]⟩ : ByteArray)) ++ t188) ++ (⟨#[58]⟩ : ByteArray)).size + t189.size ≤ 9223372036854775807 then (if a0_1 > 0 then ((broadsheetref11_pad.f kj16 a0_1 9).bind fun t190 => (broadsheetref11_Print.l3 kj16 ((((((((((t184 ++ (⟨#[45]⟩ : ByteArray)) ++ t185) ++ (⟨#[45]⟩ : ByteArray)) ++ t186) ++ (⟨#[84]⟩ : ByteArray)) ++ t187) ++ (⟨#[58]⟩ : ByteArray)) ++ t188) ++ (⟨#[58]⟩ : ByteArray)) ++ t189) t190)) else (if ((((((((((t184 ++ (⟨#[45]⟩ : ByteArray)) ++ t185) ++ (⟨#[45]⟩ : ByteArray)) ++ t186) ++ (⟨#[84]⟩ : ByteArray)) ++ t187) ++ (⟨#[58]⟩ : ByteArray)) ++ t188) ++ (⟨#[58]⟩ : ByteArray)) ++ t189).size + 1 ≤ 9223372036854775807 then (some (((((((((((t184 ++ (⟨#[45]⟩ : ByteArray)) ++ t185) ++ (⟨#[45]⟩ : ByteArray)) ++ t186) ++ (⟨#[84]⟩ : ByteArray)) ++ t187) ++ (⟨#[58]⟩ : ByteArray)) ++ t188) ++ (⟨#[58]⟩ : ByteArray)) ++ t189) ++ (⟨#[90]⟩ : ByteArray), 0)) else (none))) else (none))) else (none)) else (none))) else (none)) else (none))) else (none)) else (none))) else (none)) else (none))) else (none))) = some (r1, r2) := H
                        have A21 := Aside0.mk A210
                        clear A210
                        replace H := Option.bind_eq_some_iff.mp H
                        obtain ⟨t184, A220, H⟩ := H
                        replace H : (if t184.size + 1 ≤ 9223372036854775807 then ((broadsheetref11_pad.f kj16 x6_16 2).bind fun t185 => (if (t184 ++ (⟨#[45]⟩ : ByteArray)).size + t185.size ≤ 9223372036854775807 then (if ((t184 ++ (⟨#[45]⟩ : ByteArray)) ++ t185).size + 1 ≤ 9223372036854775807 then ((broadsheetref11_pad.f kj16 (wrap64 ((wrap64 ((wrap64 ((wrap64 (Int.tdiv (wrap64 (a0_0 + 62167219200)) 86400)) - 719528)) - t183)) + 1)) 2).bind fun t186 => (if (((t184 ++ (⟨#[45]⟩ : ByteArray)) ++ t185) ++ (⟨#[45]⟩ : ByteArray)).size + t186.size ≤ 9223372036854775807 then (if ((((t184 ++ (⟨#[45]⟩ : ByteArray)) ++ t185) ++ (⟨#[45]⟩ : ByteArray)) ++ t186).size + 1 ≤ 9223372036854775807 then ((broadsheetref11_pad.f kj16 (wrap64 (Int.tdiv (Int.tmod (wrap64 (a0_0 + 62167219200)) 86400) 3600)) 2).bind fun t187 => (if (((((t184 ++ (⟨#[45]⟩ : ByteArray)) ++ t185) ++ (⟨#[45]⟩ : ByteArray)) ++ t186) ++ (⟨#[84]⟩ : ByteArray)).size + t187.size ≤ 9223372036854775807 then (if ((((((t184 ++ (⟨#[45]⟩ : ByteArray)) ++ t185) ++ (⟨#[45]⟩ : ByteArray)) ++ t186) ++ (⟨#[84]⟩ : ByteArray)) ++ t187).size + 1 ≤ 9223372036854775807 then ((broadsheetref11_pad.f kj16 (Int.tmod (wrap64 (Int.tdiv (Int.tmod (wrap64 (a0_0 + 62167219200)) 86400) 60)) 60) 2).bind fun t188 => (if (((((((t184 ++ (⟨#[45]⟩ : ByteArray)) ++ t185) ++ (⟨#[45]⟩ : ByteArray)) ++ t186) ++ (⟨#[84]⟩ : ByteArray)) ++ t187) ++ (⟨#[58]⟩ : ByteArray)).size + t188.size ≤ 9223372036854775807 then (if ((((((((t184 ++ (⟨#[45]⟩ : ByteArray)) ++ t185) ++ (⟨#[45]⟩ : ByteArray)) ++ t186) ++ (⟨#[84]⟩ : ByteArray)) ++ t187) ++ (⟨#[58]⟩ : ByteArray)) ++ t188).size + 1 ≤ 9223372036854775807 then ((broadsheetref11_pad.f kj16 (Int.tmod (Int.tmod (wrap64 (a0_0 + 62167219200)) 86400) 60) 2).bind fun t189 => (if (((((((((t184 ++ (⟨#[45]⟩ : ByteArray)) ++ t185) ++ (⟨#[45]⟩ : ByteArray)) ++ t186) ++ (⟨#[84]⟩ : ByteArray)) ++ t187) ++ (⟨#[58]⟩ : ByteArray)) ++ t188) ++ (⟨#[58]⟩ : ByteArray)).size + t189.size ≤ 9223372036854775807 then (if a0_1 > 0 then ((broadsheetref11_pad.f kj16 a0_1 9).bind fun t190 => (broadsheetref11_Print.l3 kj16 ((((((((((t184 ++ (⟨#[45]⟩ : ByteArray)) ++ t185) ++ (⟨#[45]⟩ : ByteArray)) ++ t186) ++ (⟨#[84]⟩ : ByteArray)) ++ t187) ++ (⟨#[58]⟩ : ByteArray)) ++ t188) ++ (⟨#[58]⟩ : ByteArray)) ++ t189) t190)) else (if ((((((((((t184 ++ (⟨#[45]⟩ : ByteArray)) ++ t185) ++ (⟨#[45]⟩ : ByteArray)) ++ t186) ++ (⟨#[84]⟩ : ByteArray)) ++ t187) ++ (⟨#[58]⟩ : ByteArray)) ++ t188) ++ (⟨#[58]⟩ : ByteArray)) ++ t189).size + 1 ≤ 9223372036854775807 then (some (((((((((((t184 ++ (⟨#[45]⟩ : ByteArray)) ++ t185) ++ (⟨#[45]⟩ : ByteArray)) ++ t186) ++ (⟨#[84]⟩ : ByteArray)) ++ t187) ++ (⟨#[58]⟩ : ByteArray)) ++ t188) ++ (⟨#[58]⟩ : ByteArray)) ++ t189) ++ (⟨#[90]⟩ : ByteArray), 0)) else (none))) else (none))) else (none)) else (none))) else (none)) else (none))) else (none)) else (none))) else (none)) else (none))) else (none)) = some (r1, r2) := H
                        have A22 := Aside0.mk A220
                        clear A220
                        by_cases c23 : t184.size + 1 ≤ 9223372036854775807
                        · rw [if_pos c23] at H
                          have c23b0 := eq_true c23
                          have c23b1 : decide (t184.size + 1 ≤ 9223372036854775807) = true := decide_eq_true c23
                          try have c23b2 : (9223372036854775807 < t184.size + 1) = False := eq_false (Nat.not_lt.2 c23)
                          replace H := Option.bind_eq_some_iff.mp H
                          obtain ⟨t185, A240, H⟩ := H
                          replace H : (if (t184 ++ (⟨#[45]⟩ : ByteArray)).size + t185.size ≤ 9223372036854775807 then (if ((t184 ++ (⟨#[45]⟩ : ByteArray)) ++ t185).size + 1 ≤ 9223372036854775807 then ((broadsheetref11_pad.f kj16 (wrap64 ((wrap64 ((wrap64 ((wrap64 (Int.tdiv (wrap64 (a0_0 + 62167219200)) 86400)) - 719528)) - t183)) + 1)) 2).bind fun t186 => (if (((t184 ++ (⟨#[45]⟩ : ByteArray)) ++ t185) ++ (⟨#[45]⟩ : ByteArray)).size + t186.size ≤ 9223372036854775807 then (if ((((t184 ++ (⟨#[45]⟩ : ByteArray)) ++ t185) ++ (⟨#[45]⟩ : ByteArray)) ++ t186).size + 1 ≤ 9223372036854775807 then ((broadsheetref11_pad.f kj16 (wrap64 (Int.tdiv (Int.tmod (wrap64 (a0_0 + 62167219200)) 86400) 3600)) 2).bind fun t187 => (if (((((t184 ++ (⟨#[45]⟩ : ByteArray)) ++ t185) ++ (⟨#[45]⟩ : ByteArray)) ++ t186) ++ (⟨#[84]⟩ : ByteArray)).size + t187.size ≤ 9223372036854775807 then (if ((((((t184 ++ (⟨#[45]⟩ : ByteArray)) ++ t185) ++ (⟨#[45]⟩ : ByteArray)) ++ t186) ++ (⟨#[84]⟩ : ByteArray)) ++ t187).size + 1 ≤ 9223372036854775807 then ((broadsheetref11_pad.f kj16 (Int.tmod (wrap64 (Int.tdiv (Int.tmod (wrap64 (a0_0 + 62167219200)) 86400) 60)) 60) 2).bind fun t188 => (if (((((((t184 ++ (⟨#[45]⟩ : ByteArray)) ++ t185) ++ (⟨#[45]⟩ : ByteArray)) ++ t186) ++ (⟨#[84]⟩ : ByteArray)) ++ t187) ++ (⟨#[58]⟩ : ByteArray)).size + t188.size ≤ 9223372036854775807 then (if ((((((((t184 ++ (⟨#[45]⟩ : ByteArray)) ++ t185) ++ (⟨#[45]⟩ : ByteArray)) ++ t186) ++ (⟨#[84]⟩ : ByteArray)) ++ t187) ++ (⟨#[58]⟩ : ByteArray)) ++ t188).size + 1 ≤ 9223372036854775807 then ((broadsheetref11_pad.f kj16 (Int.tmod (Int.tmod (wrap64 (a0_0 + 62167219200)) 86400) 60) 2).bind fun t189 => (if (((((((((t184 ++ (⟨#[45]⟩ : ByteArray)) ++ t185) ++ (⟨#[45]⟩ : ByteArray)) ++ t186) ++ (⟨#[84]⟩ : ByteArray)) ++ t187) ++ (⟨#[58]⟩ : ByteArray)) ++ t188) ++ (⟨#[58]⟩ : ByteArray)).size + t189.size ≤ 9223372036854775807 then (if a0_1 > 0 then ((broadsheetref11_pad.f kj16 a0_1 9).bind fun t190 => (broadsheetref11_Print.l3 kj16 ((((((((((t184 ++ (⟨#[45]⟩ : ByteArray)) ++ t185) ++ (⟨#[45]⟩ : ByteArray)) ++ t186) ++ (⟨#[84]⟩ : ByteArray)) ++ t187) ++ (⟨#[58]⟩ : ByteArray)) ++ t188) ++ (⟨#[58]⟩ : ByteArray)) ++ t189) t190)) else (if ((((((((((t184 ++ (⟨#[45]⟩ : ByteArray)) ++ t185) ++ (⟨#[45]⟩ : ByteArray)) ++ t186) ++ (⟨#[84]⟩ : ByteArray)) ++ t187) ++ (⟨#[58]⟩ : ByteArray)) ++ t188) ++ (⟨#[58]⟩ : ByteArray)) ++ t189).size + 1 ≤ 9223372036854775807 then (some (((((((((((t184 ++ (⟨#[45]⟩ : ByteArray)) ++ t185) ++ (⟨#[45]⟩ : ByteArray)) ++ t186) ++ (⟨#[84]⟩ : ByteArray)) ++ t187) ++ (⟨#[58]⟩ : ByteArray)) ++ t188) ++ (⟨#[58]⟩ : ByteArray)) ++ t189) ++ (⟨#[90]⟩ : ByteArray), 0)) else (none))) else (none))) else (none)) else (none))) else (none)) else (none))) else (none)) else (none))) else (none)) else (none)) = some (r1, r2) := H
                          have A24 := Aside0.mk A240
                          clear A240
                          by_cases c25 : (t184 ++ (⟨#[45]⟩ : ByteArray)).size + t185.size ≤ 9223372036854775807
                          · rw [if_pos c25] at H
                            have c25b0 := eq_true c25
                            have c25b1 : decide ((t184 ++ (⟨#[45]⟩ : ByteArray)).size + t185.size ≤ 9223372036854775807) = true := decide_eq_true c25
                            try have c25b2 : (9223372036854775807 < (t184 ++ (⟨#[45]⟩ : ByteArray)).size + t185.size) = False := eq_false (Nat.not_lt.2 c25)
                            try have c25b3 : (9223372036854775807 < t184.size + 1 + t185.size) = False := eq_false (by have h_ := c25; simp only [ByteArray.size_append] at h_; exact Nat.not_lt.2 h_)
                            by_cases c26 : ((t184 ++ (⟨#[45]⟩ : ByteArray)) ++ t185).size + 1 ≤ 9223372036854775807
                            · rw [if_pos c26] at H
                              have c26b0 := eq_true c26
                              have c26b1 : decide (((t184 ++ (⟨#[45]⟩ : ByteArray)) ++ t185).size + 1 ≤ 9223372036854775807) = true := decide_eq_true c26
                              try have c26b2 : (9223372036854775807 < ((t184 ++ (⟨#[45]⟩ : ByteArray)) ++ t185).size + 1) = False := eq_false (Nat.not_lt.2 c26)
                              try have c26b3 : (9223372036854775807 < t184.size + 1 + t185.size + 1) = False := eq_false (by have h_ := c26; simp only [ByteArray.size_append] at h_; exact Nat.not_lt.2 h_)
                              replace H := Option.bind_eq_some_iff.mp H
                              obtain ⟨t186, A270, H⟩ := H
                              replace H : (if (((t184 ++ (⟨#[45]⟩ : ByteArray)) ++ t185) ++ (⟨#[45]⟩ : ByteArray)).size + t186.size ≤ 9223372036854775807 then (if ((((t184 ++ (⟨#[45]⟩ : ByteArray)) ++ t185) ++ (⟨#[45]⟩ : ByteArray)) ++ t186).size + 1 ≤ 9223372036854775807 then ((broadsheetref11_pad.f kj16 (wrap64 (Int.tdiv (Int.tmod (wrap64 (a0_0 + 62167219200)) 86400) 3600)) 2).bind fun t187 => (if (((((t184 ++ (⟨#[45]⟩ : ByteArray)) ++ t185) ++ (⟨#[45]⟩ : ByteArray)) ++ t186) ++ (⟨#[84]⟩ : ByteArray)).size + t187.size ≤ 9223372036854775807 then (if ((((((t184 ++ (⟨#[45]⟩ : ByteArray)) ++ t185) ++ (⟨#[45]⟩ : ByteArray)) ++ t186) ++ (⟨#[84]⟩ : ByteArray)) ++ t187).size + 1 ≤ 9223372036854775807 then ((broadsheetref11_pad.f kj16 (Int.tmod (wrap64 (Int.tdiv (Int.tmod (wrap64 (a0_0 + 62167219200)) 86400) 60)) 60) 2).bind fun t188 => (if (((((((t184 ++ (⟨#[45]⟩ : ByteArray)) ++ t185) ++ (⟨#[45]⟩ : ByteArray)) ++ t186) ++ (⟨#[84]⟩ : ByteArray)) ++ t187) ++ (⟨#[58]⟩ : ByteArray)).size + t188.size ≤ 9223372036854775807 then (if ((((((((t184 ++ (⟨#[45]⟩ : ByteArray)) ++ t185) ++ (⟨#[45]⟩ : ByteArray)) ++ t186) ++ (⟨#[84]⟩ : ByteArray)) ++ t187) ++ (⟨#[58]⟩ : ByteArray)) ++ t188).size + 1 ≤ 9223372036854775807 then ((broadsheetref11_pad.f kj16 (Int.tmod (Int.tmod (wrap64 (a0_0 + 62167219200)) 86400) 60) 2).bind fun t189 => (if (((((((((t184 ++ (⟨#[45]⟩ : ByteArray)) ++ t185) ++ (⟨#[45]⟩ : ByteArray)) ++ t186) ++ (⟨#[84]⟩ : ByteArray)) ++ t187) ++ (⟨#[58]⟩ : ByteArray)) ++ t188) ++ (⟨#[58]⟩ : ByteArray)).size + t189.size ≤ 9223372036854775807 then (if a0_1 > 0 then ((broadsheetref11_pad.f kj16 a0_1 9).bind fun t190 => (broadsheetref11_Print.l3 kj16 ((((((((((t184 ++ (⟨#[45]⟩ : ByteArray)) ++ t185) ++ (⟨#[45]⟩ : ByteArray)) ++ t186) ++ (⟨#[84]⟩ : ByteArray)) ++ t187) ++ (⟨#[58]⟩ : ByteArray)) ++ t188) ++ (⟨#[58]⟩ : ByteArray)) ++ t189) t190)) else (if ((((((((((t184 ++ (⟨#[45]⟩ : ByteArray)) ++ t185) ++ (⟨#[45]⟩ : ByteArray)) ++ t186) ++ (⟨#[84]⟩ : ByteArray)) ++ t187) ++ (⟨#[58]⟩ : ByteArray)) ++ t188) ++ (⟨#[58]⟩ : ByteArray)) ++ t189).size + 1 ≤ 9223372036854775807 then (some (((((((((((t184 ++ (⟨#[45]⟩ : ByteArray)) ++ t185) ++ (⟨#[45]⟩ : ByteArray)) ++ t186) ++ (⟨#[84]⟩ : ByteArray)) ++ t187) ++ (⟨#[58]⟩ : ByteArray)) ++ t188) ++ (⟨#[58]⟩ : ByteArray)) ++ t189) ++ (⟨#[90]⟩ : ByteArray), 0)) else (none))) else (none))) else (none)) else (none))) else (none)) else (none))) else (none)) else (none)) = some (r1, r2) := H
                              have A27 := Aside0.mk A270
                              clear A270
                              by_cases c28 : (((t184 ++ (⟨#[45]⟩ : ByteArray)) ++ t185) ++ (⟨#[45]⟩ : ByteArray)).size + t186.size ≤ 9223372036854775807
                              · rw [if_pos c28] at H
                                have c28b0 := eq_true c28
                                have c28b1 : decide ((((t184 ++ (⟨#[45]⟩ : ByteArray)) ++ t185) ++ (⟨#[45]⟩ : ByteArray)).size + t186.size ≤ 9223372036854775807) = true := decide_eq_true c28
                                try have c28b2 : (9223372036854775807 < (((t184 ++ (⟨#[45]⟩ : ByteArray)) ++ t185) ++ (⟨#[45]⟩ : ByteArray)).size + t186.size) = False := eq_false (Nat.not_lt.2 c28)
                                try have c28b3 : (9223372036854775807 < t184.size + 1 + t185.size + 1 + t186.size) = False := eq_false (by have h_ := c28; simp only [ByteArray.size_append] at h_; exact Nat.not_lt.2 h_)
                                by_cases c29 : ((((t184 ++ (⟨#[45]⟩ : ByteArray)) ++ t185) ++ (⟨#[45]⟩ : ByteArray)) ++ t186).size + 1 ≤ 9223372036854775807
                                · rw [if_pos c29] at H
                                  have c29b0 := eq_true c29
                                  have c29b1 : decide (((((t184 ++ (⟨#[45]⟩ : ByteArray)) ++ t185) ++ (⟨#[45]⟩ : ByteArray)) ++ t186).size + 1 ≤ 9223372036854775807) = true := decide_eq_true c29
                                  try have c29b2 : (9223372036854775807 < ((((t184 ++ (⟨#[45]⟩ : ByteArray)) ++ t185) ++ (⟨#[45]⟩ : ByteArray)) ++ t186).size + 1) = False := eq_false (Nat.not_lt.2 c29)
                                  try have c29b3 : (9223372036854775807 < t184.size + 1 + t185.size + 1 + t186.size + 1) = False := eq_false (by have h_ := c29; simp only [ByteArray.size_append] at h_; exact Nat.not_lt.2 h_)
                                  replace H := Option.bind_eq_some_iff.mp H
                                  obtain ⟨t187, A300, H⟩ := H
                                  replace H : (if (((((t184 ++ (⟨#[45]⟩ : ByteArray)) ++ t185) ++ (⟨#[45]⟩ : ByteArray)) ++ t186) ++ (⟨#[84]⟩ : ByteArray)).size + t187.size ≤ 9223372036854775807 then (if ((((((t184 ++ (⟨#[45]⟩ : ByteArray)) ++ t185) ++ (⟨#[45]⟩ : ByteArray)) ++ t186) ++ (⟨#[84]⟩ : ByteArray)) ++ t187).size + 1 ≤ 9223372036854775807 then ((broadsheetref11_pad.f kj16 (Int.tmod (wrap64 (Int.tdiv (Int.tmod (wrap64 (a0_0 + 62167219200)) 86400) 60)) 60) 2).bind fun t188 => (if (((((((t184 ++ (⟨#[45]⟩ : ByteArray)) ++ t185) ++ (⟨#[45]⟩ : ByteArray)) ++ t186) ++ (⟨#[84]⟩ : ByteArray)) ++ t187) ++ (⟨#[58]⟩ : ByteArray)).size + t188.size ≤ 9223372036854775807 then (if ((((((((t184 ++ (⟨#[45]⟩ : ByteArray)) ++ t185) ++ (⟨#[45]⟩ : ByteArray)) ++ t186) ++ (⟨#[84]⟩ : ByteArray)) ++ t187) ++ (⟨#[58]⟩ : ByteArray)) ++ t188).size + 1 ≤ 9223372036854775807 then ((broadsheetref11_pad.f kj16 (Int.tmod (Int.tmod (wrap64 (a0_0 + 62167219200)) 86400) 60) 2).bind fun t189 => (if (((((((((t184 ++ (⟨#[45]⟩ : ByteArray)) ++ t185) ++ (⟨#[45]⟩ : ByteArray)) ++ t186) ++ (⟨#[84]⟩ : ByteArray)) ++ t187) ++ (⟨#[58]⟩ : ByteArray)) ++ t188) ++ (⟨#[58]⟩ : ByteArray)).size + t189.size ≤ 9223372036854775807 then (if a0_1 > 0 then ((broadsheetref11_pad.f kj16 a0_1 9).bind fun t190 => (broadsheetref11_Print.l3 kj16 ((((((((((t184 ++ (⟨#[45]⟩ : ByteArray)) ++ t185) ++ (⟨#[45]⟩ : ByteArray)) ++ t186) ++ (⟨#[84]⟩ : ByteArray)) ++ t187) ++ (⟨#[58]⟩ : ByteArray)) ++ t188) ++ (⟨#[58]⟩ : ByteArray)) ++ t189) t190)) else (if ((((((((((t184 ++ (⟨#[45]⟩ : ByteArray)) ++ t185) ++ (⟨#[45]⟩ : ByteArray)) ++ t186) ++ (⟨#[84]⟩ : ByteArray)) ++ t187) ++ (⟨#[58]⟩ : ByteArray)) ++ t188) ++ (⟨#[58]⟩ : ByteArray)) ++ t189).size + 1 ≤ 9223372036854775807 then (some (((((((((((t184 ++ (⟨#[45]⟩ : ByteArray)) ++ t185) ++ (⟨#[45]⟩ : ByteArray)) ++ t186) ++ (⟨#[84]⟩ : ByteArray)) ++ t187) ++ (⟨#[58]⟩ : ByteArray)) ++ t188) ++ (⟨#[58]⟩ : ByteArray)) ++ t189) ++ (⟨#[90]⟩ : ByteArray), 0)) else (none))) else (none))) else (none)) else (none))) else (none)) else (none)) = some (r1, r2) := H
                                  have A30 := Aside0.mk A300
                                  clear A300
                                  by_cases c31 : (((((t184 ++ (⟨#[45]⟩ : ByteArray)) ++ t185) ++ (⟨#[45]⟩ : ByteArray)) ++ t186) ++ (⟨#[84]⟩ : ByteArray)).size + t187.size ≤ 9223372036854775807
                                  · rw [if_pos c31] at H
                                    have c31b0 := eq_true c31
                                    have c31b1 : decide ((((((t184 ++ (⟨#[45]⟩ : ByteArray)) ++ t185) ++ (⟨#[45]⟩ : ByteArray)) ++ t186) ++ (⟨#[84]⟩ : ByteArray)).size + t187.size ≤ 9223372036854775807) = true := decide_eq_true c31
                                    try have c31b2 : (9223372036854775807 < (((((t184 ++ (⟨#[45]⟩ : ByteArray)) ++ t185) ++ (⟨#[45]⟩ : ByteArray)) ++ t186) ++ (⟨#[84]⟩ : ByteArray)).size + t187.size) = False := eq_false (Nat.not_lt.2 c31)
                                    try have c31b3 : (9223372036854775807 < t184.size + 1 + t185.size + 1 + t186.size + 1 + t187.size) = False := eq_false (by have h_ := c31; simp only [ByteArray.size_append] at h_; exact Nat.not_lt.2 h_)
                                    by_cases c32 : ((((((t184 ++ (⟨#[45]⟩ : ByteArray)) ++ t185) ++ (⟨#[45]⟩ : ByteArray)) ++ t186) ++ (⟨#[84]⟩ : ByteArray)) ++ t187).size + 1 ≤ 9223372036854775807
                                    · rw [if_pos c32] at H
                                      have c32b0 := eq_true c32
                                      have c32b1 : decide (((((((t184 ++ (⟨#[45]⟩ : ByteArray)) ++ t185) ++ (⟨#[45]⟩ : ByteArray)) ++ t186) ++ (⟨#[84]⟩ : ByteArray)) ++ t187).size + 1 ≤ 9223372036854775807) = true := decide_eq_true c32
                                      try have c32b2 : (9223372036854775807 < ((((((t184 ++ (⟨#[45]⟩ : ByteArray)) ++ t185) ++ (⟨#[45]⟩ : ByteArray)) ++ t186) ++ (⟨#[84]⟩ : ByteArray)) ++ t187).size + 1) = False := eq_false (Nat.not_lt.2 c32)
                                      try have c32b3 : (9223372036854775807 < t184.size + 1 + t185.size + 1 + t186.size + 1 + t187.size + 1) = False := eq_false (by have h_ := c32; simp only [ByteArray.size_append] at h_; exact Nat.not_lt.2 h_)
                                      replace H := Option.bind_eq_some_iff.mp H
                                      obtain ⟨t188, A330, H⟩ := H
                                      replace H : (if (((((((t184 ++ (⟨#[45]⟩ : ByteArray)) ++ t185) ++ (⟨#[45]⟩ : ByteArray)) ++ t186) ++ (⟨#[84]⟩ : ByteArray)) ++ t187) ++ (⟨#[58]⟩ : ByteArray)).size + t188.size ≤ 9223372036854775807 then (if ((((((((t184 ++ (⟨#[45]⟩ : ByteArray)) ++ t185) ++ (⟨#[45]⟩ : ByteArray)) ++ t186) ++ (⟨#[84]⟩ : ByteArray)) ++ t187) ++ (⟨#[58]⟩ : ByteArray)) ++ t188).size + 1 ≤ 9223372036854775807 then ((broadsheetref11_pad.f kj16 (Int.tmod (Int.tmod (wrap64 (a0_0 + 62167219200)) 86400) 60) 2).bind fun t189 => (if (((((((((t184 ++ (⟨#[45]⟩ : ByteArray)) ++ t185) ++ (⟨#[45]⟩ : ByteArray)) ++ t186) ++ (⟨#[84]⟩ : ByteArray)) ++ t187) ++ (⟨#[58]⟩ : ByteArray)) ++ t188) ++ (⟨#[58]⟩ : ByteArray)).size + t189.size ≤ 9223372036854775807 then (if a0_1 > 0 then ((broadsheetref11_pad.f kj16 a0_1 9).bind fun t190 => (broadsheetref11_Print.l3 kj16 ((((((((((t184 ++ (⟨#[45]⟩ : ByteArray)) ++ t185) ++ (⟨#[45]⟩ : ByteArray)) ++ t186) ++ (⟨#[84]⟩ : ByteArray)) ++ t187) ++ (⟨#[58]⟩ : ByteArray)) ++ t188) ++ (⟨#[58]⟩ : ByteArray)) ++ t189) t190)) else (if ((((((((((t184 ++ (⟨#[45]⟩ : ByteArray)) ++ t185) ++ (⟨#[45]⟩ : ByteArray)) ++ t186) ++ (⟨#[84]⟩ : ByteArray)) ++ t187) ++ (⟨#[58]⟩ : ByteArray)) ++ t188) ++ (⟨#[58]⟩ : ByteArray)) ++ t189).size + 1 ≤ 9223372036854775807 then (some (((((((((((t184 ++ (⟨#[45]⟩ : ByteArray)) ++ t185) ++ (⟨#[45]⟩ : ByteArray)) ++ t186) ++ (⟨#[84]⟩ : ByteArray)) ++ t187) ++ (⟨#[58]⟩ : ByteArray)) ++ t188) ++ (⟨#[58]⟩ : ByteArray)) ++ t189) ++ (⟨#[90]⟩ : ByteArray), 0)) else (none))) else (none))) else (none)) else (none)) = some (r1, r2) := H
                                      have A33 := Aside0.mk A330
                                      clear A330
                                      by_cases c34 : (((((((t184 ++ (⟨#[45]⟩ : ByteArray)) ++ t185) ++ (⟨#[45]⟩ : ByteArray)) ++ t186) ++ (⟨#[84]⟩ : ByteArray)) ++ t187) ++ (⟨#[58]⟩ : ByteArray)).size + t188.size ≤ 9223372036854775807
                                      · rw [if_pos c34] at H
                                        have c34b0 := eq_true c34
                                        have c34b1 : decide ((((((((t184 ++ (⟨#[45]⟩ : ByteArray)) ++ t185) ++ (⟨#[45]⟩ : ByteArray)) ++ t186) ++ (⟨#[84]⟩ : ByteArray)) ++ t187) ++ (⟨#[58]⟩ : ByteArray)).size + t188.size ≤ 9223372036854775807) = true := decide_eq_true c34
                                        try have c34b2 : (9223372036854775807 < (((((((t184 ++ (⟨#[45]⟩ : ByteArray)) ++ t185) ++ (⟨#[45]⟩ : ByteArray)) ++ t186) ++ (⟨#[84]⟩ : ByteArray)) ++ t187) ++ (⟨#[58]⟩ : ByteArray)).size + t188.size) = False := eq_false (Nat.not_lt.2 c34)
                                        try have c34b3 : (9223372036854775807 < t184.size + 1 + t185.size + 1 + t186.size + 1 + t187.size + 1 + t188.size) = False := eq_false (by have h_ := c34; simp only [ByteArray.size_append] at h_; exact Nat.not_lt.2 h_)
                                        by_cases c35 : ((((((((t184 ++ (⟨#[45]⟩ : ByteArray)) ++ t185) ++ (⟨#[45]⟩ : ByteArray)) ++ t186) ++ (⟨#[84]⟩ : ByteArray)) ++ t187) ++ (⟨#[58]⟩ : ByteArray)) ++ t188).size + 1 ≤ 9223372036854775807
                                        · rw [if_pos c35] at H
                                          have c35b0 := eq_true c35
                                          have c35b1 : decide (((((((((t184 ++ (⟨#[45]⟩ : ByteArray)) ++ t185) ++ (⟨#[45]⟩ : ByteArray)) ++ t186) ++ (⟨#[84]⟩ : ByteArray)) ++ t187) ++ (⟨#[58]⟩ : ByteArray)) ++ t188).size + 1 ≤ 9223372036854775807) = true := decide_eq_true c35
                                          try have c35b2 : (9223372036854775807 < ((((((((t184 ++ (⟨#[45]⟩ : ByteArray)) ++ t185) ++ (⟨#[45]⟩ : ByteArray)) ++ t186) ++ (⟨#[84]⟩ : ByteArray)) ++ t187) ++ (⟨#[58]⟩ : ByteArray)) ++ t188).size + 1) = False := eq_false (Nat.not_lt.2 c35)
                                          try have c35b3 : (9223372036854775807 < t184.size + 1 + t185.size + 1 + t186.size + 1 + t187.size + 1 + t188.size + 1) = False := eq_false (by have h_ := c35; simp only [ByteArray.size_append] at h_; exact Nat.not_lt.2 h_)
                                          replace H := Option.bind_eq_some_iff.mp H
                                          obtain ⟨t189, A360, H⟩ := H
                                          replace H : (if (((((((((t184 ++ (⟨#[45]⟩ : ByteArray)) ++ t185) ++ (⟨#[45]⟩ : ByteArray)) ++ t186) ++ (⟨#[84]⟩ : ByteArray)) ++ t187) ++ (⟨#[58]⟩ : ByteArray)) ++ t188) ++ (⟨#[58]⟩ : ByteArray)).size + t189.size ≤ 9223372036854775807 then (if a0_1 > 0 then ((broadsheetref11_pad.f kj16 a0_1 9).bind fun t190 => (broadsheetref11_Print.l3 kj16 ((((((((((t184 ++ (⟨#[45]⟩ : ByteArray)) ++ t185) ++ (⟨#[45]⟩ : ByteArray)) ++ t186) ++ (⟨#[84]⟩ : ByteArray)) ++ t187) ++ (⟨#[58]⟩ : ByteArray)) ++ t188) ++ (⟨#[58]⟩ : ByteArray)) ++ t189) t190)) else (if ((((((((((t184 ++ (⟨#[45]⟩ : ByteArray)) ++ t185) ++ (⟨#[45]⟩ : ByteArray)) ++ t186) ++ (⟨#[84]⟩ : ByteArray)) ++ t187) ++ (⟨#[58]⟩ : ByteArray)) ++ t188) ++ (⟨#[58]⟩ : ByteArray)) ++ t189).size + 1 ≤ 9223372036854775807 then (some (((((((((((t184 ++ (⟨#[45]⟩ : ByteArray)) ++ t185) ++ (⟨#[45]⟩ : ByteArray)) ++ t186) ++ (⟨#[84]⟩ : ByteArray)) ++ t187) ++ (⟨#[58]⟩ : ByteArray)) ++ t188) ++ (⟨#[58]⟩ : ByteArray)) ++ t189) ++ (⟨#[90]⟩ : ByteArray), 0)) else (none))) else (none)) = some (r1, r2) := H
                                          have A36 := Aside0.mk A360
                                          clear A360
                                          by_cases c37 : (((((((((t184 ++ (⟨#[45]⟩ : ByteArray)) ++ t185) ++ (⟨#[45]⟩ : ByteArray)) ++ t186) ++ (⟨#[84]⟩ : ByteArray)) ++ t187) ++ (⟨#[58]⟩ : ByteArray)) ++ t188) ++ (⟨#[58]⟩ : ByteArray)).size + t189.size ≤ 9223372036854775807
                                          · rw [if_pos c37] at H
                                            have c37b0 := eq_true c37
                                            have c37b1 : decide ((((((((((t184 ++ (⟨#[45]⟩ : ByteArray)) ++ t185) ++ (⟨#[45]⟩ : ByteArray)) ++ t186) ++ (⟨#[84]⟩ : ByteArray)) ++ t187) ++ (⟨#[58]⟩ : ByteArray)) ++ t188) ++ (⟨#[58]⟩ : ByteArray)).size + t189.size ≤ 9223372036854775807) = true := decide_eq_true c37
                                            try have c37b2 : (9223372036854775807 < (((((((((t184 ++ (⟨#[45]⟩ : ByteArray)) ++ t185) ++ (⟨#[45]⟩ : ByteArray)) ++ t186) ++ (⟨#[84]⟩ : ByteArray)) ++ t187) ++ (⟨#[58]⟩ : ByteArray)) ++ t188) ++ (⟨#[58]⟩ : ByteArray)).size + t189.size) = False := eq_false (Nat.not_lt.2 c37)
                                            try have c37b3 : (9223372036854775807 < t184.size + 1 + t185.size + 1 + t186.size + 1 + t187.size + 1 + t188.size + 1 + t189.size) = False := eq_false (by have h_ := c37; simp only [ByteArray.size_append] at h_; exact Nat.not_lt.2 h_)
                                            by_cases c38 : a0_1 > 0
                                            · rw [if_pos c38] at H
                                              have c38b0 : decide (0 < a0_1) = true := decide_eq_true c38
                                              clear c38
                                              replace H := Option.bind_eq_some_iff.mp H
                                              obtain ⟨t190, A390, H⟩ := H
                                              replace H : (broadsheetref11_Print.l3 kj16 ((((((((((t184 ++ (⟨#[45]⟩ : ByteArray)) ++ t185) ++ (⟨#[45]⟩ : ByteArray)) ++ t186) ++ (⟨#[84]⟩ : ByteArray)) ++ t187) ++ (⟨#[58]⟩ : ByteArray)) ++ t188) ++ (⟨#[58]⟩ : ByteArray)) ++ t189) t190) = some (r1, r2) := H
                                              have A39 := Aside0.mk A390
                                              clear A390
                                              have H' := Aside0.mk H
                                              clear H
                                              go_wp2_with (first | ((with_reducible refine gate_callee (f := 28) rfl ?_); refine goesL_ (some 63) rfl rfl Tryd.func28 (by kernel_rfl) rfl #[.int .i64 x5_3, .int .i64 x6_16, .int .i64 1] rfl (by (try simp only [List.map_toArray, List.map_cons, List.map_nil]); first | done | rfl | (simp only [List.length_drop, List.length_take]; rfl) | (simp only [Int.tmod_tmod_of_dvd _ (show (60 : Int) ∣ 86400 by decide)]; rfl)) ?_; (with_reducible refine (broadsheetref11_since.calls kj16 x5_3 x6_16 1 t183 _ A21.out).mono ?_); rintro e w' ⟨rfl, ⟨nd, rfl⟩⟩; refine ⟨_, rfl, ?_⟩; have hcz40_0 : wc.cell? ⟨gb179, 0, none⟩ = some (.int .i64 a0_0) := (blk_cell BK179.out 0).trans rfl; have hcz40_1 : wc.cell? ⟨gb179, 1, none⟩ = some (.int .i64 a0_1) := (blk_cell BK179.out 1).trans rfl; have hfz40_0 := blk_frozen BK179.out 0; have hfz40_1 := blk_frozen BK179.out 1) | ((with_reducible refine gate_callee (f := 32) rfl ?_); refine goesL_ (some 71) rfl rfl Tryd.func32 (by kernel_rfl) rfl #[.int .i64 x5_3, .int .i64 4] rfl (by (try simp only [List.map_toArray, List.map_cons, List.map_nil]); first | done | rfl | (simp only [List.length_drop, List.length_take]; rfl) | (simp only [Int.tmod_tmod_of_dvd _ (show (60 : Int) ∣ 86400 by decide)]; rfl)) ?_; (with_reducible refine (broadsheetref11_pad.calls kj16 x5_3 4 t184 _ A22.out).mono ?_); rintro e w41 ⟨rfl, hb⟩; refine ⟨_, rfl, ?_⟩; have n0_ := Aside0.mk (blk_below (g := gb179) (o := .cells #[.int .i64 a0_0, .int .i64 a0_1] 24 (0, 0)) (by (with_reducible repeat (first | refine blk_drewN ?_ _ | refine blk_drew ?_ | refine blk_alloc ?_ _)); exact BK179.out) hb); have n1_ := Aside0.mk (below_step (by repeat (first | (with_reducible first | exact HB.out | apply below_alloc | apply pw_below_drewN | apply below_drew1 | refine below_set ?_ GE179.out) | exact HB.out)) hb); clear BK179; clear HB; have BK179 := n0_; have HB := n1_; clear n0_ n1_; (try clear hb); (try clear hb2); (try clear hk); (try clear hi)) | ((with_reducible refine gate_callee (f := 32) rfl ?_); refine goesL_ (some 74) rfl rfl Tryd.func32 (by kernel_rfl) rfl #[.int .i64 x6_16, .int .i64 2] rfl (by (try simp only [List.map_toArray, List.map_cons, List.map_nil]); first | done | rfl | (simp only [List.length_drop, List.length_take]; rfl) | (simp only [Int.tmod_tmod_of_dvd _ (show (60 : Int) ∣ 86400 by decide)]; rfl)) ?_; (with_reducible refine (broadsheetref11_pad.calls kj16 x6_16 2 t185 _ A24.out).mono ?_); rintro e w42 ⟨rfl, hb⟩; refine ⟨_, rfl, ?_⟩; have n0_ := Aside0.mk (blk_below (g := gb179) (o := .cells #[.int .i64 a0_0, .int .i64 a0_1] 24 (0, 0)) (by (with_reducible repeat (first | refine blk_drewN ?_ _ | refine blk_drew ?_ | refine blk_alloc ?_ _)); exact BK179.out) hb); have n1_ := Aside0.mk (below_step (by repeat (first | (with_reducible first | exact HB.out | apply below_alloc | apply pw_below_drewN | apply below_drew1 | refine below_set ?_ GE179.out) | exact HB.out)) hb); clear BK179; clear HB; have BK179 := n0_; have HB := n1_; clear n0_ n1_; (try clear hb); (try clear hb2); (try clear hk); (try clear hi)) | ((with_reducible refine gate_callee (f := 32) rfl ?_); refine goesL_ (some 78) rfl rfl Tryd.func32 (by kernel_rfl) rfl #[.int .i64 (wrap64 ((wrap64 ((wrap64 ((wrap64 (Int.tdiv (wrap64 (a0_0 + 62167219200)) 86400)) - 719528)) - t183)) + 1)), .int .i64 2] rfl (by (try simp only [List.map_toArray, List.map_cons, List.map_nil]); first | done | rfl | (simp only [List.length_drop, List.length_take]; rfl) | (simp only [Int.tmod_tmod_of_dvd _ (show (60 : Int) ∣ 86400 by decide)]; rfl)) ?_; (with_reducible refine (broadsheetref11_pad.calls kj16 (wrap64 ((wrap64 ((wrap64 ((wrap64 (Int.tdiv (wrap64 (a0_0 + 62167219200)) 86400)) - 719528)) - t183)) + 1)) 2 t186 _ A27.out).mono ?_); rintro e w43 ⟨rfl, hb⟩; refine ⟨_, rfl, ?_⟩; have n0_ := Aside0.mk (blk_below (g := gb179) (o := .cells #[.int .i64 a0_0, .int .i64 a0_1] 24 (0, 0)) (by (with_reducible repeat (first | refine blk_drewN ?_ _ | refine blk_drew ?_ | refine blk_alloc ?_ _)); exact BK179.out) hb); have n1_ := Aside0.mk (below_step (by repeat (first | (with_reducible first | exact HB.out | apply below_alloc | apply pw_below_drewN | apply below_drew1 | refine below_set ?_ GE179.out) | exact HB.out)) hb); clear BK179; clear HB; have BK179 := n0_; have HB := n1_; clear n0_ n1_; (try clear hb); (try clear hb2); (try clear hk); (try clear hi)) | ((with_reducible refine gate_callee (f := 32) rfl ?_); refine goesL_ (some 83) rfl rfl Tryd.func32 (by kernel_rfl) rfl #[.int .i64 (wrap64 (Int.tdiv (Int.tmod (wrap64 (a0_0 + 62167219200)) 86400) 3600)), .int .i64 2] rfl (by (try simp only [List.map_toArray, List.map_cons, List.map_nil]); first | done | rfl | (simp only [List.length_drop, List.length_take]; rfl) | (simp only [Int.tmod_tmod_of_dvd _ (show (60 : Int) ∣ 86400 by decide)]; rfl)) ?_; (with_reducible refine (broadsheetref11_pad.calls kj16 (wrap64 (Int.tdiv (Int.tmod (wrap64 (a0_0 + 62167219200)) 86400) 3600)) 2 t187 _ A30.out).mono ?_); rintro e w44 ⟨rfl, hb⟩; refine ⟨_, rfl, ?_⟩; have n0_ := Aside0.mk (blk_below (g := gb179) (o := .cells #[.int .i64 a0_0, .int .i64 a0_1] 24 (0, 0)) (by (with_reducible repeat (first | refine blk_drewN ?_ _ | refine blk_drew ?_ | refine blk_alloc ?_ _)); exact BK179.out) hb); have n1_ := Aside0.mk (below_step (by repeat (first | (with_reducible first | exact HB.out | apply below_alloc | apply pw_below_drewN | apply below_drew1 | refine below_set ?_ GE179.out) | exact HB.out)) hb); clear BK179; clear HB; have BK179 := n0_; have HB := n1_; clear n0_ n1_; (try clear hb); (try clear hb2); (try clear hk); (try clear hi)) | ((with_reducible refine gate_callee (f := 32) rfl ?_); refine goesL_ (some 89) rfl rfl Tryd.func32 (by kernel_rfl) rfl #[.int .i64 (Int.tmod (wrap64 (Int.tdiv (Int.tmod (wrap64 (a0_0 + 62167219200)) 86400) 60)) 60), .int .i64 2] rfl (by (try simp only [List.map_toArray, List.map_cons, List.map_nil]); first | done | rfl | (simp only [List.length_drop, List.length_take]; rfl) | (simp only [Int.tmod_tmod_of_dvd _ (show (60 : Int) ∣ 86400 by decide)]; rfl)) ?_; (with_reducible refine (broadsheetref11_pad.calls kj16 (Int.tmod (wrap64 (Int.tdiv (Int.tmod (wrap64 (a0_0 + 62167219200)) 86400) 60)) 60) 2 t188 _ A33.out).mono ?_); rintro e w45 ⟨rfl, hb⟩; refine ⟨_, rfl, ?_⟩; have n0_ := Aside0.mk (blk_below (g := gb179) (o := .cells #[.int .i64 a0_0, .int .i64 a0_1] 24 (0, 0)) (by (with_reducible repeat (first | refine blk_drewN ?_ _ | refine blk_drew ?_ | refine blk_alloc ?_ _)); exact BK179.out) hb); have n1_ := Aside0.mk (below_step (by repeat (first | (with_reducible first | exact HB.out | apply below_alloc | apply pw_below_drewN | apply below_drew1 | refine below_set ?_ GE179.out) | exact HB.out)) hb); clear BK179; clear HB; have BK179 := n0_; have HB := n1_; clear n0_ n1_; (try clear hb); (try clear hb2); (try clear hk); (try clear hi)) | ((with_reducible refine gate_callee (f := 32) rfl ?_); refine goesL_ (some 94) rfl rfl Tryd.func32 (by kernel_rfl) rfl #[.int .i64 (Int.tmod (Int.tmod (wrap64 (a0_0 + 62167219200)) 86400) 60), .int .i64 2] rfl (by (try simp only [List.map_toArray, List.map_cons, List.map_nil]); first | done | rfl | (simp only [List.length_drop, List.length_take]; rfl) | (simp only [Int.tmod_tmod_of_dvd _ (show (60 : Int) ∣ 86400 by decide)]; rfl)) ?_; (with_reducible refine (broadsheetref11_pad.calls kj16 (Int.tmod (Int.tmod (wrap64 (a0_0 + 62167219200)) 86400) 60) 2 t189 _ A36.out).mono ?_); rintro e w46 ⟨rfl, hb⟩; refine ⟨_, rfl, ?_⟩; have n0_ := Aside0.mk (blk_below (g := gb179) (o := .cells #[.int .i64 a0_0, .int .i64 a0_1] 24 (0, 0)) (by (with_reducible repeat (first | refine blk_drewN ?_ _ | refine blk_drew ?_ | refine blk_alloc ?_ _)); exact BK179.out) hb); have n1_ := Aside0.mk (below_step (by repeat (first | (with_reducible first | exact HB.out | apply below_alloc | apply pw_below_drewN | apply below_drew1 | refine below_set ?_ GE179.out) | exact HB.out)) hb); clear BK179; clear HB; have BK179 := n0_; have HB := n1_; clear n0_ n1_; (try clear hb); (try clear hb2); (try clear hk); (try clear hi); have hcz47_0 : w46.cell? ⟨gb179, 0, none⟩ = some (.int .i64 a0_0) := (blk_cell BK179.out 0).trans rfl; have hcz47_1 : w46.cell? ⟨gb179, 1, none⟩ = some (.int .i64 a0_1) := (blk_cell BK179.out 1).trans rfl; have hfz47_0 := blk_frozen BK179.out 0; have hfz47_1 := blk_frozen BK179.out 1) | ((with_reducible refine gate_callee (f := 32) rfl ?_); refine goesL_ (some 101) rfl rfl Tryd.func32 (by kernel_rfl) rfl #[.int .i64 a0_1, .int .i64 9] rfl (by (try simp only [List.map_toArray, List.map_cons, List.map_nil]); first | done | rfl | (simp only [List.length_drop, List.length_take]; rfl) | (simp only [Int.tmod_tmod_of_dvd _ (show (60 : Int) ∣ 86400 by decide)]; rfl)) ?_; (with_reducible refine (broadsheetref11_pad.calls kj16 a0_1 9 t190 _ A39.out).mono ?_); rintro e w48 ⟨rfl, hb⟩; refine ⟨_, rfl, ?_⟩; have n0_ := Aside0.mk (blk_below (g := gb179) (o := .cells #[.int .i64 a0_0, .int .i64 a0_1] 24 (0, 0)) (by (with_reducible repeat (first | refine blk_drewN ?_ _ | refine blk_drew ?_ | refine blk_alloc ?_ _)); exact BK179.out) hb); have n1_ := Aside0.mk (below_step (by repeat (first | (with_reducible first | exact HB.out | apply below_alloc | apply pw_below_drewN | apply below_drew1 | refine below_set ?_ GE179.out) | exact HB.out)) hb); clear BK179; clear HB; have BK179 := n0_; have HB := n1_; clear n0_ n1_; (try clear hb); (try clear hb2); (try clear hk); (try clear hi)))
                                              go_loopg [10] kj16 (fun kq v10 w' => ∃ (x10_5 : ByteArray), v10 = .string x10_5 ∧ Aside0 (broadsheetref11_Print.l3 kq ((((((((((t184 ++ (⟨#[45]⟩ : ByteArray)) ++ t185) ++ (⟨#[45]⟩ : ByteArray)) ++ t186) ++ (⟨#[84]⟩ : ByteArray)) ++ t187) ++ (⟨#[58]⟩ : ByteArray)) ++ t188) ++ (⟨#[58]⟩ : ByteArray)) ++ t189) x10_5 = some (r1, r2)) ∧ Aside0 (kq ≤ kj16) ∧ Aside0 (w'.heap[gb179]? = some (.cells #[.int .i64 a0_0, .int .i64 a0_1] 24 (0, 0))) ∧ Aside0 (Below w.heap.size w w'))
                                              case atStart => exact ⟨(t190), (by first | rfl | (simp; done) | (simp [*]; done)), H', ⟨Nat.le_refl _⟩, ⟨by (with_reducible repeat (first | refine blk_drewN ?_ _ | refine blk_drew ?_ | refine blk_alloc ?_ _)); exact BK179.out⟩, ⟨by repeat (first | (with_reducible first | exact HB.out | apply below_alloc | apply pw_below_drewN | apply below_drew1 | refine below_set ?_ GE179.out) | exact HB.out)⟩⟩
                                              case round =>
                                                clear H'
                                                try clear c1
                                                try clear c2
                                                try clear p2
                                                try clear c3
                                                try clear c4
                                                try clear c4b0
                                                try clear c6
                                                try clear c6b0
                                                try clear p6
                                                try clear c8
                                                try clear c8b0
                                                try clear c11
                                                try clear c14
                                                try clear c14b0
                                                try clear c16
                                                try clear c16b0
                                                try clear c18
                                                try clear c18b0
                                                try clear c20
                                                try clear c20b0
                                                try clear c23
                                                try clear c23b0
                                                try clear c23b1
                                                try clear c23b2
                                                try clear c25
                                                try clear c25b0
                                                try clear c25b1
                                                try clear c25b2
                                                try clear c26
                                                try clear c26b0
                                                try clear c26b1
                                                try clear c26b2
                                                try clear c28
                                                try clear c28b0
                                                try clear c28b1
                                                try clear c28b2
                                                try clear c29
                                                try clear c29b0
                                                try clear c29b1
                                                try clear c29b2
                                                try clear c31
                                                try clear c31b0
                                                try clear c31b1
                                                try clear c31b2
                                                try clear c32
                                                try clear c32b0
                                                try clear c32b1
                                                try clear c32b2
                                                try clear c34
                                                try clear c34b0
                                                try clear c34b1
                                                try clear c34b2
                                                try clear c35
                                                try clear c35b0
                                                try clear c35b1
                                                try clear c35b2
                                                try clear c37
                                                try clear c37b0
                                                try clear c37b1
                                                try clear c37b2
                                                try clear c38
                                                try clear c38b0
                                                try clear hcz10_0
                                                try clear hcz10_1
                                                try clear hcz12_0
                                                try clear hcz12_1
                                                try clear hcz40_0
                                                try clear hcz40_1
                                                try clear hcz47_0
                                                try clear hcz47_1
                                                try clear hcz5_0
                                                try clear hcz5_1
                                                try clear hcz7_0
                                                try clear hcz7_1
                                                try clear hcz9_0
                                                try clear hcz9_1
                                                try clear hfz10_0
                                                try clear hfz10_1
                                                try clear hfz12_0
                                                try clear hfz12_1
                                                try clear hfz40_0
                                                try clear hfz40_1
                                                try clear hfz47_0
                                                try clear hfz47_1
                                                try clear hfz5_0
                                                try clear hfz5_1
                                                try clear hfz7_0
                                                try clear hfz7_1
                                                try clear hfz9_0
                                                try clear hfz9_1
                                                try clear p2
                                                try clear p6
                                                obtain ⟨x10_5, rfl, HA, HK5, BK179, HB⟩ := hrel
                                                cases gk with
                                                | zero => exact absurd HA.out (by simp [broadsheetref11_Print.l3])
                                                | succ k5 =>
                                                  have H := HA.out
                                                  clear HA
                                                  simp only [broadsheetref11_Print.l3] at H
                                                  obtain ⟨ji49, hji49⟩ : ∃ j_ : Int, (wrap64 ((x10_5.size : Int) - 1)) = j_ := ⟨_, rfl⟩
                                                  replace H : (if 0 ≤ (ji49) then (if (ji49) < (x10_5.size : Int) then (if (bt x10_5 (ji49)) = 48 then (if (ji49) ≤ (x10_5.size : Int) then (broadsheetref11_Print.l3 k5 ((((((((((t184 ++ (⟨#[45]⟩ : ByteArray)) ++ t185) ++ (⟨#[45]⟩ : ByteArray)) ++ t186) ++ (⟨#[84]⟩ : ByteArray)) ++ t187) ++ (⟨#[58]⟩ : ByteArray)) ++ t188) ++ (⟨#[58]⟩ : ByteArray)) ++ t189) (x10_5.extract 0 ((ji49) : Int).toNat)) else (none)) else (if ((((((((((t184 ++ (⟨#[45]⟩ : ByteArray)) ++ t185) ++ (⟨#[45]⟩ : ByteArray)) ++ t186) ++ (⟨#[84]⟩ : ByteArray)) ++ t187) ++ (⟨#[58]⟩ : ByteArray)) ++ t188) ++ (⟨#[58]⟩ : ByteArray)) ++ t189).size + 1 ≤ 9223372036854775807 then (if (((((((((((t184 ++ (⟨#[45]⟩ : ByteArray)) ++ t185) ++ (⟨#[45]⟩ : ByteArray)) ++ t186) ++ (⟨#[84]⟩ : ByteArray)) ++ t187) ++ (⟨#[58]⟩ : ByteArray)) ++ t188) ++ (⟨#[58]⟩ : ByteArray)) ++ t189) ++ (⟨#[46]⟩ : ByteArray)).size + x10_5.size ≤ 9223372036854775807 then (if ((((((((((((t184 ++ (⟨#[45]⟩ : ByteArray)) ++ t185) ++ (⟨#[45]⟩ : ByteArray)) ++ t186) ++ (⟨#[84]⟩ : ByteArray)) ++ t187) ++ (⟨#[58]⟩ : ByteArray)) ++ t188) ++ (⟨#[58]⟩ : ByteArray)) ++ t189) ++ (⟨#[46]⟩ : ByteArray)) ++ x10_5).size + 1 ≤ 9223372036854775807 then (some (((((((((((((t184 ++ (⟨#[45]⟩ : ByteArray)) ++ t185) ++ (⟨#[45]⟩ : ByteArray)) ++ t186) ++ (⟨#[84]⟩ : ByteArray)) ++ t187) ++ (⟨#[58]⟩ : ByteArray)) ++ t188) ++ (⟨#[58]⟩ : ByteArray)) ++ t189) ++ (⟨#[46]⟩ : ByteArray)) ++ x10_5) ++ (⟨#[90]⟩ : ByteArray), 0)) else (none)) else (none)) else (none))) else (none)) else (none)) = some (r1, r2) := by first | (rw [hji49] at H; exact H) | (simp only [hji49] at H ⊢; exact H)
                                                  have hji49w : (IntKind.i64.wrap ((x10_5.size : Int) - 1)) = ji49 := (i64_w _).trans hji49
                                                  by_cases c50 : 0 ≤ (ji49)
                                                  · rw [if_pos c50] at H
                                                    have c50b0 : decide (0 ≤ (ji49)) = true := decide_eq_true c50
                                                    clear c50
                                                    by_cases c51 : (ji49) < (x10_5.size : Int)
                                                    · rw [if_pos c51] at H
                                                      have c51b0 : decide ((ji49) < (x10_5.size : Int)) = true := decide_eq_true c51
                                                      clear c51
                                                      by_cases c53 : (bt x10_5 (ji49)) = 48
                                                      · rw [if_pos c53] at H
                                                        have c53b0 : ((bt x10_5 (ji49)) == 48) = true := beq_iff_eq.mpr c53
                                                        have c53b1 : ((bt x10_5 (ji49)) != 48) = false := bne_eq_false_iff_eq.mpr c53
                                                        clear c53
                                                        have c54b0 := eq_true (of_decide_eq_true (by first | (with_reducible assumption) | assumption) : 0 ≤ (ji49))
                                                        by_cases c55 : (ji49) ≤ (x10_5.size : Int)
                                                        · rw [if_pos c55] at H
                                                          have c55b0 := eq_true c55
                                                          have c55b1 : decide ((ji49) ≤ (x10_5.size : Int)) = true := decide_eq_true c55
                                                          clear c55
                                                          have H' := Aside0.mk H
                                                          clear H
                                                          have p52 : 0 ≤ ((ji49) : Int) := of_decide_eq_true (by first | (with_reducible assumption) | assumption)
                                                          have q52 : (ji49) < (x10_5.size : Int) := of_decide_eq_true (by first | (with_reducible assumption) | assumption)
                                                          have hx52 := bt_at x10_5 (ji49)
                                                          replace p52 := eq_true p52
                                                          replace q52 := eq_true q52
                                                          go_wp2
                                                          go_roundg k5
                                                          case measure => have := HJ1.out; have := HK2.out; have := HK3.out; have := HJ16.out; have := HK5.out; omega
                                                          case rel => exact ⟨(x10_5.extract 0 ((ji49) : Int).toNat), (by first | rfl | (simp; done) | (simp only [← hji49] <;> (first | rfl | simp)) | (simp [*]; done)), H', ⟨by have := HJ1.out; have := HK2.out; have := HK3.out; have := HJ16.out; have := HK5.out; omega⟩, ⟨by (with_reducible repeat (first | refine blk_drewN ?_ _ | refine blk_drew ?_ | refine blk_alloc ?_ _)); exact BK179.out⟩, ⟨by repeat (first | (with_reducible first | exact HB.out | apply below_alloc | apply pw_below_drewN | apply below_drew1 | refine below_set ?_ GE179.out) | exact HB.out)⟩⟩
                                                        · rw [if_neg c55] at H
                                                          exact absurd H (by simp)
                                                      · rw [if_neg c53] at H
                                                        have c53b0 : ((bt x10_5 (ji49)) == 48) = false := beq_eq_false_iff_ne.mpr c53
                                                        have c53b1 : ((bt x10_5 (ji49)) != 48) = true := bne_iff_ne.mpr c53
                                                        by_cases c56 : ((((((((((t184 ++ (⟨#[45]⟩ : ByteArray)) ++ t185) ++ (⟨#[45]⟩ : ByteArray)) ++ t186) ++ (⟨#[84]⟩ : ByteArray)) ++ t187) ++ (⟨#[58]⟩ : ByteArray)) ++ t188) ++ (⟨#[58]⟩ : ByteArray)) ++ t189).size + 1 ≤ 9223372036854775807
                                                        · rw [if_pos c56] at H
                                                          have c56b0 := eq_true c56
                                                          have c56b1 : decide (((((((((((t184 ++ (⟨#[45]⟩ : ByteArray)) ++ t185) ++ (⟨#[45]⟩ : ByteArray)) ++ t186) ++ (⟨#[84]⟩ : ByteArray)) ++ t187) ++ (⟨#[58]⟩ : ByteArray)) ++ t188) ++ (⟨#[58]⟩ : ByteArray)) ++ t189).size + 1 ≤ 9223372036854775807) = true := decide_eq_true c56
                                                          try have c56b2 : (9223372036854775807 < ((((((((((t184 ++ (⟨#[45]⟩ : ByteArray)) ++ t185) ++ (⟨#[45]⟩ : ByteArray)) ++ t186) ++ (⟨#[84]⟩ : ByteArray)) ++ t187) ++ (⟨#[58]⟩ : ByteArray)) ++ t188) ++ (⟨#[58]⟩ : ByteArray)) ++ t189).size + 1) = False := eq_false (Nat.not_lt.2 c56)
                                                          try have c56b3 : (9223372036854775807 < t184.size + 1 + t185.size + 1 + t186.size + 1 + t187.size + 1 + t188.size + 1 + t189.size + 1) = False := eq_false (by have h_ := c56; simp only [ByteArray.size_append] at h_; exact Nat.not_lt.2 h_)
                                                          by_cases c57 : (((((((((((t184 ++ (⟨#[45]⟩ : ByteArray)) ++ t185) ++ (⟨#[45]⟩ : ByteArray)) ++ t186) ++ (⟨#[84]⟩ : ByteArray)) ++ t187) ++ (⟨#[58]⟩ : ByteArray)) ++ t188) ++ (⟨#[58]⟩ : ByteArray)) ++ t189) ++ (⟨#[46]⟩ : ByteArray)).size + x10_5.size ≤ 9223372036854775807
                                                          · rw [if_pos c57] at H
                                                            have c57b0 := eq_true c57
                                                            have c57b1 : decide ((((((((((((t184 ++ (⟨#[45]⟩ : ByteArray)) ++ t185) ++ (⟨#[45]⟩ : ByteArray)) ++ t186) ++ (⟨#[84]⟩ : ByteArray)) ++ t187) ++ (⟨#[58]⟩ : ByteArray)) ++ t188) ++ (⟨#[58]⟩ : ByteArray)) ++ t189) ++ (⟨#[46]⟩ : ByteArray)).size + x10_5.size ≤ 9223372036854775807) = true := decide_eq_true c57
                                                            try have c57b2 : (9223372036854775807 < (((((((((((t184 ++ (⟨#[45]⟩ : ByteArray)) ++ t185) ++ (⟨#[45]⟩ : ByteArray)) ++ t186) ++ (⟨#[84]⟩ : ByteArray)) ++ t187) ++ (⟨#[58]⟩ : ByteArray)) ++ t188) ++ (⟨#[58]⟩ : ByteArray)) ++ t189) ++ (⟨#[46]⟩ : ByteArray)).size + x10_5.size) = False := eq_false (Nat.not_lt.2 c57)
                                                            try have c57b3 : (9223372036854775807 < t184.size + 1 + t185.size + 1 + t186.size + 1 + t187.size + 1 + t188.size + 1 + t189.size + 1 + x10_5.size) = False := eq_false (by have h_ := c57; simp only [ByteArray.size_append] at h_; exact Nat.not_lt.2 h_)
                                                            by_cases c58 : ((((((((((((t184 ++ (⟨#[45]⟩ : ByteArray)) ++ t185) ++ (⟨#[45]⟩ : ByteArray)) ++ t186) ++ (⟨#[84]⟩ : ByteArray)) ++ t187) ++ (⟨#[58]⟩ : ByteArray)) ++ t188) ++ (⟨#[58]⟩ : ByteArray)) ++ t189) ++ (⟨#[46]⟩ : ByteArray)) ++ x10_5).size + 1 ≤ 9223372036854775807
                                                            · rw [if_pos c58] at H
                                                              have c58b0 := eq_true c58
                                                              have c58b1 : decide (((((((((((((t184 ++ (⟨#[45]⟩ : ByteArray)) ++ t185) ++ (⟨#[45]⟩ : ByteArray)) ++ t186) ++ (⟨#[84]⟩ : ByteArray)) ++ t187) ++ (⟨#[58]⟩ : ByteArray)) ++ t188) ++ (⟨#[58]⟩ : ByteArray)) ++ t189) ++ (⟨#[46]⟩ : ByteArray)) ++ x10_5).size + 1 ≤ 9223372036854775807) = true := decide_eq_true c58
                                                              try have c58b2 : (9223372036854775807 < ((((((((((((t184 ++ (⟨#[45]⟩ : ByteArray)) ++ t185) ++ (⟨#[45]⟩ : ByteArray)) ++ t186) ++ (⟨#[84]⟩ : ByteArray)) ++ t187) ++ (⟨#[58]⟩ : ByteArray)) ++ t188) ++ (⟨#[58]⟩ : ByteArray)) ++ t189) ++ (⟨#[46]⟩ : ByteArray)) ++ x10_5).size + 1) = False := eq_false (Nat.not_lt.2 c58)
                                                              try have c58b3 : (9223372036854775807 < t184.size + 1 + t185.size + 1 + t186.size + 1 + t187.size + 1 + t188.size + 1 + t189.size + 1 + x10_5.size + 1) = False := eq_false (by have h_ := c58; simp only [ByteArray.size_append] at h_; exact Nat.not_lt.2 h_)
                                                              simp only [Option.some.injEq, Prod.mk.injEq] at H
                                                              obtain ⟨rfl, rfl⟩ := H
                                                              have p52 : 0 ≤ ((ji49) : Int) := of_decide_eq_true (by first | (with_reducible assumption) | assumption)
                                                              have q52 : (ji49) < (x10_5.size : Int) := of_decide_eq_true (by first | (with_reducible assumption) | assumption)
                                                              have hx52 := bt_at x10_5 (ji49)
                                                              replace p52 := eq_true p52
                                                              replace q52 := eq_true q52
                                                              go_wp2
                                                              go_ret2
                                                              exact ⟨by first | rfl | (simp [errW_none, errW_some] <;> rfl) | (simp only [← hji49]; first | rfl | (simp [errW_none, errW_some] <;> rfl)) | (simp [*, errW_none, errW_some] <;> rfl), by repeat (first | (with_reducible first | exact HB.out | apply below_alloc | apply pw_below_drewN | apply below_drew1 | refine below_set ?_ GE179.out) | exact HB.out)⟩
                                                            · rw [if_neg c58] at H
                                                              exact absurd H (by simp)
                                                          · rw [if_neg c57] at H
                                                            exact absurd H (by simp)
                                                        · rw [if_neg c56] at H
                                                          exact absurd H (by simp)
                                                    · rw [if_neg c51] at H
                                                      exact absurd H (by simp)
                                                  · rw [if_neg c50] at H
                                                    exact absurd H (by simp)
                                            · rw [if_neg c38] at H
                                              have c38b0 : decide (0 < a0_1) = false := decide_eq_false c38
                                              clear c38
                                              by_cases c59 : ((((((((((t184 ++ (⟨#[45]⟩ : ByteArray)) ++ t185) ++ (⟨#[45]⟩ : ByteArray)) ++ t186) ++ (⟨#[84]⟩ : ByteArray)) ++ t187) ++ (⟨#[58]⟩ : ByteArray)) ++ t188) ++ (⟨#[58]⟩ : ByteArray)) ++ t189).size + 1 ≤ 9223372036854775807
                                              · rw [if_pos c59] at H
                                                have c59b0 := eq_true c59
                                                have c59b1 : decide (((((((((((t184 ++ (⟨#[45]⟩ : ByteArray)) ++ t185) ++ (⟨#[45]⟩ : ByteArray)) ++ t186) ++ (⟨#[84]⟩ : ByteArray)) ++ t187) ++ (⟨#[58]⟩ : ByteArray)) ++ t188) ++ (⟨#[58]⟩ : ByteArray)) ++ t189).size + 1 ≤ 9223372036854775807) = true := decide_eq_true c59
                                                try have c59b2 : (9223372036854775807 < ((((((((((t184 ++ (⟨#[45]⟩ : ByteArray)) ++ t185) ++ (⟨#[45]⟩ : ByteArray)) ++ t186) ++ (⟨#[84]⟩ : ByteArray)) ++ t187) ++ (⟨#[58]⟩ : ByteArray)) ++ t188) ++ (⟨#[58]⟩ : ByteArray)) ++ t189).size + 1) = False := eq_false (Nat.not_lt.2 c59)
                                                try have c59b3 : (9223372036854775807 < t184.size + 1 + t185.size + 1 + t186.size + 1 + t187.size + 1 + t188.size + 1 + t189.size + 1) = False := eq_false (by have h_ := c59; simp only [ByteArray.size_append] at h_; exact Nat.not_lt.2 h_)
                                                simp only [Option.some.injEq, Prod.mk.injEq] at H
                                                obtain ⟨rfl, rfl⟩ := H
                                                go_wp2_with (first | ((with_reducible refine gate_callee (f := 28) rfl ?_); refine goesL_ (some 63) rfl rfl Tryd.func28 (by kernel_rfl) rfl #[.int .i64 x5_3, .int .i64 x6_16, .int .i64 1] rfl (by (try simp only [List.map_toArray, List.map_cons, List.map_nil]); first | done | rfl | (simp only [List.length_drop, List.length_take]; rfl) | (simp only [Int.tmod_tmod_of_dvd _ (show (60 : Int) ∣ 86400 by decide)]; rfl)) ?_; (with_reducible refine (broadsheetref11_since.calls kj16 x5_3 x6_16 1 t183 _ A21.out).mono ?_); rintro e w' ⟨rfl, ⟨nd, rfl⟩⟩; refine ⟨_, rfl, ?_⟩; have hcz60_0 : wc.cell? ⟨gb179, 0, none⟩ = some (.int .i64 a0_0) := (blk_cell BK179.out 0).trans rfl; have hcz60_1 : wc.cell? ⟨gb179, 1, none⟩ = some (.int .i64 a0_1) := (blk_cell BK179.out 1).trans rfl; have hfz60_0 := blk_frozen BK179.out 0; have hfz60_1 := blk_frozen BK179.out 1) | ((with_reducible refine gate_callee (f := 32) rfl ?_); refine goesL_ (some 71) rfl rfl Tryd.func32 (by kernel_rfl) rfl #[.int .i64 x5_3, .int .i64 4] rfl (by (try simp only [List.map_toArray, List.map_cons, List.map_nil]); first | done | rfl | (simp only [List.length_drop, List.length_take]; rfl) | (simp only [Int.tmod_tmod_of_dvd _ (show (60 : Int) ∣ 86400 by decide)]; rfl)) ?_; (with_reducible refine (broadsheetref11_pad.calls kj16 x5_3 4 t184 _ A22.out).mono ?_); rintro e w61 ⟨rfl, hb⟩; refine ⟨_, rfl, ?_⟩; have n0_ := Aside0.mk (blk_below (g := gb179) (o := .cells #[.int .i64 a0_0, .int .i64 a0_1] 24 (0, 0)) (by (with_reducible repeat (first | refine blk_drewN ?_ _ | refine blk_drew ?_ | refine blk_alloc ?_ _)); exact BK179.out) hb); have n1_ := Aside0.mk (below_step (by repeat (first | (with_reducible first | exact HB.out | apply below_alloc | apply pw_below_drewN | apply below_drew1 | refine below_set ?_ GE179.out) | exact HB.out)) hb); clear BK179; clear HB; have BK179 := n0_; have HB := n1_; clear n0_ n1_; (try clear hb); (try clear hb2); (try clear hk); (try clear hi)) | ((with_reducible refine gate_callee (f := 32) rfl ?_); refine goesL_ (some 74) rfl rfl Tryd.func32 (by kernel_rfl) rfl #[.int .i64 x6_16, .int .i64 2] rfl (by (try simp only [List.map_toArray, List.map_cons, List.map_nil]); first | done | rfl | (simp only [List.length_drop, List.length_take]; rfl) | (simp only [Int.tmod_tmod_of_dvd _ (show (60 : Int) ∣ 86400 by decide)]; rfl)) ?_; (with_reducible refine (broadsheetref11_pad.calls kj16 x6_16 2 t185 _ A24.out).mono ?_); rintro e w62 ⟨rfl, hb⟩; refine ⟨_, rfl, ?_⟩; have n0_ := Aside0.mk (blk_below (g := gb179) (o := .cells #[.int .i64 a0_0, .int .i64 a0_1] 24 (0, 0)) (by (with_reducible repeat (first | refine blk_drewN ?_ _ | refine blk_drew ?_ | refine blk_alloc ?_ _)); exact BK179.out) hb); have n1_ := Aside0.mk (below_step (by repeat (first | (with_reducible first | exact HB.out | apply below_alloc | apply pw_below_drewN | apply below_drew1 | refine below_set ?_ GE179.out) | exact HB.out)) hb); clear BK179; clear HB; have BK179 := n0_; have HB := n1_; clear n0_ n1_; (try clear hb); (try clear hb2); (try clear hk); (try clear hi)) | ((with_reducible refine gate_callee (f := 32) rfl ?_); refine goesL_ (some 78) rfl rfl Tryd.func32 (by kernel_rfl) rfl #[.int .i64 (wrap64 ((wrap64 ((wrap64 ((wrap64 (Int.tdiv (wrap64 (a0_0 + 62167219200)) 86400)) - 719528)) - t183)) + 1)), .int .i64 2] rfl (by (try simp only [List.map_toArray, List.map_cons, List.map_nil]); first | done | rfl | (simp only [List.length_drop, List.length_take]; rfl) | (simp only [Int.tmod_tmod_of_dvd _ (show (60 : Int) ∣ 86400 by decide)]; rfl)) ?_; (with_reducible refine (broadsheetref11_pad.calls kj16 (wrap64 ((wrap64 ((wrap64 ((wrap64 (Int.tdiv (wrap64 (a0_0 + 62167219200)) 86400)) - 719528)) - t183)) + 1)) 2 t186 _ A27.out).mono ?_); rintro e w63 ⟨rfl, hb⟩; refine ⟨_, rfl, ?_⟩; have n0_ := Aside0.mk (blk_below (g := gb179) (o := .cells #[.int .i64 a0_0, .int .i64 a0_1] 24 (0, 0)) (by (with_reducible repeat (first | refine blk_drewN ?_ _ | refine blk_drew ?_ | refine blk_alloc ?_ _)); exact BK179.out) hb); have n1_ := Aside0.mk (below_step (by repeat (first | (with_reducible first | exact HB.out | apply below_alloc | apply pw_below_drewN | apply below_drew1 | refine below_set ?_ GE179.out) | exact HB.out)) hb); clear BK179; clear HB; have BK179 := n0_; have HB := n1_; clear n0_ n1_; (try clear hb); (try clear hb2); (try clear hk); (try clear hi)) | ((with_reducible refine gate_callee (f := 32) rfl ?_); refine goesL_ (some 83) rfl rfl Tryd.func32 (by kernel_rfl) rfl #[.int .i64 (wrap64 (Int.tdiv (Int.tmod (wrap64 (a0_0 + 62167219200)) 86400) 3600)), .int .i64 2] rfl (by (try simp only [List.map_toArray, List.map_cons, List.map_nil]); first | done | rfl | (simp only [List.length_drop, List.length_take]; rfl) | (simp only [Int.tmod_tmod_of_dvd _ (show (60 : Int) ∣ 86400 by decide)]; rfl)) ?_; (with_reducible refine (broadsheetref11_pad.calls kj16 (wrap64 (Int.tdiv (Int.tmod (wrap64 (a0_0 + 62167219200)) 86400) 3600)) 2 t187 _ A30.out).mono ?_); rintro e w64 ⟨rfl, hb⟩; refine ⟨_, rfl, ?_⟩; have n0_ := Aside0.mk (blk_below (g := gb179) (o := .cells #[.int .i64 a0_0, .int .i64 a0_1] 24 (0, 0)) (by (with_reducible repeat (first | refine blk_drewN ?_ _ | refine blk_drew ?_ | refine blk_alloc ?_ _)); exact BK179.out) hb); have n1_ := Aside0.mk (below_step (by repeat (first | (with_reducible first | exact HB.out | apply below_alloc | apply pw_below_drewN | apply below_drew1 | refine below_set ?_ GE179.out) | exact HB.out)) hb); clear BK179; clear HB; have BK179 := n0_; have HB := n1_; clear n0_ n1_; (try clear hb); (try clear hb2); (try clear hk); (try clear hi)) | ((with_reducible refine gate_callee (f := 32) rfl ?_); refine goesL_ (some 89) rfl rfl Tryd.func32 (by kernel_rfl) rfl #[.int .i64 (Int.tmod (wrap64 (Int.tdiv (Int.tmod (wrap64 (a0_0 + 62167219200)) 86400) 60)) 60), .int .i64 2] rfl (by (try simp only [List.map_toArray, List.map_cons, List.map_nil]); first | done | rfl | (simp only [List.length_drop, List.length_take]; rfl) | (simp only [Int.tmod_tmod_of_dvd _ (show (60 : Int) ∣ 86400 by decide)]; rfl)) ?_; (with_reducible refine (broadsheetref11_pad.calls kj16 (Int.tmod (wrap64 (Int.tdiv (Int.tmod (wrap64 (a0_0 + 62167219200)) 86400) 60)) 60) 2 t188 _ A33.out).mono ?_); rintro e w65 ⟨rfl, hb⟩; refine ⟨_, rfl, ?_⟩; have n0_ := Aside0.mk (blk_below (g := gb179) (o := .cells #[.int .i64 a0_0, .int .i64 a0_1] 24 (0, 0)) (by (with_reducible repeat (first | refine blk_drewN ?_ _ | refine blk_drew ?_ | refine blk_alloc ?_ _)); exact BK179.out) hb); have n1_ := Aside0.mk (below_step (by repeat (first | (with_reducible first | exact HB.out | apply below_alloc | apply pw_below_drewN | apply below_drew1 | refine below_set ?_ GE179.out) | exact HB.out)) hb); clear BK179; clear HB; have BK179 := n0_; have HB := n1_; clear n0_ n1_; (try clear hb); (try clear hb2); (try clear hk); (try clear hi)) | ((with_reducible refine gate_callee (f := 32) rfl ?_); refine goesL_ (some 94) rfl rfl Tryd.func32 (by kernel_rfl) rfl #[.int .i64 (Int.tmod (Int.tmod (wrap64 (a0_0 + 62167219200)) 86400) 60), .int .i64 2] rfl (by (try simp only [List.map_toArray, List.map_cons, List.map_nil]); first | done | rfl | (simp only [List.length_drop, List.length_take]; rfl) | (simp only [Int.tmod_tmod_of_dvd _ (show (60 : Int) ∣ 86400 by decide)]; rfl)) ?_; (with_reducible refine (broadsheetref11_pad.calls kj16 (Int.tmod (Int.tmod (wrap64 (a0_0 + 62167219200)) 86400) 60) 2 t189 _ A36.out).mono ?_); rintro e w66 ⟨rfl, hb⟩; refine ⟨_, rfl, ?_⟩; have n0_ := Aside0.mk (blk_below (g := gb179) (o := .cells #[.int .i64 a0_0, .int .i64 a0_1] 24 (0, 0)) (by (with_reducible repeat (first | refine blk_drewN ?_ _ | refine blk_drew ?_ | refine blk_alloc ?_ _)); exact BK179.out) hb); have n1_ := Aside0.mk (below_step (by repeat (first | (with_reducible first | exact HB.out | apply below_alloc | apply pw_below_drewN | apply below_drew1 | refine below_set ?_ GE179.out) | exact HB.out)) hb); clear BK179; clear HB; have BK179 := n0_; have HB := n1_; clear n0_ n1_; (try clear hb); (try clear hb2); (try clear hk); (try clear hi); have hcz67_0 : w66.cell? ⟨gb179, 0, none⟩ = some (.int .i64 a0_0) := (blk_cell BK179.out 0).trans rfl; have hcz67_1 : w66.cell? ⟨gb179, 1, none⟩ = some (.int .i64 a0_1) := (blk_cell BK179.out 1).trans rfl; have hfz67_0 := blk_frozen BK179.out 0; have hfz67_1 := blk_frozen BK179.out 1))
                                                go_ret2
                                                exact ⟨by first | rfl | (simp [errW_none, errW_some] <;> rfl) | (simp [*, errW_none, errW_some] <;> rfl), by repeat (first | (with_reducible first | exact HB.out | apply below_alloc | apply pw_below_drewN | apply below_drew1 | refine below_set ?_ GE179.out) | exact HB.out)⟩
                                              · rw [if_neg c59] at H
                                                exact absurd H (by simp)
                                          · rw [if_neg c37] at H
                                            exact absurd H (by simp)
                                        · rw [if_neg c35] at H
                                          exact absurd H (by simp)
                                      · rw [if_neg c34] at H
                                        exact absurd H (by simp)
                                    · rw [if_neg c32] at H
                                      exact absurd H (by simp)
                                  · rw [if_neg c31] at H
                                    exact absurd H (by simp)
                                · rw [if_neg c29] at H
                                  exact absurd H (by simp)
                              · rw [if_neg c28] at H
                                exact absurd H (by simp)
                            · rw [if_neg c26] at H
                              exact absurd H (by simp)
                          · rw [if_neg c25] at H
                            exact absurd H (by simp)
                        · rw [if_neg c23] at H
                          exact absurd H (by simp)

end Go.Proofs.YtfcmdameiabjmaaDoor.Pr
