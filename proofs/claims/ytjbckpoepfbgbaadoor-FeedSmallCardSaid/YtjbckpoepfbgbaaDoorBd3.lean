/- 8 texts in one file: Prx8, Cal, Fun, Dig, Num, Pri, Since, Prx6. -/
import Derived.Test.YtjbckpoepfbgbaaDoorBd2
import Derived.Test.YtjbckpoepfbgbaaDoorPrx5
import Derived.RowKit
import Derived.Lib.ItoaLen
import Derived.Lib.Strings
import Derived.Lib.Hide
import Derived.Test.YtjbckpoepfbgbaaDoorBd0
import Derived.Test.YtjbckpoepfbgbaaDoorPrx3
section
-- Written by given.py, a program of this session, over the kit's printer.
namespace Go.Proofs.YtjbckpoepfbgbaaDoor.Pr
open Go.RowKit Go.Proofs.YtjbckpoepfbgbaaDoorW.PrintWords Go.Proofs.YtjbckpoepfbgbaaDoorW.PrintLast Go.Proofs.YtjbckpoepfbgbaaDoorW.PrintMore
attribute [local go_sem] max2_int min2_int max_two min_two max_three min_three max_four min_four
set_option linter.unusedVariables false
set_option linter.unusedSimpArgs false
def broadsheetref16_El.f (a0 : ByteArray) (a1 : ByteArray) (a2 : ByteArray) : Option (Int × ByteArray × ByteArray × (List (S61)) × (List (S28)) × ByteArray) := some (0, a0, a1, ([] : List (S61)), (([(⟨1, (⟨#[]⟩ : ByteArray), (⟨#[]⟩ : ByteArray), ([] : List (S61)), ([] : List (S28)), a2⟩ : S28)] : List (S28))), (⟨#[]⟩ : ByteArray))
set_option maxHeartbeats 8000000 in
set_option maxRecDepth 100000 in
theorem broadsheetref16_El.calls (a0 : ByteArray) (a1 : ByteArray) (a2 : ByteArray) (r1 : Int) (r2 : ByteArray) (r3 : ByteArray) (r4 : List (S61)) (r5 : List (S28)) (r6 : ByteArray) (w : World) (h : broadsheetref16_El.f a0 a1 a2 = some (r1, r2, r3, r4, r5, r6)) :
    Calls Tryd.prog 29 #[.string a0, .string a1, .string a2] w fun e w' => ∃ v3_ v4_ : Value, e = .returned (.agg #[.int .i64 r1, .string r2, .string r3, v3_, v4_, .string r6]) ∧ Kd.R k61 61 w' w.heap.size (fun _ => True) v3_ r4 ∧ Kd.R k28 28 w' w.heap.size (fun k_ => some k_ ≠ (v3_ : Value).ownBlock) v4_ r5 ∧ Below w.heap.size w w' := by
  have hu28 := Tryd.underlying28
  have HB := Aside0.mk (Below.refl w.heap.size w)
  have H : (some (0, a0, a1, ([] : List (S61)), (([(⟨1, (⟨#[]⟩ : ByteArray), (⟨#[]⟩ : ByteArray), ([] : List (S61)), ([] : List (S28)), a2⟩ : S28)] : List (S28))), (⟨#[]⟩ : ByteArray))) = some (r1, r2, r3, r4, r5, r6) := h
  clear h
  obtain ⟨y339, hy339⟩ : ∃ y_ : List (S28), y_ = (([(⟨1, (⟨#[]⟩ : ByteArray), (⟨#[]⟩ : ByteArray), ([] : List (S61)), ([] : List (S28)), a2⟩ : S28)] : List (S28))) := ⟨_, rfl⟩
  replace H : (some (0, a0, a1, ([] : List (S61)), y339, (⟨#[]⟩ : ByteArray))) = some (r1, r2, r3, r4, r5, r6) := by first | (rw [hy339]; with_reducible exact H) | (have H2_ := (Option.bind_some _ _).symm.trans H; rw [hy339]; with_reducible exact H2_) | (have H2_ := (Option.bind_some _ _).symm.trans H; with_reducible exact H2_) | with_reducible exact H | (rw [hy339]; exact H) | exact H
  have Ny339 := Aside0.mk hy339
  clear hy339
  simp only [Option.some.injEq, Prod.mk.injEq] at H
  obtain ⟨rfl, rfl, rfl, rfl, rfl, rfl⟩ := H
  go_enter Tryd.func29, Tryd.ntmps29
  go_wp2_with (first | ((with_reducible refine gate_dst (N := 6) rfl ?_); refine box_event ?hg (N := 6) ?hd (cs := #[.int .i64 0, .string (⟨#[]⟩ : ByteArray), .string (⟨#[]⟩ : ByteArray), .slice none 0 0, .slice none 0 0, .string (⟨#[]⟩ : ByteArray)]) (t := 28) ?hr ?_; (case hd => rfl); (case hg => rfl); (case hr => first | (go_simp; done) | (go_simp; rfl)); intro gb338 hg w4 hbox hb; have n0_ := Aside0.mk (below_step (by repeat (first | (with_reducible first | exact HB.out | apply below_alloc | apply pw_below_drewN | apply below_drew1) | exact HB.out)) hb); have n1_ := Aside0.mk (hbox); have n2_ := Aside0.mk ((by rw [hg]; exact (below_size (by repeat (first | (with_reducible first | exact HB.out | apply below_alloc | apply pw_below_drewN | apply below_drew1) | exact HB.out))) : w.heap.size ≤ gb338)); have n3_ := Aside0.mk ((by rw [hg]; exact (below_size (by repeat (first | (with_reducible first | exact HB.out | apply below_alloc | apply pw_below_drewN | apply below_drew1) | exact HB.out))) : w.heap.size ≤ gb338)); clear HB; have HB := n0_; have BK338 := n1_; have GW338 := n2_; have GE338 := n3_; clear n0_ n1_ n2_ n3_; clear hb hbox hg) | ((with_reducible refine gate_dst (N := 11) rfl ?_); refine Kd.R_lit k28 _ 28 ?hg (N := 11) ?hd (xs := ([(⟨1, (⟨#[]⟩ : ByteArray), (⟨#[]⟩ : ByteArray), ([] : List (S61)), ([] : List (S28)), a2⟩ : S28)] : List (S28))) (inner := [.int .i64 1, .string (⟨#[]⟩ : ByteArray), .string (⟨#[]⟩ : ByteArray), .slice none 0 0, .slice none 0 0, .string a2]) (ok := fun _ => True) (okp := fun _ => True) ?hr ?hp (fun _ hk => hk) trivial (Below.refl _ _) (Nat.le_refl _) (by simp) ?_; (case hd => rfl); (case hg => rfl); (case hr => first | (go_simp; done) | (go_simp; rfl)); (case hp => exact (Reps.c6 (show Kd.M k28 _ _ _ (⟨1, (⟨#[]⟩ : ByteArray), (⟨#[]⟩ : ByteArray), ([] : List (S61)), ([] : List (S28)), a2⟩ : S28) [.int .i64 1, .string (⟨#[]⟩ : ByteArray), .string (⟨#[]⟩ : ByteArray), .slice none 0 0, .slice none 0 0, .string a2] from (k28_mkM _ _ _ (⟨1, (⟨#[]⟩ : ByteArray), (⟨#[]⟩ : ByteArray), ([] : List (S61)), ([] : List (S28)), a2⟩ : S28) (Kd.R_nil _ _ _ _ _) (Kd.R_nil _ _ _ _ _))) (Reps.none _ _))); intro v340 w5 ho6 hb hg_ hnew_; clear hg_ hnew_; (first | rw [← Ny339.out] at ho6 | (simp only [Int.reduceToNat] at ho6; rw [← Ny339.out] at ho6)); have n0_ := Aside0.mk (Kd.R_lower (Kd.R_newB ho6 (g := gb338) (o := .cells #[.int .i64 0, .string (⟨#[]⟩ : ByteArray), .string (⟨#[]⟩ : ByteArray), .slice none 0 0, .slice none 0 0, .string (⟨#[]⟩ : ByteArray)] 28 (0, 0)) (by (with_reducible repeat (first | refine blk_drewN ?_ _ | refine blk_drew ?_ | refine blk_alloc ?_ _)); exact BK338.out)) (below_size (by repeat (first | (with_reducible first | exact HB.out | apply below_alloc | apply pw_below_drewN | apply below_drew1 | refine below_set ?_ GE338.out) | exact HB.out)))); have n1_ := Aside0.mk (blk_below (g := gb338) (o := .cells #[.int .i64 0, .string (⟨#[]⟩ : ByteArray), .string (⟨#[]⟩ : ByteArray), .slice none 0 0, .slice none 0 0, .string (⟨#[]⟩ : ByteArray)] 28 (0, 0)) (by (with_reducible repeat (first | refine blk_drewN ?_ _ | refine blk_drew ?_ | refine blk_alloc ?_ _)); exact BK338.out) hb); have n2_ := Aside0.mk (below_step (by repeat (first | (with_reducible first | exact HB.out | apply below_alloc | apply pw_below_drewN | apply below_drew1 | refine below_set ?_ GE338.out) | exact HB.out)) hb); clear BK338; clear HB; have HO341 := n0_; have BK338 := n1_; have HB := n2_; clear n0_ n1_ n2_; clear hb ho6; obtain ⟨Ao7, co7, eo7⟩ := Kd.R_slice HO341.out; subst eo7; have hcz8_0 : w5.cell? ⟨gb338, 0, none⟩ = some (.int .i64 0) := (blk_cell BK338.out 0).trans rfl; have hcz8_1 : w5.cell? ⟨gb338, 1, none⟩ = some (.string (⟨#[]⟩ : ByteArray)) := (blk_cell BK338.out 1).trans rfl; have hcz8_2 : w5.cell? ⟨gb338, 2, none⟩ = some (.string (⟨#[]⟩ : ByteArray)) := (blk_cell BK338.out 2).trans rfl; have hcz8_3 : w5.cell? ⟨gb338, 3, none⟩ = some (.slice none 0 0) := (blk_cell BK338.out 3).trans rfl; have hcz8_4 : w5.cell? ⟨gb338, 4, none⟩ = some (.slice none 0 0) := (blk_cell BK338.out 4).trans rfl; have hcz8_5 : w5.cell? ⟨gb338, 5, none⟩ = some (.string (⟨#[]⟩ : ByteArray)) := (blk_cell BK338.out 5).trans rfl; have hfz8_0 := blk_frozen BK338.out 0; have hfz8_1 := blk_frozen BK338.out 1; have hfz8_2 := blk_frozen BK338.out 2; have hfz8_3 := blk_frozen BK338.out 3; have hfz8_4 := blk_frozen BK338.out 4; have hfz8_5 := blk_frozen BK338.out 5))
  refine bodyPost_ret (results_cell_row rfl _ _ gb338 28 #[.int .i64 0, .string a0, .string a1, .slice none 0 0, .slice Ao7 y339.length co7, .string (⟨#[]⟩ : ByteArray)] (0, 0) _ rfl (by (with_reducible repeat (first | refine blk_drewN ?_ _ | refine blk_drew ?_ | refine blk_alloc ?_ _)); refine blk_put (cs := #[.int .i64 0, .string a0, .string a1, .slice none 0 0, .slice Ao7 y339.length co7, .string (⟨#[]⟩ : ByteArray)]) ?_ 5 _ rfl; (with_reducible repeat (first | refine blk_drewN ?_ _ | refine blk_drew ?_ | refine blk_alloc ?_ _)); refine blk_put (cs := #[.int .i64 0, .string a0, .string a1, .slice none 0 0, .slice none 0 0, .string (⟨#[]⟩ : ByteArray)]) ?_ 4 _ rfl; (with_reducible repeat (first | refine blk_drewN ?_ _ | refine blk_drew ?_ | refine blk_alloc ?_ _)); refine blk_put (cs := #[.int .i64 0, .string a0, .string a1, .slice none 0 0, .slice none 0 0, .string (⟨#[]⟩ : ByteArray)]) ?_ 3 _ rfl; (with_reducible repeat (first | refine blk_drewN ?_ _ | refine blk_drew ?_ | refine blk_alloc ?_ _)); refine blk_put (cs := #[.int .i64 0, .string a0, .string (⟨#[]⟩ : ByteArray), .slice none 0 0, .slice none 0 0, .string (⟨#[]⟩ : ByteArray)]) ?_ 2 _ rfl; (with_reducible repeat (first | refine blk_drewN ?_ _ | refine blk_drew ?_ | refine blk_alloc ?_ _)); refine blk_put (cs := #[.int .i64 0, .string (⟨#[]⟩ : ByteArray), .string (⟨#[]⟩ : ByteArray), .slice none 0 0, .slice none 0 0, .string (⟨#[]⟩ : ByteArray)]) ?_ 1 _ rfl; (with_reducible repeat (first | refine blk_drewN ?_ _ | refine blk_drew ?_ | refine blk_alloc ?_ _)); refine blk_put (cs := #[.int .i64 0, .string (⟨#[]⟩ : ByteArray), .string (⟨#[]⟩ : ByteArray), .slice none 0 0, .slice none 0 0, .string (⟨#[]⟩ : ByteArray)]) ?_ 0 _ rfl; (with_reducible repeat (first | refine blk_drewN ?_ _ | refine blk_drew ?_ | refine blk_alloc ?_ _)); exact BK338.out) Tryd.underlying28 rfl (by kernel_rfl)) rfl ?_
  exact ⟨_, _, by first | rfl | (simp [errW_none, errW_some] <;> rfl) | (simp [*, errW_none, errW_some] <;> rfl), by first | exact Kd.R_nil _ _ _ _ _ | exact Kd.N_nil _ _ _ _ _ | exact Kd.V_nil _ _ _ _ _ | exact Kd.Q_nil _ _ _ _ _ | exact Kd.S_nil _ _ _ _ _, by (with_reducible repeat (first | apply Kd.R_alloc | apply Kd.R_drewN | apply Kd.R_drew)); exact Kd.R_mono (Kd.R_far (p := ⟨gb338, 5, none⟩) (Kd.R_far (p := ⟨gb338, 4, none⟩) (Kd.R_far (p := ⟨gb338, 3, none⟩) (Kd.R_far (p := ⟨gb338, 2, none⟩) (Kd.R_far (p := ⟨gb338, 1, none⟩) (Kd.R_far (p := ⟨gb338, 0, none⟩) (Kd.R_mono HO341.out (fun k_ hk => (⟨hk, hk.2⟩ : _ ∧ k_ ≠ gb338))) (fun _ hk => hk.2) (.int .i64 0)) (fun _ hk => hk.2) (.string a0)) (fun _ hk => hk.2) (.string a1)) (fun _ hk => hk.2) (.slice none 0 0)) (fun _ hk => hk.2) (.slice Ao7 y339.length co7)) (fun _ hk => hk.2) (.string (⟨#[]⟩ : ByteArray))) (fun _ hk => (by simp [Value.ownBlock])), by repeat (first | (with_reducible first | exact HB.out | apply below_alloc | apply pw_below_drewN | apply below_drew1 | refine below_set ?_ GE338.out) | exact HB.out)⟩
def broadsheetref23_link.f (a0 : ByteArray) (a1 : ByteArray) : Option (Int × ByteArray × ByteArray × (List (S61)) × (List (S28)) × ByteArray) := some (0, (⟨#[104, 116, 116, 112, 58, 47, 47, 119, 119, 119, 46, 119, 51, 46, 111, 114, 103, 47, 50, 48, 48, 53, 47, 65, 116, 111, 109]⟩ : ByteArray), (⟨#[108, 105, 110, 107]⟩ : ByteArray), (([(⟨(⟨#[]⟩ : ByteArray), (⟨#[114, 101, 108]⟩ : ByteArray), a0⟩ : S61), (⟨(⟨#[]⟩ : ByteArray), (⟨#[104, 114, 101, 102]⟩ : ByteArray), a1⟩ : S61)] : List (S61))), ([] : List (S28)), (⟨#[]⟩ : ByteArray))
set_option maxHeartbeats 8000000 in
set_option maxRecDepth 100000 in
theorem broadsheetref23_link.calls (a0 : ByteArray) (a1 : ByteArray) (r1 : Int) (r2 : ByteArray) (r3 : ByteArray) (r4 : List (S61)) (r5 : List (S28)) (r6 : ByteArray) (w : World) (h : broadsheetref23_link.f a0 a1 = some (r1, r2, r3, r4, r5, r6)) :
    Calls Tryd.prog 30 #[.string a0, .string a1] w fun e w' => ∃ v3_ v4_ : Value, e = .returned (.agg #[.int .i64 r1, .string r2, .string r3, v3_, v4_, .string r6]) ∧ Kd.R k61 61 w' w.heap.size (fun _ => True) v3_ r4 ∧ Kd.R k28 28 w' w.heap.size (fun k_ => some k_ ≠ (v3_ : Value).ownBlock) v4_ r5 ∧ Below w.heap.size w w' := by
  have hu28 := Tryd.underlying28
  have hu61 := Tryd.underlying61
  have HB := Aside0.mk (Below.refl w.heap.size w)
  have H : (some (0, (⟨#[104, 116, 116, 112, 58, 47, 47, 119, 119, 119, 46, 119, 51, 46, 111, 114, 103, 47, 50, 48, 48, 53, 47, 65, 116, 111, 109]⟩ : ByteArray), (⟨#[108, 105, 110, 107]⟩ : ByteArray), (([(⟨(⟨#[]⟩ : ByteArray), (⟨#[114, 101, 108]⟩ : ByteArray), a0⟩ : S61), (⟨(⟨#[]⟩ : ByteArray), (⟨#[104, 114, 101, 102]⟩ : ByteArray), a1⟩ : S61)] : List (S61))), ([] : List (S28)), (⟨#[]⟩ : ByteArray))) = some (r1, r2, r3, r4, r5, r6) := h
  clear h
  obtain ⟨y343, hy343⟩ : ∃ y_ : List (S61), y_ = (([(⟨(⟨#[]⟩ : ByteArray), (⟨#[114, 101, 108]⟩ : ByteArray), a0⟩ : S61), (⟨(⟨#[]⟩ : ByteArray), (⟨#[104, 114, 101, 102]⟩ : ByteArray), a1⟩ : S61)] : List (S61))) := ⟨_, rfl⟩
  replace H : (some (0, (⟨#[104, 116, 116, 112, 58, 47, 47, 119, 119, 119, 46, 119, 51, 46, 111, 114, 103, 47, 50, 48, 48, 53, 47, 65, 116, 111, 109]⟩ : ByteArray), (⟨#[108, 105, 110, 107]⟩ : ByteArray), y343, ([] : List (S28)), (⟨#[]⟩ : ByteArray))) = some (r1, r2, r3, r4, r5, r6) := by first | (rw [hy343]; with_reducible exact H) | (have H2_ := (Option.bind_some _ _).symm.trans H; rw [hy343]; with_reducible exact H2_) | (have H2_ := (Option.bind_some _ _).symm.trans H; with_reducible exact H2_) | with_reducible exact H | (rw [hy343]; exact H) | exact H
  have Ny343 := Aside0.mk hy343
  clear hy343
  simp only [Option.some.injEq, Prod.mk.injEq] at H
  obtain ⟨rfl, rfl, rfl, rfl, rfl, rfl⟩ := H
  go_enter Tryd.func30, Tryd.ntmps30
  go_wp2_with (first | ((with_reducible refine gate_dst (N := 4) rfl ?_); refine box_event ?hg (N := 4) ?hd (cs := #[.int .i64 0, .string (⟨#[]⟩ : ByteArray), .string (⟨#[]⟩ : ByteArray), .slice none 0 0, .slice none 0 0, .string (⟨#[]⟩ : ByteArray)]) (t := 28) ?hr ?_; (case hd => rfl); (case hg => rfl); (case hr => first | (go_simp; done) | (go_simp; rfl)); intro gb342 hg w3 hbox hb; have n0_ := Aside0.mk (below_step (by repeat (first | (with_reducible first | exact HB.out | apply below_alloc | apply pw_below_drewN | apply below_drew1) | exact HB.out)) hb); have n1_ := Aside0.mk (hbox); have n2_ := Aside0.mk ((by rw [hg]; exact (below_size (by repeat (first | (with_reducible first | exact HB.out | apply below_alloc | apply pw_below_drewN | apply below_drew1) | exact HB.out))) : w.heap.size ≤ gb342)); have n3_ := Aside0.mk ((by rw [hg]; exact (below_size (by repeat (first | (with_reducible first | exact HB.out | apply below_alloc | apply pw_below_drewN | apply below_drew1) | exact HB.out))) : w.heap.size ≤ gb342)); clear HB; have HB := n0_; have BK342 := n1_; have GW342 := n2_; have GE342 := n3_; clear n0_ n1_ n2_ n3_; clear hb hbox hg) | ((with_reducible refine gate_dst (N := 9) rfl ?_); refine Kd.R_lit k61 _ 61 ?hg (N := 9) ?hd (xs := ([(⟨(⟨#[]⟩ : ByteArray), (⟨#[114, 101, 108]⟩ : ByteArray), a0⟩ : S61), (⟨(⟨#[]⟩ : ByteArray), (⟨#[104, 114, 101, 102]⟩ : ByteArray), a1⟩ : S61)] : List (S61))) (inner := [.string (⟨#[]⟩ : ByteArray), .string (⟨#[114, 101, 108]⟩ : ByteArray), .string a0, .string (⟨#[]⟩ : ByteArray), .string (⟨#[104, 114, 101, 102]⟩ : ByteArray), .string a1]) (ok := fun _ => True) (okp := fun _ => True) ?hr ?hp (fun _ hk => hk) trivial (Below.refl _ _) (Nat.le_refl _) (by simp) ?_; (case hd => rfl); (case hg => rfl); (case hr => first | (go_simp; done) | (go_simp; rfl)); (case hp => exact (Reps.c3 (show Kd.M k61 _ _ _ (⟨(⟨#[]⟩ : ByteArray), (⟨#[114, 101, 108]⟩ : ByteArray), a0⟩ : S61) [.string (⟨#[]⟩ : ByteArray), .string (⟨#[114, 101, 108]⟩ : ByteArray), .string a0] from (k61_mkM _ _ _ (⟨(⟨#[]⟩ : ByteArray), (⟨#[114, 101, 108]⟩ : ByteArray), a0⟩ : S61) )) (Reps.c3 (show Kd.M k61 _ _ _ (⟨(⟨#[]⟩ : ByteArray), (⟨#[104, 114, 101, 102]⟩ : ByteArray), a1⟩ : S61) [.string (⟨#[]⟩ : ByteArray), .string (⟨#[104, 114, 101, 102]⟩ : ByteArray), .string a1] from (k61_mkM _ _ _ (⟨(⟨#[]⟩ : ByteArray), (⟨#[104, 114, 101, 102]⟩ : ByteArray), a1⟩ : S61) )) (Reps.none _ _)))); intro v344 w4 ho5 hb hg_ hnew_; clear hg_ hnew_; (first | rw [← Ny343.out] at ho5 | (simp only [Int.reduceToNat] at ho5; rw [← Ny343.out] at ho5)); have n0_ := Aside0.mk (Kd.R_lower ho5 (below_size (by repeat (first | (with_reducible first | exact HB.out | apply below_alloc | apply pw_below_drewN | apply below_drew1 | refine below_set ?_ GE342.out) | exact HB.out)))); have n1_ := Aside0.mk (blk_below (g := gb342) (o := .cells #[.int .i64 0, .string (⟨#[]⟩ : ByteArray), .string (⟨#[]⟩ : ByteArray), .slice none 0 0, .slice none 0 0, .string (⟨#[]⟩ : ByteArray)] 28 (0, 0)) (by (with_reducible repeat (first | refine blk_drewN ?_ _ | refine blk_drew ?_ | refine blk_alloc ?_ _)); exact BK342.out) hb); have n2_ := Aside0.mk (below_step (by repeat (first | (with_reducible first | exact HB.out | apply below_alloc | apply pw_below_drewN | apply below_drew1 | refine below_set ?_ GE342.out) | exact HB.out)) hb); clear BK342; clear HB; have HO345 := n0_; have BK342 := n1_; have HB := n2_; clear n0_ n1_ n2_; clear hb ho5; obtain ⟨Ao6, co6, eo6⟩ := Kd.R_slice HO345.out; subst eo6; have hcz7_0 : w4.cell? ⟨gb342, 0, none⟩ = some (.int .i64 0) := (blk_cell BK342.out 0).trans rfl; have hcz7_1 : w4.cell? ⟨gb342, 1, none⟩ = some (.string (⟨#[]⟩ : ByteArray)) := (blk_cell BK342.out 1).trans rfl; have hcz7_2 : w4.cell? ⟨gb342, 2, none⟩ = some (.string (⟨#[]⟩ : ByteArray)) := (blk_cell BK342.out 2).trans rfl; have hcz7_3 : w4.cell? ⟨gb342, 3, none⟩ = some (.slice none 0 0) := (blk_cell BK342.out 3).trans rfl; have hcz7_4 : w4.cell? ⟨gb342, 4, none⟩ = some (.slice none 0 0) := (blk_cell BK342.out 4).trans rfl; have hcz7_5 : w4.cell? ⟨gb342, 5, none⟩ = some (.string (⟨#[]⟩ : ByteArray)) := (blk_cell BK342.out 5).trans rfl; have hfz7_0 := blk_frozen BK342.out 0; have hfz7_1 := blk_frozen BK342.out 1; have hfz7_2 := blk_frozen BK342.out 2; have hfz7_3 := blk_frozen BK342.out 3; have hfz7_4 := blk_frozen BK342.out 4; have hfz7_5 := blk_frozen BK342.out 5))
  refine bodyPost_ret (results_cell_row rfl _ _ gb342 28 #[.int .i64 0, .string (⟨#[104, 116, 116, 112, 58, 47, 47, 119, 119, 119, 46, 119, 51, 46, 111, 114, 103, 47, 50, 48, 48, 53, 47, 65, 116, 111, 109]⟩ : ByteArray), .string (⟨#[108, 105, 110, 107]⟩ : ByteArray), .slice Ao6 y343.length co6, .slice none 0 0, .string (⟨#[]⟩ : ByteArray)] (0, 0) _ rfl (by (with_reducible repeat (first | refine blk_drewN ?_ _ | refine blk_drew ?_ | refine blk_alloc ?_ _)); refine blk_put (cs := #[.int .i64 0, .string (⟨#[104, 116, 116, 112, 58, 47, 47, 119, 119, 119, 46, 119, 51, 46, 111, 114, 103, 47, 50, 48, 48, 53, 47, 65, 116, 111, 109]⟩ : ByteArray), .string (⟨#[108, 105, 110, 107]⟩ : ByteArray), .slice Ao6 y343.length co6, .slice none 0 0, .string (⟨#[]⟩ : ByteArray)]) ?_ 5 _ rfl; (with_reducible repeat (first | refine blk_drewN ?_ _ | refine blk_drew ?_ | refine blk_alloc ?_ _)); refine blk_put (cs := #[.int .i64 0, .string (⟨#[104, 116, 116, 112, 58, 47, 47, 119, 119, 119, 46, 119, 51, 46, 111, 114, 103, 47, 50, 48, 48, 53, 47, 65, 116, 111, 109]⟩ : ByteArray), .string (⟨#[108, 105, 110, 107]⟩ : ByteArray), .slice Ao6 y343.length co6, .slice none 0 0, .string (⟨#[]⟩ : ByteArray)]) ?_ 4 _ rfl; (with_reducible repeat (first | refine blk_drewN ?_ _ | refine blk_drew ?_ | refine blk_alloc ?_ _)); refine blk_put (cs := #[.int .i64 0, .string (⟨#[104, 116, 116, 112, 58, 47, 47, 119, 119, 119, 46, 119, 51, 46, 111, 114, 103, 47, 50, 48, 48, 53, 47, 65, 116, 111, 109]⟩ : ByteArray), .string (⟨#[108, 105, 110, 107]⟩ : ByteArray), .slice none 0 0, .slice none 0 0, .string (⟨#[]⟩ : ByteArray)]) ?_ 3 _ rfl; (with_reducible repeat (first | refine blk_drewN ?_ _ | refine blk_drew ?_ | refine blk_alloc ?_ _)); refine blk_put (cs := #[.int .i64 0, .string (⟨#[104, 116, 116, 112, 58, 47, 47, 119, 119, 119, 46, 119, 51, 46, 111, 114, 103, 47, 50, 48, 48, 53, 47, 65, 116, 111, 109]⟩ : ByteArray), .string (⟨#[]⟩ : ByteArray), .slice none 0 0, .slice none 0 0, .string (⟨#[]⟩ : ByteArray)]) ?_ 2 _ rfl; (with_reducible repeat (first | refine blk_drewN ?_ _ | refine blk_drew ?_ | refine blk_alloc ?_ _)); refine blk_put (cs := #[.int .i64 0, .string (⟨#[]⟩ : ByteArray), .string (⟨#[]⟩ : ByteArray), .slice none 0 0, .slice none 0 0, .string (⟨#[]⟩ : ByteArray)]) ?_ 1 _ rfl; (with_reducible repeat (first | refine blk_drewN ?_ _ | refine blk_drew ?_ | refine blk_alloc ?_ _)); refine blk_put (cs := #[.int .i64 0, .string (⟨#[]⟩ : ByteArray), .string (⟨#[]⟩ : ByteArray), .slice none 0 0, .slice none 0 0, .string (⟨#[]⟩ : ByteArray)]) ?_ 0 _ rfl; (with_reducible repeat (first | refine blk_drewN ?_ _ | refine blk_drew ?_ | refine blk_alloc ?_ _)); exact BK342.out) Tryd.underlying28 rfl (by kernel_rfl)) rfl ?_
  exact ⟨_, _, by first | rfl | (simp [errW_none, errW_some] <;> rfl) | (simp [*, errW_none, errW_some] <;> rfl), by (with_reducible repeat (first | apply Kd.R_alloc | apply Kd.R_drewN | apply Kd.R_drew)); exact Kd.R_mono (Kd.R_far (p := ⟨gb342, 5, none⟩) (Kd.R_far (p := ⟨gb342, 4, none⟩) (Kd.R_far (p := ⟨gb342, 3, none⟩) (Kd.R_far (p := ⟨gb342, 2, none⟩) (Kd.R_far (p := ⟨gb342, 1, none⟩) (Kd.R_far (p := ⟨gb342, 0, none⟩) (Kd.R_types HO345.out BK342.out (by decide)) (fun _ hk => hk.2) (.int .i64 0)) (fun _ hk => hk.2) (.string (⟨#[104, 116, 116, 112, 58, 47, 47, 119, 119, 119, 46, 119, 51, 46, 111, 114, 103, 47, 50, 48, 48, 53, 47, 65, 116, 111, 109]⟩ : ByteArray))) (fun _ hk => hk.2) (.string (⟨#[108, 105, 110, 107]⟩ : ByteArray))) (fun _ hk => hk.2) (.slice Ao6 y343.length co6)) (fun _ hk => hk.2) (.slice none 0 0)) (fun _ hk => hk.2) (.string (⟨#[]⟩ : ByteArray))) (fun _ hk => trivial), by first | exact Kd.R_nil _ _ _ _ _ | exact Kd.N_nil _ _ _ _ _ | exact Kd.V_nil _ _ _ _ _ | exact Kd.Q_nil _ _ _ _ _ | exact Kd.S_nil _ _ _ _ _, by repeat (first | (with_reducible first | exact HB.out | apply below_alloc | apply pw_below_drewN | apply below_drew1 | refine below_set ?_ GE342.out) | exact HB.out)⟩
def broadsheetref23_page.f (k : Nat) (a0 : ByteArray) (a1 : Int) : Option (ByteArray) := if a0.size + 6 ≤ 9223372036854775807 then ((broadsheetref03_Digits.f k a1).bind fun t346 => (if (a0 ++ (⟨#[63, 112, 97, 103, 101, 61]⟩ : ByteArray)).size + t346.size ≤ 9223372036854775807 then (some ((a0 ++ (⟨#[63, 112, 97, 103, 101, 61]⟩ : ByteArray)) ++ t346)) else (none))) else (none)
set_option maxHeartbeats 8000000 in
set_option maxRecDepth 100000 in
theorem broadsheetref23_page.calls (k : Nat) (a0 : ByteArray) (a1 : Int) (r : ByteArray) (w : World) (h : broadsheetref23_page.f k a0 a1 = some r) :
    Calls Tryd.prog 31 #[.string a0, .int .i64 a1] w fun e w' => e = .returned (.string r) ∧ Below w.heap.size w w' := by
  have HB := Aside0.mk (Below.refl w.heap.size w)
  have H : (if a0.size + 6 ≤ 9223372036854775807 then ((broadsheetref03_Digits.f k a1).bind fun t346 => (if (a0 ++ (⟨#[63, 112, 97, 103, 101, 61]⟩ : ByteArray)).size + t346.size ≤ 9223372036854775807 then (some ((a0 ++ (⟨#[63, 112, 97, 103, 101, 61]⟩ : ByteArray)) ++ t346)) else (none))) else (none)) = some r := h
  clear h
  by_cases c3 : a0.size + 6 ≤ 9223372036854775807
  · rw [if_pos c3] at H
    have c3b0 := eq_true c3
    have c3b1 : decide (a0.size + 6 ≤ 9223372036854775807) = true := decide_eq_true c3
    try have c3b2 : (9223372036854775807 < a0.size + 6) = False := eq_false (Nat.not_lt.2 c3)
    replace H := Option.bind_eq_some_iff.mp H
    obtain ⟨t346, A40, H⟩ := H
    replace H : (if (a0 ++ (⟨#[63, 112, 97, 103, 101, 61]⟩ : ByteArray)).size + t346.size ≤ 9223372036854775807 then (some ((a0 ++ (⟨#[63, 112, 97, 103, 101, 61]⟩ : ByteArray)) ++ t346)) else (none)) = some r := H
    have A4 := Aside0.mk A40
    clear A40
    by_cases c5 : (a0 ++ (⟨#[63, 112, 97, 103, 101, 61]⟩ : ByteArray)).size + t346.size ≤ 9223372036854775807
    · rw [if_pos c5] at H
      have c5b0 := eq_true c5
      have c5b1 : decide ((a0 ++ (⟨#[63, 112, 97, 103, 101, 61]⟩ : ByteArray)).size + t346.size ≤ 9223372036854775807) = true := decide_eq_true c5
      try have c5b2 : (9223372036854775807 < (a0 ++ (⟨#[63, 112, 97, 103, 101, 61]⟩ : ByteArray)).size + t346.size) = False := eq_false (Nat.not_lt.2 c5)
      try have c5b3 : (9223372036854775807 < a0.size + 6 + t346.size) = False := eq_false (by have h_ := c5; simp only [ByteArray.size_append] at h_; exact Nat.not_lt.2 h_)
      obtain rfl := Option.some.inj H
      go_enter Tryd.func31, Tryd.ntmps31
      go_wp2_with (first | ((with_reducible refine gate_callee (f := 44) rfl ?_); refine goesL_ (some 8) rfl rfl Tryd.func44 (by kernel_rfl) rfl #[.int .i64 a1] rfl (by (try simp only [List.map_toArray, List.map_cons, List.map_nil]); first | done | rfl | (simp only [List.length_drop, List.length_take]; rfl) | (simp only [Int.tmod_tmod_of_dvd _ (show (60 : Int) ∣ 86400 by decide)]; rfl)) ?_; (with_reducible refine (broadsheetref03_Digits.calls k a1 t346 _ A4.out).mono ?_); rintro e w6 ⟨rfl, hb⟩; refine ⟨_, rfl, ?_⟩; have n0_ := Aside0.mk (below_step (by repeat (first | (with_reducible first | exact HB.out | apply below_alloc | apply pw_below_drewN | apply below_drew1) | exact HB.out)) hb); clear HB; have HB := n0_; clear n0_; (try clear hb); (try clear hb2); (try clear hk); (try clear hi)))
      go_ret
      exact ⟨by first | rfl | (simp [errW_none, errW_some] <;> rfl) | (simp [*, errW_none, errW_some] <;> rfl), by repeat (first | (with_reducible first | exact HB.out | apply below_alloc | apply pw_below_drewN | apply below_drew1) | exact HB.out)⟩
    · rw [if_neg c5] at H
      exact absurd H (by simp)
  · rw [if_neg c3] at H
    exact absurd H (by simp)
end Go.Proofs.YtjbckpoepfbgbaaDoor.Pr
end
section
/- The calendar: a day's number in closed form, a number's day, months' lengths; each is the other's inverse; days stand as their years, months and days do. -/
namespace Go.Proofs.YtjbckpoepfbgbaaDoor.Cal
theorem doe_dec (doe : Int) (h0 : 0 ≤ doe) (h1 : doe ≤ 146096) : ∃ c q a t : Int, doe = 36524 * c + 1461 * q + 365 * a + t ∧ 0 ≤ c ∧ c ≤ 3 ∧ 0 ≤ q ∧ q ≤ 24 ∧ 0 ≤ a ∧ a ≤ 3 ∧ 0 ≤ t ∧ t ≤ 365 ∧ (t = 365 → a = 3 ∧ (q ≠ 24 ∨ c = 3)) := by
  by_cases hc : doe = 146096
  · exact ⟨3, 24, 3, 365, by omega, by omega, by omega, by omega, by omega, by omega, by omega, by omega, by omega, by omega⟩
  · by_cases ha : (doe % 36524) % 1461 = 1460
    · exact ⟨doe / 36524, (doe % 36524) / 1461, 3, 365, by omega, by omega, by omega, by omega, by omega, by omega, by omega, by omega, by omega, by omega⟩
    · exact ⟨doe / 36524, (doe % 36524) / 1461, ((doe % 36524) % 1461) / 365, ((doe % 36524) % 1461) % 365, by omega, by omega, by omega, by omega, by omega, by omega, by omega, by omega, by omega, by omega⟩
theorem yoe_at (c q a t : Int) (h1 : 0 ≤ c) (h2 : c ≤ 3) (h3 : 0 ≤ q) (h4 : q ≤ 24) (h5 : 0 ≤ a) (h6 : a ≤ 3) (h7 : 0 ≤ t) (h8 : t ≤ 365) (h9 : t = 365 → a = 3 ∧ (q ≠ 24 ∨ c = 3)) (doe : Int) (hd : doe = 36524 * c + 1461 * q + 365 * a + t) :
    (doe - doe / 1460 + doe / 36524 - doe / 146096) / 365 = 100 * c + 4 * q + a := by
  by_cases hz : doe = 146096
  · have : c = 3 ∧ q = 24 ∧ a = 3 := by omega
    obtain ⟨rfl, rfl, rfl⟩ := this
    rw [hz]; decide
  · have e2 : doe / 36524 = c := by omega
    have e3 : doe / 146096 = 0 := by omega
    have e1 : doe / 1460 = 25 * c + q ∨ (doe / 1460 = 25 * c + q + 1 ∧ 1460 ≤ 24 * c + q + 365 * a + t) := by omega
    rw [e2, e3]
    rcases e1 with e1 | ⟨e1, hx⟩
    · have ht : t ≤ 364 := by omega
      rw [e1]; omega
    · have ha : 1 ≤ t := by omega
      rw [e1]; omega
def leapB (y : Int) : Bool := decide (y % 4 = 0) && (!decide (y % 100 = 0) || decide (y % 400 = 0))
def lastD (y m : Int) : Int := if m = 2 then (if leapB y then 29 else 28) else 30 + (m + m / 8) % 2
def dayF (y m d : Int) : Int := if m < 3 then 365 * (y - 1 + 400) + (y - 1 + 400) / 4 - (y - 1 + 400) / 100 + (y - 1 + 400) / 400 + (153 * (m + 12 - 3) + 2) / 5 + d - 1 - 719468 - 146097 else 365 * (y + 400) + (y + 400) / 4 - (y + 400) / 100 + (y + 400) / 400 + (153 * (m - 3) + 2) / 5 + d - 1 - 719468 - 146097
/-- A year of four hundred, and the day in it, of a day in four hundred years. -/
def yoe (doe : Int) : Int := (doe - doe / 1460 + doe / 36524 - doe / 146096) / 365
def doy (doe : Int) : Int := doe - (365 * yoe doe + yoe doe / 4 - yoe doe / 100)
def civ (n : Int) : Int × Int × Int :=
  if (5 * doy (n % 146097) + 2) / 153 < 10 then (yoe (n % 146097) + (n / 146097 * 400 - 400), (5 * doy (n % 146097) + 2) / 153 + 3, doy (n % 146097) - (153 * ((5 * doy (n % 146097) + 2) / 153) + 2) / 5 + 1)
  else (yoe (n % 146097) + (n / 146097 * 400 - 400) + 1, (5 * doy (n % 146097) + 2) / 153 - 9, doy (n % 146097) - (153 * ((5 * doy (n % 146097) + 2) / 153) + 2) / 5 + 1)
/-- May it be a day? -/
def vld (y m d : Int) : Prop := 1 ≤ m ∧ m ≤ 12 ∧ 1 ≤ d ∧ d ≤ lastD y m
theorem leap_iff (y : Int) : leapB y = true ↔ (y % 4 = 0 ∧ (y % 100 ≠ 0 ∨ y % 400 = 0)) := by
  unfold leapB
  simp [Bool.and_eq_true, Bool.or_eq_true]
theorem doy_bd (D : Int) (h0 : 0 ≤ D) (h1 : D ≤ 146096) : 0 ≤ yoe D ∧ yoe D ≤ 399 ∧ 0 ≤ doy D ∧ doy D ≤ 365 := by
  obtain ⟨c, q, a, t, hd, k1, k2, k3, k4, k5, k6, k7, k8, k9⟩ := doe_dec D h0 h1
  have hy : yoe D = 100 * c + 4 * q + a := yoe_at c q a t k1 k2 k3 k4 k5 k6 k7 k8 k9 D hd
  unfold doy
  rw [hy]
  have e4 : (100 * c + 4 * q + a) / 4 = 25 * c + q := by omega
  have e5 : (100 * c + 4 * q + a) / 100 = c := by omega
  rw [e4, e5]
  clear hy e4 e5
  omega
theorem civ_spec (n : Int) : vld (civ n).1 (civ n).2.1 (civ n).2.2 ∧ dayF (civ n).1 (civ n).2.1 (civ n).2.2 = n - 719468 - 146097 := by
  obtain ⟨c, q, a, t, hd, h1, h2, h3, h4, h5, h6, h7, h8, h9⟩ := doe_dec (n % 146097) (by omega) (by omega)
  have hy : yoe (n % 146097) = 100 * c + 4 * q + a := yoe_at c q a t h1 h2 h3 h4 h5 h6 h7 h8 h9 _ hd
  have ht : doy (n % 146097) = t := by
    unfold doy; rw [hy, hd]
    have e4 : (100 * c + 4 * q + a) / 4 = 25 * c + q := by omega
    have e5 : (100 * c + 4 * q + a) / 100 = c := by omega
    rw [e4, e5]; omega
  obtain ⟨E, hE⟩ : ∃ E, n / 146097 = E := ⟨_, rfl⟩
  have hn : n = 146097 * E + (36524 * c + 1461 * q + 365 * a + t) := by omega
  unfold civ
  rw [hy, ht, hE]
  refine ⟨?_, ?_⟩
  · split
    · rename_i hm
      refine ⟨by simp; omega, by simp; omega, by simp; omega, ?_⟩
      unfold lastD
      simp only
      rw [if_neg (by omega)]
      obtain ⟨mp, hmp⟩ : ∃ mp, (5 * t + 2) / 153 = mp := ⟨_, rfl⟩
      rw [hmp] at hm ⊢
      have hc : mp = 0 ∨ mp = 1 ∨ mp = 2 ∨ mp = 3 ∨ mp = 4 ∨ mp = 5 ∨ mp = 6 ∨ mp = 7 ∨ mp = 8 ∨ mp = 9 := by omega
      clear hy ht hE h9 hd
      rcases hc with rfl | rfl | rfl | rfl | rfl | rfl | rfl | rfl | rfl | rfl <;> omega
    · rename_i hm
      refine ⟨by simp; omega, by simp; omega, by simp; omega, ?_⟩
      simp only
      unfold lastD
      split
      · rename_i h2m
        by_cases hx : t = 365
        · have hl : leapB (100 * c + 4 * q + a + (E * 400 - 400) + 1) = true := by
            rw [leap_iff]
            obtain ⟨rfl, hq⟩ := h9 hx
            omega
          rw [hl]; simp only [if_true]; omega
        · split <;> omega
      · omega
  · split
    · rename_i hm
      simp only
      unfold dayF
      rw [if_neg (by omega)]
      have e4 : (100 * c + 4 * q + a + (E * 400 - 400) + 400) / 4 = 25 * c + q + 100 * E := by omega
      have e5 : (100 * c + 4 * q + a + (E * 400 - 400) + 400) / 100 = c + 4 * E := by omega
      have e6 : (100 * c + 4 * q + a + (E * 400 - 400) + 400) / 400 = E := by omega
      rw [e4, e5, e6]
      have e7 : (5 * t + 2) / 153 + 3 - 3 = (5 * t + 2) / 153 := by omega
      rw [e7]; omega
    · rename_i hm
      simp only
      unfold dayF
      rw [if_pos (by omega)]
      have e4 : (100 * c + 4 * q + a + (E * 400 - 400) + 1 - 1 + 400) / 4 = 25 * c + q + 100 * E := by omega
      have e5 : (100 * c + 4 * q + a + (E * 400 - 400) + 1 - 1 + 400) / 100 = c + 4 * E := by omega
      have e6 : (100 * c + 4 * q + a + (E * 400 - 400) + 1 - 1 + 400) / 400 = E := by omega
      rw [e4, e5, e6]
      have e7 : (5 * t + 2) / 153 - 9 + 12 - 3 = (5 * t + 2) / 153 := by omega
      rw [e7]; omega
theorem dayF_d (y m d : Int) : dayF y m d = dayF y m 1 + (d - 1) := by unfold dayF; split <;> omega
theorem lastD_pos (y m : Int) (h1 : 1 ≤ m) (h2 : m ≤ 12) : 28 ≤ lastD y m ∧ lastD y m ≤ 31 := by
  unfold lastD
  split
  · split <;> omega
  · have hc : m = 1 ∨ m = 2 ∨ m = 3 ∨ m = 4 ∨ m = 5 ∨ m = 6 ∨ m = 7 ∨ m = 8 ∨ m = 9 ∨ m = 10 ∨ m = 11 ∨ m = 12 := by omega
    rcases hc with rfl | rfl | rfl | rfl | rfl | rfl | rfl | rfl | rfl | rfl | rfl | rfl <;> decide
/-- The next month begins behind this one's last day. -/
theorem dayF_month (y m : Int) (h1 : 1 ≤ m) (h2 : m ≤ 11) : dayF y (m + 1) 1 = dayF y m 1 + lastD y m := by
  have hc : m = 1 ∨ m = 2 ∨ m = 3 ∨ m = 4 ∨ m = 5 ∨ m = 6 ∨ m = 7 ∨ m = 8 ∨ m = 9 ∨ m = 10 ∨ m = 11 := by omega
  rcases hc with rfl | rfl | rfl | rfl | rfl | rfl | rfl | rfl | rfl | rfl | rfl
  case inr.inl =>
    unfold dayF lastD
    simp only [show ((2 : Int) + 1 < 3) = False by decide, show ((2 : Int) < 3) = True by decide, if_true, if_false]
    by_cases hl : leapB y = true
    · rw [hl]
      have := (leap_iff y).1 hl
      simp only [if_true]
      omega
    · have hl2 : ¬ (y % 4 = 0 ∧ (y % 100 ≠ 0 ∨ y % 400 = 0)) := fun h => hl ((leap_iff y).2 h)
      rw [if_neg hl]
      omega
  all_goals
    unfold dayF lastD
    simp
    try omega
/-- The next year begins behind this one's December. -/
theorem dayF_year (y : Int) : dayF (y + 1) 1 1 = dayF y 12 1 + 31 := by
  unfold dayF
  simp
  omega
theorem dayF_400 (y m d : Int) : dayF (y + 400) m d = dayF y m d + 146097 := by
  unfold dayF
  split <;> omega
theorem dayF_leap (y : Int) : dayF (y + 1) 1 1 = dayF y 1 1 + (if leapB y = true then 366 else 365) := by
  by_cases hl : leapB y = true
  · rw [if_pos hl]
    have := (leap_iff y).1 hl
    unfold dayF
    simp
    omega
  · have hl2 : ¬ (y % 4 = 0 ∧ (y % 100 ≠ 0 ∨ y % 400 = 0)) := fun h => hl ((leap_iff y).2 h)
    rw [if_neg hl]
    unfold dayF
    simp
    omega
theorem dayF_1970 : dayF 1970 1 1 = 0 := by decide
end Go.Proofs.YtjbckpoepfbgbaaDoor.Cal
end
section
/- What the printed functions of the date package answer, in closed form. -/
namespace Go.Proofs.YtjbckpoepfbgbaaDoor.Fun
open Go.RowKit Go.Proofs.YtjbckpoepfbgbaaDoor.Pr Go.Proofs.YtjbckpoepfbgbaaDoorW.PrintWords Go.Proofs.YtjbckpoepfbgbaaDoorW.PrintLast Go.Proofs.YtjbckpoepfbgbaaDoorW.PrintMore
theorem w64 {n : Int} (h : -9223372036854775808 ≤ n ∧ n ≤ 9223372036854775807) : wrap64 n = n := by unfold wrap64; omega
theorem td {a b : Int} (h : 0 ≤ a) : Int.tdiv a b = a / b := Int.tdiv_eq_ediv_of_nonneg h
theorem tm {a b : Int} (h : 0 ≤ a) : Int.tmod a b = a % b := Int.tmod_eq_emod_of_nonneg h
theorem civil_eq (n : Int) (h0 : 0 ≤ n) (h1 : n ≤ 10000000) : date_civil.f n = some (Cal.civ n) := by
  unfold date_civil.f Cal.civ Cal.doy Cal.yoe
  rw [tm h0, td h0]
  obtain ⟨D, hD⟩ : ∃ D, n % 146097 = D := ⟨_, rfl⟩
  obtain ⟨E, hE⟩ : ∃ E, n / 146097 = E := ⟨_, rfl⟩
  rw [hD, hE]
  have d0 : 0 ≤ D := by omega
  have d1 : D ≤ 146096 := by omega
  have e0 : 0 ≤ E := by omega
  have e1 : E ≤ 100 := by omega
  clear hD hE h0 h1
  rw [td d0, td d0, td d0]
  obtain ⟨q1, hq1⟩ : ∃ q, D / 1460 = q := ⟨_, rfl⟩
  obtain ⟨q2, hq2⟩ : ∃ q, D / 36524 = q := ⟨_, rfl⟩
  obtain ⟨q3, hq3⟩ : ∃ q, D / 146096 = q := ⟨_, rfl⟩
  rw [hq1, hq2, hq3, w64 (n := q1) (by omega), w64 (n := q2) (by omega), w64 (n := q3) (by omega), w64 (n := D - q1) (by omega), w64 (n := D - q1 + q2) (by omega), w64 (n := D - q1 + q2 - q3) (by omega), td (a := D - q1 + q2 - q3) (by omega)]
  have hbd := Cal.doy_bd D d0 d1
  unfold Cal.doy Cal.yoe at hbd
  rw [hq1, hq2, hq3] at hbd
  clear hq1 hq2 hq3
  obtain ⟨Y, hY⟩ : ∃ Y, (D - q1 + q2 - q3) / 365 = Y := ⟨_, rfl⟩
  rw [hY] at hbd ⊢
  obtain ⟨hy0, hy1, hdoy⟩ := hbd
  clear hY
  rw [w64 (n := Y) (by omega), td hy0, td hy0]
  obtain ⟨y4, h4⟩ : ∃ q, Y / 4 = q := ⟨_, rfl⟩
  obtain ⟨y100, h100⟩ : ∃ q, Y / 100 = q := ⟨_, rfl⟩
  rw [h4, h100] at hdoy ⊢
  have b4 : 0 ≤ y4 ∧ y4 ≤ 100 := by omega
  have b100 : 0 ≤ y100 ∧ y100 ≤ 4 := by omega
  clear h4 h100
  rw [w64 (n := 365 * Y) (by omega), w64 (n := y4) (by omega), w64 (n := y100) (by omega), w64 (n := 365 * Y + y4) (by omega), w64 (n := 365 * Y + y4 - y100) (by omega), w64 (n := D - (365 * Y + y4 - y100)) (by omega)]
  obtain ⟨Q, hQ⟩ : ∃ q, D - (365 * Y + y4 - y100) = q := ⟨_, rfl⟩
  rw [hQ] at hdoy ⊢
  clear hQ
  rw [w64 (n := 5 * Q) (by omega), w64 (n := 5 * Q + 2) (by omega), td (a := 5 * Q + 2) (by omega)]
  obtain ⟨M, hM⟩ : ∃ q, (5 * Q + 2) / 153 = q := ⟨_, rfl⟩
  rw [hM, w64 (n := M) (by omega), w64 (n := 153 * M) (by omega), w64 (n := 153 * M + 2) (by omega), td (a := 153 * M + 2) (by omega)]
  obtain ⟨R, hR⟩ : ∃ q, (153 * M + 2) / 5 = q := ⟨_, rfl⟩
  rw [hR, w64 (n := R) (by omega), w64 (n := Q - R) (by omega), w64 (n := Q - R + 1) (by omega), w64 (n := E) (by omega), w64 (n := E * 400) (by omega), w64 (n := E * 400 - 400) (by omega), w64 (n := Y + (E * 400 - 400)) (by omega), w64 (n := M + 3) (by omega), w64 (n := M - 9) (by omega), w64 (n := Y + (E * 400 - 400) + 1) (by omega)]
  split <;> rfl
theorem rs_ext (s t : ByteArray) (h : s.data.toList = t.data.toList) : s = t := by apply ByteArray.ext; apply Array.ext'; exact h
theorem lastD_le (y m : Int) : Cal.lastD y m ≤ 31 := by
  unfold Cal.lastD
  split
  · split <;> omega
  · omega
end Go.Proofs.YtjbckpoepfbgbaaDoor.Fun
end
section
/- Digits, and their value. -/
namespace Go.Proofs.YtjbckpoepfbgbaaDoor.Txt
open Go.RowKit
/-- The digits' value. -/
def val (l : List UInt8) : Nat := l.foldl (fun k c => k * 10 + (c.toNat - 48)) 0
def isDig (c : UInt8) : Bool := 48 ≤ c.toNat && c.toNat ≤ 57
def allDig (l : List UInt8) : Bool := l.all isDig
theorem val_snoc (l : List UInt8) (c : UInt8) : val (l ++ [c]) = val l * 10 + (c.toNat - 48) := by
  simp [val, List.foldl_append]
theorem isDig_iff (c : UInt8) : isDig c = true ↔ 48 ≤ c.toNat ∧ c.toNat ≤ 57 := by simp [isDig]
end Go.Proofs.YtjbckpoepfbgbaaDoor.Txt
end
section
/- Numbers written out to a width: the reference's, and what date.pad writes. -/
set_option linter.unusedVariables false
namespace Go.Proofs.YtjbckpoepfbgbaaDoor.Fun
open Go.RowKit Go.Proofs.YtjbckpoepfbgbaaDoor.Pr Go.Proofs.YtjbckpoepfbgbaaDoorW.PrintWords Go.Proofs.YtjbckpoepfbgbaaDoorW.PrintLast Go.Proofs.YtjbckpoepfbgbaaDoorW.PrintMore
open Go.Proofs.YtjbckpoepfbgbaaDoor.Txt
def mk (l : List UInt8) : ByteArray := ⟨l.toArray⟩
theorem mk_list (l : List UInt8) : (mk l).data.toList = l := rfl
theorem mk_size (l : List UInt8) : (mk l).size = l.length := Lib.size_mk l
theorem mk_app (a b : List UInt8) : mk a ++ mk b = mk (a ++ b) := by
  apply rs_ext
  rw [ByteArray.data_append, Array.toList_append]
  rfl
theorem date_pad_eq (n : Int) (c : Nat) (hc : c ≤ 100) (h0 : 0 ≤ n) (h1 : n ≤ 999999999999) : date_pad.f n c = some (mk (padL n c)) := by
  unfold date_pad.f
  rw [if_pos h0, if_pos h1, if_pos (by omega), if_pos (by omega)]
  rfl
theorem dec_all (u : Nat) : allDig (Lib.decDigits u) = true := by
  induction u using Nat.strongRecOn with
  | _ u ih =>
    have one : ∀ x, x < 10 → isDig (UInt8.ofNat (48 + x)) = true := by
      intro x hx
      rw [isDig_iff]
      have : (UInt8.ofNat (48 + x)).toNat = 48 + x := by simp; omega
      omega
    by_cases h : u < 10
    · rw [Lib.decDigits, dif_pos h]
      show (isDig _ && true) = true
      rw [one u h]; rfl
    · rw [Lib.decDigits, dif_neg h]
      have := ih (u / 10) (by omega)
      unfold allDig at this ⊢
      rw [List.all_append, this]
      rw [List.all_cons, List.all_nil, one (u % 10) (by omega)]; rfl
theorem dec_val (u : Nat) : val (Lib.decDigits u) = u := by
  induction u using Nat.strongRecOn with
  | _ u ih =>
    have one : ∀ x, x < 10 → (UInt8.ofNat (48 + x)).toNat - 48 = x := by
      intro x hx
      have : (UInt8.ofNat (48 + x)).toNat = 48 + x := by simp; omega
      omega
    by_cases h : u < 10
    · rw [Lib.decDigits, dif_pos h]
      show 0 * 10 + ((UInt8.ofNat (48 + u)).toNat - 48) = u
      rw [one u h]; omega
    · rw [Lib.decDigits, dif_neg h, val_snoc, ih (u / 10) (by omega), one (u % 10) (by omega)]
      omega
theorem dec_len (c u : Nat) (hc : 1 ≤ c) (h : u < 10 ^ c) : (Lib.decDigits u).length ≤ c := by
  rw [Lib.decDigits_length]
  induction c generalizing u with
  | zero => omega
  | succ c ih =>
    by_cases h9 : u < 10
    · rw [Lib.nDigits_small h9]; omega
    · rw [Lib.nDigits_big h9]
      cases c with
      | zero => simp at h; omega
      | succ c =>
        have := ih (u / 10) (by omega) (by rw [Nat.pow_succ] at h; omega)
        omega
theorem val_noughts (a : Nat) (l : List UInt8) : val (List.replicate a 48 ++ l) = val l := by
  induction a with
  | zero => rfl
  | succ a ih => rw [List.replicate_succ, List.cons_append]; exact ih
theorem padL_facts (n : Int) (c : Nat) (hc : 1 ≤ c) (h0 : 0 ≤ n) (h1 : n < ((10 ^ c : Nat) : Int)) : (padL n c).length = c ∧ allDig (padL n c) = true ∧ ((val (padL n c) : Nat) : Int) = n := by
  obtain ⟨u, rfl⟩ : ∃ u : Nat, n = u := ⟨n.toNat, by omega⟩
  unfold padL
  rw [Lib.itoa_nonneg]
  have hl := dec_len c u hc (by omega)
  refine ⟨by rw [List.length_append, List.length_replicate]; omega, ?_, ?_⟩
  · have := dec_all u
    unfold allDig at this ⊢
    rw [List.all_append, this, Bool.and_true, List.all_eq_true]
    intro x hx
    rw [List.eq_of_mem_replicate hx]; rfl
  · rw [val_noughts, dec_val]
end Go.Proofs.YtjbckpoepfbgbaaDoor.Fun
end
section
/- What date.Print writes. -/
set_option linter.unusedVariables false
namespace Go.Proofs.YtjbckpoepfbgbaaDoor.Fun
open Go.RowKit Go.Proofs.YtjbckpoepfbgbaaDoor.Pr Go.Proofs.YtjbckpoepfbgbaaDoorW.PrintWords Go.Proofs.YtjbckpoepfbgbaaDoorW.PrintLast Go.Proofs.YtjbckpoepfbgbaaDoorW.PrintMore
open Go.Proofs.YtjbckpoepfbgbaaDoor.Txt
/-- The day (counted from 1970) and the second in it. -/
def dayN (s : Int) : Int := (s + 62167219200) / 86400 - 719528
def secN (s : Int) : Int := (s + 62167219200) % 86400
def civN (s : Int) : Int × Int × Int := Cal.civ (dayN s + 719468 + 146097)
def headB (y m d h mi se : ByteArray) : ByteArray :=
  (((((((((y ++ (⟨#[45]⟩ : ByteArray)) ++ m) ++ (⟨#[45]⟩ : ByteArray)) ++ d) ++ (⟨#[84]⟩ : ByteArray)) ++ h) ++ (⟨#[58]⟩ : ByteArray)) ++ mi) ++ (⟨#[58]⟩ : ByteArray)) ++ se
/-- The text ahead of the fraction. -/
def headT (s : Int) : ByteArray :=
  headB (mk (padL (civN s).1 4)) (mk (padL (civN s).2.1 2)) (mk (padL (civN s).2.2 2)) (mk (padL (secN s / 3600) 2)) (mk (padL (secN s / 60 % 60) 2)) (mk (padL (secN s % 60) 2))
/-- The whole text. -/
def printT (s n : Int) : ByteArray :=
  if n > 0 then (headT s ++ ((⟨#[46]⟩ : ByteArray) ++ mk (Lib.trimRightB (padL n 9) 48))) ++ (⟨#[90]⟩ : ByteArray) else headT s ++ (⟨#[90]⟩ : ByteArray)
/-- May an instant be written? -/
def inR (s n : Int) : Prop := -62167219200 ≤ s ∧ s ≤ 253402300799 ∧ 0 ≤ n ∧ n ≤ 999999999
theorem year_mono (a b : Int) (h : a ≤ b) : Cal.dayF a 1 1 ≤ Cal.dayF b 1 1 := by
  unfold Cal.dayF; simp only [show ((1 : Int) < 3) = True by decide, if_true]; omega
theorem month_mono (y a b : Int) (h0 : 1 ≤ a) (h : a ≤ b) (h1 : b ≤ 12) : Cal.dayF y a 1 ≤ Cal.dayF y b 1 := by
  unfold Cal.dayF
  split <;> split <;> omega
/-- The civil day of a second that may be written. -/
theorem civN_facts (s : Int) (h0 : -62167219200 ≤ s) (h1 : s ≤ 253402300799) :
    0 ≤ (civN s).1 ∧ (civN s).1 ≤ 9999 ∧ Cal.vld (civN s).1 (civN s).2.1 (civN s).2.2 ∧ Cal.dayF (civN s).1 (civN s).2.1 (civN s).2.2 = dayN s ∧
    Cal.dayF (civN s).1 (civN s).2.1 1 ≤ dayN s ∧ Cal.dayF (civN s).1 1 1 ≤ dayN s ∧ dayN s < Cal.dayF ((civN s).1 + 1) 1 1 ∧ ((civN s).2.1 < 12 → dayN s < Cal.dayF (civN s).1 ((civN s).2.1 + 1) 1) := by
  obtain ⟨v, e⟩ := Cal.civ_spec (dayN s + 719468 + 146097)
  change Cal.vld (civN s).1 (civN s).2.1 (civN s).2.2 at v
  change Cal.dayF (civN s).1 (civN s).2.1 (civN s).2.2 = _ at e
  generalize (civN s).1 = y at *
  generalize (civN s).2.1 = m at *
  generalize (civN s).2.2 = d at *
  obtain ⟨v1, v2, v3, v4⟩ := v
  have e' : Cal.dayF y m d = dayN s := by omega
  have hd := Cal.dayF_d y m d
  have hm := month_mono y 1 m (by omega) v1 v2
  have hl := Cal.lastD_pos y m v1 v2
  have a1 : Cal.dayF y m 1 ≤ dayN s := by omega
  have a2 : Cal.dayF y 1 1 ≤ dayN s := by omega
  have a3 : m < 12 → dayN s < Cal.dayF y (m + 1) 1 := by
    intro h
    have := Cal.dayF_month y m v1 (by omega)
    omega
  have a4 : dayN s < Cal.dayF (y + 1) 1 1 := by
    by_cases h : m < 12
    · have h1 := a3 h
      have h2 := month_mono y (m + 1) 12 (by omega) (by omega) (by omega)
      have h3 := Cal.dayF_year y
      omega
    · have : m = 12 := by omega
      subst this
      have h3 := Cal.dayF_year y
      have : Cal.lastD y 12 = 31 := by unfold Cal.lastD; simp
      omega
  have b0 : -719528 ≤ dayN s := by unfold dayN; omega
  have b1 : dayN s ≤ 2932896 := by unfold dayN; omega
  have c0 : Cal.dayF 0 1 1 = -719528 := by decide
  have c1 : Cal.dayF 10000 1 1 = 2932897 := by decide
  have d0 : 0 ≤ y := by
    by_cases h : 0 ≤ y
    · exact h
    · have := year_mono (y + 1) 0 (by omega); omega
  have d1 : y ≤ 9999 := by
    by_cases h : y ≤ 9999
    · exact h
    · have := year_mono 10000 y (by omega); omega
  exact ⟨d0, d1, ⟨v1, v2, v3, v4⟩, e', a1, a2, a4, a3⟩
theorem trim_len (l : List UInt8) : (Lib.trimRightB l 48).length ≤ l.length := by
  unfold Lib.trimRightB
  rw [List.length_reverse]
  refine Nat.le_trans (List.dropWhile_suffix _).length_le ?_
  simp
theorem trim_split_aux (r : List UInt8) : ∃ a, r.reverse = (r.dropWhile (· == 48)).reverse ++ List.replicate a 48 := by
  induction r with
  | nil => exact ⟨0, rfl⟩
  | cons c r ih =>
    obtain ⟨a, e⟩ := ih
    rw [List.dropWhile_cons]
    by_cases h : c = 48
    · subst h
      rw [if_pos (by simp)]
      exact ⟨a + 1, by rw [List.reverse_cons, e, List.append_assoc, ← List.replicate_succ']⟩
    · rw [if_neg (by simpa using h)]
      exact ⟨0, by simp⟩
theorem trim_split (l : List UInt8) : ∃ a, l = Lib.trimRightB l 48 ++ List.replicate a 48 := by
  obtain ⟨a, e⟩ := trim_split_aux l.reverse
  rw [List.reverse_reverse] at e
  exact ⟨a, e⟩
theorem val_noughts_behind (l : List UInt8) (a : Nat) : val (l ++ List.replicate a 48) = val l * 10 ^ a := by
  induction a with
  | zero => simp
  | succ a ih => rw [List.replicate_succ', ← List.append_assoc, val_snoc, ih, Nat.pow_succ, Nat.mul_assoc]; rfl
theorem trim_ne (n : Int) (h0 : 0 < n) (h1 : n ≤ 999999999) : Lib.trimRightB (padL n 9) 48 ≠ [] := by
  intro h
  obtain ⟨a, e⟩ := trim_split (padL n 9)
  have hv := (padL_facts n 9 (by omega) (by omega) (by simp; omega)).2.2
  rw [h, List.nil_append] at e
  have : val (padL n 9) = 0 := by
    rw [e]
    have := val_noughts_behind [] a
    rw [List.nil_append] at this
    rw [this]
    simp [val]
  omega
theorem print_fields (s : Int) (h0 : -62167219200 ≤ s) (h1 : s ≤ 253402300799) : 0 ≤ secN s ∧ secN s < 86400 ∧ (mk (padL (civN s).1 4)).size = 4 ∧ (mk (padL (civN s).2.1 2)).size = 2 ∧ (mk (padL (civN s).2.2 2)).size = 2 ∧ (mk (padL (secN s / 3600) 2)).size = 2 ∧ (mk (padL (secN s / 60 % 60) 2)).size = 2 ∧ (mk (padL (secN s % 60) 2)).size = 2 := by
  obtain ⟨f0, f1, ⟨v1, v2, v3, v4⟩, _⟩ := civN_facts s h0 h1
  have hl := lastD_le (civN s).1 (civN s).2.1
  have s0 : 0 ≤ secN s := by unfold secN; omega
  have s1 : secN s < 86400 := by unfold secN; omega
  refine ⟨s0, s1, ?_, ?_, ?_, ?_, ?_, ?_⟩ <;> rw [mk_size]
  · exact (padL_facts _ 4 (by omega) f0 (by simp; omega)).1
  · exact (padL_facts _ 2 (by omega) (by omega) (by simp; omega)).1
  · exact (padL_facts _ 2 (by omega) (by omega) (by simp; omega)).1
  · exact (padL_facts _ 2 (by omega) (by omega) (by simp; omega)).1
  · exact (padL_facts _ 2 (by omega) (by omega) (by simp; omega)).1
  · exact (padL_facts _ 2 (by omega) (by omega) (by simp; omega)).1
theorem print_bad (k : Nat) (hk : 1 ≤ k) (s n : Int) (h : ¬ inR s n) : date_Print.f k s n = some (⟨#[]⟩, 110) := by
  obtain ⟨k, rfl⟩ : ∃ q, k = q + 1 := ⟨k - 1, by omega⟩
  have hb : date_Print.j0 (k + 1) true s n = some (⟨#[]⟩, 110) := by simp only [date_Print.j0]; rw [if_pos trivial]
  unfold date_Print.f
  unfold inR at h
  by_cases a : s < -62167219200
  · rw [if_pos a]; exact hb
  rw [if_neg a]
  by_cases b : s > 253402300799
  · rw [if_pos b]; exact hb
  rw [if_neg b]
  by_cases c : n < 0
  · rw [if_pos c]; exact hb
  rw [if_neg c, decide_eq_true (by omega)]; exact hb
theorem print_ok (k : Nat) (hk : 1 ≤ k) (s n : Int) (h : inR s n) : date_Print.f k s n = some (printT s n, 0) := by
  obtain ⟨k, rfl⟩ : ∃ q, k = q + 1 := ⟨k - 1, by omega⟩
  obtain ⟨h0, h1, h2, h3⟩ := h
  unfold date_Print.f
  rw [if_neg (by omega), if_neg (by omega), if_neg (by omega), decide_eq_false (by omega)]
  simp only [date_Print.j0]
  rw [if_neg (by simp)]
  obtain ⟨s0, s1, z1, z2, z3, z4, z5, z6⟩ := print_fields s h0 h1
  obtain ⟨f0, f1, ⟨v1, v2, v3, v4⟩, _⟩ := civN_facts s h0 h1
  have hl := lastD_le (civN s).1 (civN s).2.1
  have e1 : Int.tmod (wrap64 (s + 62167219200)) 86400 = secN s := by rw [w64 (by omega), tm (by omega)]; rfl
  have e2 : wrap64 (wrap64 (wrap64 (Int.tdiv (wrap64 (s - secN s)) 86400) + 719468) + 146097) = dayN s + 719468 + 146097 := by
    have : s - secN s = 86400 * dayN s := by unfold secN dayN; omega
    have b0 : -719528 ≤ dayN s := by unfold dayN; omega
    have b1 : dayN s ≤ 2932896 := by unfold dayN; omega
    rw [w64 (n := s - secN s) (by omega), this, Int.mul_comm, Int.mul_tdiv_cancel _ (by decide), w64 (n := dayN s) (by omega), w64 (n := dayN s + 719468) (by omega), w64 (by omega)]
  have b0 : -719528 ≤ dayN s := by unfold dayN; omega
  have b1 : dayN s ≤ 2932896 := by unfold dayN; omega
  have hc : date_civil.f (dayN s + 719468 + 146097) = some (civN s) := civil_eq _ (by omega) (by omega)
  rw [e1, e2, hc]
  have p1 : date_pad.f (civN s).1 4 = some (mk (padL (civN s).1 4)) := date_pad_eq _ 4 (by omega) f0 (by omega)
  have p2 : date_pad.f (civN s).2.1 2 = some (mk (padL (civN s).2.1 2)) := date_pad_eq _ 2 (by omega) (by omega) (by omega)
  have p3 : date_pad.f (civN s).2.2 2 = some (mk (padL (civN s).2.2 2)) := date_pad_eq _ 2 (by omega) (by omega) (by omega)
  have p4 : date_pad.f (wrap64 (Int.tdiv (secN s) 3600)) 2 = some (mk (padL (secN s / 3600) 2)) := by rw [td s0, w64 (by omega)]; exact date_pad_eq _ 2 (by omega) (by omega) (by omega)
  have p5 : date_pad.f (Int.tmod (wrap64 (Int.tdiv (secN s) 60)) 60) 2 = some (mk (padL (secN s / 60 % 60) 2)) := by rw [td s0, w64 (by omega), tm (by omega)]; exact date_pad_eq _ 2 (by omega) (by omega) (by omega)
  have p6 : date_pad.f (Int.tmod (secN s) 60) 2 = some (mk (padL (secN s % 60) 2)) := by rw [tm s0]; exact date_pad_eq _ 2 (by omega) (by omega) (by omega)
  have p9 : date_pad.f n 9 = some (mk (padL n 9)) := date_pad_eq _ 9 (by omega) (by omega) (by omega)
  have l9 := (padL_facts n 9 (by omega) h2 (by simp; omega)).1
  have p10 : strings_TrimRight.f (mk (padL n 9)) ⟨#[48]⟩ = some (mk (Lib.trimRightB (padL n 9) 48)) := by
    unfold strings_TrimRight.f
    rw [if_pos rfl, if_pos (by rw [mk_size, l9]; decide)]
    rfl
  have t10 := trim_len (padL n 9)
  rw [l9] at t10
  have t10' : (mk (Lib.trimRightB (padL n 9) 48)).size ≤ 9 := by rw [mk_size]; exact t10
  simp only [Option.bind_some]
  rw [p1, p2, p3, p4, p5, p6, p9]
  simp only [Option.bind_some]
  rw [p10]
  simp only [Option.bind_some]
  clear p1 p2 p3 p4 p5 p6 p9 p10 hc e1 e2 b0 b1 l9 t10
  unfold printT headT headB
  generalize mk (padL (civN s).1 4) = T1 at *
  generalize mk (padL (civN s).2.1 2) = T2 at *
  generalize mk (padL (civN s).2.2 2) = T3 at *
  generalize mk (padL (secN s / 3600) 2) = T4 at *
  generalize mk (padL (secN s / 60 % 60) 2) = T5 at *
  generalize mk (padL (secN s % 60) 2) = T6 at *
  generalize mk (Lib.trimRightB (padL n 9) 48) = T9 at *
  have l1 : (⟨#[45]⟩ : ByteArray).size = 1 := rfl
  have l2 : (⟨#[84]⟩ : ByteArray).size = 1 := rfl
  have l3 : (⟨#[58]⟩ : ByteArray).size = 1 := rfl
  have l4 : (⟨#[46]⟩ : ByteArray).size = 1 := rfl
  rw [if_pos (by omega), if_pos (by simp only [ByteArray.size_append]; omega), if_pos (by simp only [ByteArray.size_append]; omega), if_pos (by simp only [ByteArray.size_append]; omega), if_pos (by simp only [ByteArray.size_append]; omega), if_pos (by simp only [ByteArray.size_append]; omega), if_pos (by simp only [ByteArray.size_append]; omega), if_pos (by simp only [ByteArray.size_append]; omega), if_pos (by simp only [ByteArray.size_append]; omega), if_pos (by simp only [ByteArray.size_append]; omega)]
  by_cases hn : n > 0
  · rw [if_pos hn, if_pos hn, if_pos (by omega), if_pos (by simp only [ByteArray.size_append]; omega), if_pos (by simp only [ByteArray.size_append]; omega)]
  · rw [if_neg hn, if_neg hn, if_pos (by simp only [ByteArray.size_append]; omega)]
end Go.Proofs.YtjbckpoepfbgbaaDoor.Fun
end
section
/- The reference's days, counted by years and months, are the closed form's. -/
set_option linter.unusedVariables false
namespace Go.Proofs.YtjbckpoepfbgbaaDoor.Fun
open Go.RowKit Go.Proofs.YtjbckpoepfbgbaaDoor.Pr Go.Proofs.YtjbckpoepfbgbaaDoorW.PrintWords Go.Proofs.YtjbckpoepfbgbaaDoorW.PrintLast Go.Proofs.YtjbckpoepfbgbaaDoorW.PrintMore
theorem rleap_eq (y : Int) (h : 0 ≤ y) : broadsheetref11_leap.f y = some (Cal.leapB y) := by
  unfold broadsheetref11_leap.f Cal.leapB
  rw [tm h, tm h, tm h]
  by_cases h4 : y % 4 = 0
  · by_cases h100 : y % 100 = 0
    · rw [if_pos h4, if_pos h100]
      simp [h4, h100]
      rw [Bool.eq_iff_iff]; simp
    · rw [if_pos h4, if_neg h100]
      simp [h4, h100]
  · rw [if_neg h4]
    simp [h4]
theorem days_eq (k : Nat) (y m : Int) (hk : 1 ≤ k) (hy : 0 ≤ y) (h1 : 1 ≤ m) (h2 : m ≤ 12) : broadsheetref11_days.f k y m = some (Cal.lastD y m) := by
  obtain ⟨k, rfl⟩ : ∃ q, k = q + 1 := ⟨k - 1, by omega⟩
  have hc : m = 1 ∨ m = 2 ∨ m = 3 ∨ m = 4 ∨ m = 5 ∨ m = 6 ∨ m = 7 ∨ m = 8 ∨ m = 9 ∨ m = 10 ∨ m = 11 ∨ m = 12 := by omega
  unfold broadsheetref11_days.f
  rcases hc with rfl | rfl | rfl | rfl | rfl | rfl | rfl | rfl | rfl | rfl | rfl | rfl
  case inr.inl =>
    simp only [broadsheetref11_days.j0, rleap_eq y hy, Option.bind_some]
    unfold Cal.lastD
    simp
    cases Cal.leapB y <;> rfl
  all_goals
    simp only [broadsheetref11_days.j0]
    rfl
theorem l4_eq (y m d : Int) (hy : 0 ≤ y) (hy2 : y ≤ 20000) (h1 : 1 ≤ m) (h2 : m ≤ 12) (hd : -1000 ≤ d) (hd2 : d ≤ 1000) (q : Nat) : ∀ (k : Nat) (n j : Int), 1 ≤ j → m - j = q → q + 1 < k → -1000000000000 ≤ n → n + 31 * (12 - j) ≤ 1000000000000 →
    broadsheetref11_since.l4 k y m d n j = some (n + (Cal.dayF y m 1 - Cal.dayF y j 1) + (d - 1)) := by
  induction q with
  | zero =>
    intro k n j hj hq hk b1 b2
    obtain ⟨k, rfl⟩ : ∃ q, k = q + 1 := ⟨k - 1, by omega⟩
    obtain rfl : j = m := by omega
    simp only [broadsheetref11_since.l4]
    rw [if_neg (by omega), w64 (n := n + d) (by omega), w64 (n := n + d - 1) (by omega)]
    congr 1; omega
  | succ q ih =>
    intro k n j hj hq hk b1 b2
    obtain ⟨k, rfl⟩ : ∃ q, k = q + 1 := ⟨k - 1, by omega⟩
    have hl := Cal.lastD_pos y j hj (by omega)
    have hs := Cal.dayF_month y j hj (by omega)
    simp only [broadsheetref11_since.l4]
    rw [if_pos (by omega), days_eq k y j (by omega) hy hj (by omega)]
    simp only [Option.bind_some]
    rw [w64 (n := n + Cal.lastD y j) (by omega), w64 (n := j + 1) (by omega), ih k (n + Cal.lastD y j) (j + 1) (by omega) (by omega) (by omega) (by omega) (by omega), hs]
    congr 1; omega
/-- The first day of a year. -/
abbrev J (y : Int) : Int := Cal.dayF y 1 1
theorem l3_eq (y m d : Int) (hy : 0 ≤ y) (hy2 : y ≤ 20000) (h1 : 1 ≤ m) (h2 : m ≤ 12) (hd : -1000 ≤ d) (hd2 : d ≤ 1000) (q : Nat) : ∀ (k : Nat) (n j : Int), 0 ≤ j → (1970 - j).toNat = q → q + 14 < k → -500000000000 ≤ n - 366 * q → n ≤ 500000000000 →
    broadsheetref11_since.l3 k y m d n j = some (n - (if j < 1970 then - J j else 0) + (Cal.dayF y m 1 - J y) + (d - 1)) := by
  induction q with
  | zero =>
    intro k n j hj hq hk b1 b2
    obtain ⟨k, rfl⟩ : ∃ q, k = q + 1 := ⟨k - 1, by omega⟩
    simp only [broadsheetref11_since.l3]
    rw [if_neg (by omega), if_neg (by omega), l4_eq y m d hy hy2 h1 h2 hd hd2 (m - 1).toNat k n 1 (by omega) (by omega) (by omega) (by omega) (by omega)]
    congr 1; unfold J; omega
  | succ q ih =>
    intro k n j hj hq hk b1 b2
    obtain ⟨k, rfl⟩ : ∃ q, k = q + 1 := ⟨k - 1, by omega⟩
    simp only [broadsheetref11_since.l3]
    rw [if_pos (by omega), if_pos (by omega), rleap_eq j hj]
    simp only [Option.bind_some]
    have hs := Cal.dayF_leap j
    have e70 := Cal.dayF_1970
    by_cases hl : Cal.leapB j = true
    · rw [if_pos hl] at hs ⊢
      rw [w64 (n := n - 365) (by omega), w64 (n := n - 365 - 1) (by omega), w64 (n := j + 1) (by omega), ih k (n - 365 - 1) (j + 1) (by omega) (by omega) (by omega) (by omega) (by omega)]
      congr 1
      split
      · unfold J at *; omega
      · have : j = 1969 := by omega
        subst this
        have : Cal.dayF (1969 + 1) 1 1 = 0 := Cal.dayF_1970
        unfold J at *; omega
    · rw [if_neg hl] at hs ⊢
      rw [w64 (n := n - 365) (by omega), w64 (n := j + 1) (by omega), ih k (n - 365) (j + 1) (by omega) (by omega) (by omega) (by omega) (by omega)]
      congr 1
      split
      · unfold J at *; omega
      · have : j = 1969 := by omega
        subst this
        have : Cal.dayF (1969 + 1) 1 1 = 0 := Cal.dayF_1970
        unfold J at *; omega
theorem l2_eq (y m d : Int) (hy : 0 ≤ y) (hy2 : y ≤ 20000) (h1 : 1 ≤ m) (h2 : m ≤ 12) (hd : -1000 ≤ d) (hd2 : d ≤ 1000) (q : Nat) : ∀ (k : Nat) (n j : Int), 1970 ≤ j → (y - j).toNat = q → (j ≤ y ∨ j = 1970) → q + 2000 < k → -400000000000 ≤ n → n + 366 * q ≤ 400000000000 →
    broadsheetref11_since.l2 k y m d n j = some (n - J j + Cal.dayF y m 1 + (d - 1)) := by
  induction q with
  | zero =>
    intro k n j hj hq hjy hk b1 b2
    obtain ⟨k, rfl⟩ : ∃ q, k = q + 1 := ⟨k - 1, by omega⟩
    simp only [broadsheetref11_since.l2]
    rw [if_neg (by omega), l3_eq y m d hy hy2 h1 h2 hd hd2 (1970 - y).toNat k n y hy rfl (by omega) (by omega) (by omega)]
    congr 1
    have e70 := Cal.dayF_1970
    rcases hjy with h | h
    · have : j = y := by omega
      subst this
      rw [if_neg (by omega)]; omega
    · subst h
      split
      · unfold J; omega
      · have : y = 1970 := by omega
        subst this; unfold J; omega
  | succ q ih =>
    intro k n j hj hq hjy hk b1 b2
    obtain ⟨k, rfl⟩ : ∃ q, k = q + 1 := ⟨k - 1, by omega⟩
    simp only [broadsheetref11_since.l2]
    rw [if_pos (by omega), rleap_eq j (by omega)]
    simp only [Option.bind_some]
    have hs := Cal.dayF_leap j
    by_cases hl : Cal.leapB j = true
    · rw [if_pos hl] at hs ⊢
      rw [w64 (n := n + 365) (by omega), w64 (n := n + 365 + 1) (by omega), w64 (n := j + 1) (by omega), ih k (n + 365 + 1) (j + 1) (by omega) (by omega) (by omega) (by omega) (by omega) (by omega)]
      congr 1
      unfold J at *; omega
    · rw [if_neg hl] at hs ⊢
      rw [w64 (n := n + 365) (by omega), w64 (n := j + 1) (by omega), ih k (n + 365) (j + 1) (by omega) (by omega) (by omega) (by omega) (by omega) (by omega)]
      congr 1
      unfold J at *; omega
theorem l1_eq (m d : Int) (h1 : 1 ≤ m) (h2 : m ≤ 12) (hd : -1000 ≤ d) (hd2 : d ≤ 1000) (q : Nat) : ∀ (k : Nat) (n y : Int), 0 ≤ y → y ≤ 2369 → (2000 - y).toNat / 400 = q → q + 2500 < k → -300000000000 ≤ n - 146097 * q → n ≤ 300000000000 →
    broadsheetref11_since.l1 k y m d n = some (n + Cal.dayF y m 1 + (d - 1)) := by
  induction q using Nat.strongRecOn with
  | ind q ih =>
    intro k n y hy hy2 hq hk b1 b2
    obtain ⟨k, rfl⟩ : ∃ q, k = q + 1 := ⟨k - 1, by omega⟩
    simp only [broadsheetref11_since.l1]
    rw [w64 (n := y + 400) (by omega)]
    by_cases hc : y + 400 ≤ 1970
    · rw [if_pos hc, w64 (n := n - 146097) (by omega), ih (q - 1) (by omega) k (n - 146097) (y + 400) (by omega) (by omega) (by omega) (by omega) (by omega) (by omega), Cal.dayF_400]
      congr 1; omega
    · rw [if_neg hc, l2_eq y m d hy (by omega) h1 h2 hd hd2 (y - 1970).toNat k n 1970 (by omega) rfl (by omega) (by omega) (by omega) (by omega)]
      have e70 := Cal.dayF_1970
      congr 1
      unfold J; omega
theorem l0_eq (m d : Int) (h1 : 1 ≤ m) (h2 : m ≤ 12) (hd : -1000 ≤ d) (hd2 : d ≤ 1000) (q : Nat) : ∀ (k : Nat) (n y : Int), 0 ≤ y → y ≤ 20000 → y.toNat / 400 = q → q + 2600 < k → -200000000000 ≤ n → n + 146097 * q ≤ 200000000000 →
    broadsheetref11_since.l0 k y m d n = some (n + Cal.dayF y m 1 + (d - 1)) := by
  induction q using Nat.strongRecOn with
  | ind q ih =>
    intro k n y hy hy2 hq hk b1 b2
    obtain ⟨k, rfl⟩ : ∃ q, k = q + 1 := ⟨k - 1, by omega⟩
    simp only [broadsheetref11_since.l0]
    by_cases hc : y ≥ 2370
    · have h4 := Cal.dayF_400 (y - 400) m 1
      rw [show y - 400 + 400 = y by omega] at h4
      rw [if_pos hc, w64 (n := y - 400) (by omega), w64 (n := n + 146097) (by omega), ih (q - 1) (by omega) k (n + 146097) (y - 400) (by omega) (by omega) (by omega) (by omega) (by omega) (by omega), h4]
      congr 1; omega
    · rw [if_neg hc, l1_eq m d h1 h2 hd hd2 ((2000 - y).toNat / 400) k n y hy (by omega) rfl (by omega) (by omega) (by omega)]
theorem since_eq (k : Nat) (y m d : Int) (hk : 3000 ≤ k) (hy : 0 ≤ y) (hy2 : y ≤ 20000) (h1 : 1 ≤ m) (h2 : m ≤ 12) (hd : -1000 ≤ d) (hd2 : d ≤ 1000) : broadsheetref11_since.f k y m d = some (Cal.dayF y m d) := by
  unfold broadsheetref11_since.f
  rw [l0_eq m d h1 h2 hd hd2 (y.toNat / 400) k 0 y hy hy2 rfl (by omega) (by omega) (by omega), Cal.dayF_d y m d]
  congr 1; omega
end Go.Proofs.YtjbckpoepfbgbaaDoor.Fun
end
section
-- Written by given.py, a program of this session, over the kit's printer.
namespace Go.Proofs.YtjbckpoepfbgbaaDoor.Pr
open Go.RowKit Go.Proofs.YtjbckpoepfbgbaaDoorW.PrintWords Go.Proofs.YtjbckpoepfbgbaaDoorW.PrintLast Go.Proofs.YtjbckpoepfbgbaaDoorW.PrintMore
attribute [local go_sem] max2_int min2_int max_two min_two max_three min_three max_four min_four
set_option linter.unusedVariables false
set_option linter.unusedSimpArgs false
def broadsheetref11_pad.l0 : Nat → Int → ByteArray → Option (ByteArray)
  | 0, _, _ => none
  | k + 1, x1, x5 => if (x5.size : Int) < x1 then (if 1 + x5.size ≤ 9223372036854775807 then (broadsheetref11_pad.l0 k x1 ((⟨#[48]⟩ : ByteArray) ++ x5)) else (none)) else (some x5)
def broadsheetref11_pad.f (k : Nat) (a0 : Int) (a1 : Int) : Option (ByteArray) := (broadsheetref03_Digits.f k a0).bind fun t325 => (broadsheetref11_pad.l0 k a1 t325)
set_option maxHeartbeats 8000000 in
set_option maxRecDepth 100000 in
theorem broadsheetref11_pad.calls (k : Nat) (a0 : Int) (a1 : Int) (r : ByteArray) (w : World) (h : broadsheetref11_pad.f k a0 a1 = some r) :
    Calls Tryd.prog 43 #[.int .i64 a0, .int .i64 a1] w fun e w' => e = .returned (.string r) ∧ Below w.heap.size w w' := by
  have HB := Aside0.mk (Below.refl w.heap.size w)
  have H : ((broadsheetref03_Digits.f k a0).bind fun t325 => (broadsheetref11_pad.l0 k a1 t325)) = some r := h
  clear h
  replace H := Option.bind_eq_some_iff.mp H
  obtain ⟨t325, A30, H⟩ := H
  replace H : (broadsheetref11_pad.l0 k a1 t325) = some r := H
  have A3 := Aside0.mk A30
  clear A30
  have H' := Aside0.mk H
  clear H
  go_enter Tryd.func43, Tryd.ntmps43
  go_wp2_with (first | ((with_reducible refine gate_callee (f := 44) rfl ?_); refine goesL_ (some 7) rfl rfl Tryd.func44 (by kernel_rfl) rfl #[.int .i64 a0] rfl (by (try simp only [List.map_toArray, List.map_cons, List.map_nil]); first | done | rfl | (simp only [List.length_drop, List.length_take]; rfl) | (simp only [Int.tmod_tmod_of_dvd _ (show (60 : Int) ∣ 86400 by decide)]; rfl)) ?_; (with_reducible refine (broadsheetref03_Digits.calls k a0 t325 _ A3.out).mono ?_); rintro e w4 ⟨rfl, hb⟩; refine ⟨_, rfl, ?_⟩; have n0_ := Aside0.mk (below_step (by repeat (first | (with_reducible first | exact HB.out | apply below_alloc | apply pw_below_drewN | apply below_drew1) | exact HB.out)) hb); clear HB; have HB := n0_; clear n0_; (try clear hb); (try clear hb2); (try clear hk); (try clear hi)))
  go_loopg [5] k (fun kq v5 w' => ∃ (x5_1 : ByteArray), v5 = .string x5_1 ∧ Aside0 (broadsheetref11_pad.l0 kq a1 x5_1 = some r) ∧ Aside0 (kq ≤ k) ∧ Aside0 (Below w.heap.size w w'))
  case atStart => exact ⟨(t325), (by first | rfl | (simp; done) | (simp [*]; done)), H', ⟨Nat.le_refl _⟩, ⟨by repeat (first | (with_reducible first | exact HB.out | apply below_alloc | apply pw_below_drewN | apply below_drew1) | exact HB.out)⟩⟩
  case round =>
    clear H'
    try clear p2
    try clear c4
    obtain ⟨x5_1, rfl, HA, HK1, HB⟩ := hrel
    cases gk with
    | zero => exact absurd HA.out (by simp [broadsheetref11_pad.l0])
    | succ k1 =>
      have H := HA.out
      clear HA
      simp only [broadsheetref11_pad.l0] at H
      by_cases c5 : (x5_1.size : Int) < a1
      · rw [if_pos c5] at H
        have c5b0 : decide ((x5_1.size : Int) < a1) = true := decide_eq_true c5
        clear c5
        by_cases c6 : 1 + x5_1.size ≤ 9223372036854775807
        · rw [if_pos c6] at H
          have c6b0 := eq_true c6
          have c6b1 : decide (1 + x5_1.size ≤ 9223372036854775807) = true := decide_eq_true c6
          try have c6b2 : (9223372036854775807 < 1 + x5_1.size) = False := eq_false (Nat.not_lt.2 c6)
          have H' := Aside0.mk H
          clear H
          go_wp2
          go_roundg k1
          case measure => have := HK1.out; omega
          case rel => exact ⟨((⟨#[48]⟩ : ByteArray) ++ x5_1), (by first | rfl | (simp; done) | (simp [*]; done)), H', ⟨by have := HK1.out; omega⟩, ⟨by repeat (first | (with_reducible first | exact HB.out | apply below_alloc | apply pw_below_drewN | apply below_drew1) | exact HB.out)⟩⟩
        · rw [if_neg c6] at H
          exact absurd H (by simp)
      · rw [if_neg c5] at H
        have c5b0 : decide ((x5_1.size : Int) < a1) = false := decide_eq_false c5
        clear c5
        obtain rfl := Option.some.inj H
        go_wp2
        go_ret
        exact ⟨by first | rfl | (simp [errW_none, errW_some] <;> rfl) | (simp [*, errW_none, errW_some] <;> rfl), by repeat (first | (with_reducible first | exact HB.out | apply below_alloc | apply pw_below_drewN | apply below_drew1) | exact HB.out)⟩
end Go.Proofs.YtjbckpoepfbgbaaDoor.Pr
end
