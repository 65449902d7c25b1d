/- The contract of date.Parse. -/
import Derived.Test.YtfcmdameiabjmaaDoorTxt6
import Derived.Deep.QuietTactic
import Derived.BigQuiet
import Derived.IntWalk
namespace Go.Proofs.YtfcmdameiabjmaaDoor.Txt
open Go.RowKit

def PPost (w : World) (r1 r2 r3 : Int) (e : Ending) (w' : World) : Prop :=
  e = .returned (.tuple #[.agg #[.int .i64 r1, .int .i64 r2], .int .i64 r3]) ∧ Below w.heap.size w w'

/-- The bounds of what a series took. -/
structure PBd (y mo d h mi se : Int) : Prop where
  y0 : 0 ≤ y
  y1 : y ≤ 9999
  mo0 : 0 ≤ mo
  mo1 : mo ≤ 12
  d0 : 0 ≤ d
  d1 : d ≤ 31
  h0 : 0 ≤ h
  h1 : h ≤ 23
  mi0 : 0 ≤ mi
  mi1 : mi ≤ 59
  se0 : 0 ≤ se
  se1 : se ≤ 59

theorem PSt.drewN {w w1 : World} {t : ByteArray} {y mo d h mi se : Int} (s : PSt w w1 t y mo d h mi se) (n : Nat) : PSt w (w1.drewN n) t y mo d h mi se :=
  ⟨⟨s.grow.os, s.grow.tape, s.grow.output, s.grow.size, s.grow.block⟩, s.res, s.txt, s.c5, s.c6, s.c7, s.c8, s.c9, s.c10⟩

theorem two_cell {w : World} {b : Nat} {v u : Value} {t : TypeId} (h : w.heap[b]? = some (.cells #[v, u] t (0, 0))) : w.cell? ⟨b, 0, none⟩ = some v ∧ w.cell? ⟨b, 1, none⟩ = some u ∧ w.frozen? ⟨b, 0, none⟩ = false ∧ w.frozen? ⟨b, 1, none⟩ = false := by
  refine ⟨?_, ?_, ?_, ?_⟩ <;> simp [World.cell?, World.frozen?, h]

theorem two_store {w : World} {b : Nat} {v u : Value} {t : TypeId} (h : w.heap[b]? = some (.cells #[v, u] t (0, 0))) (a c : Value) : ((w.setCell ⟨b, 0, none⟩ a).setCell ⟨b, 1, none⟩ c).heap[b]? = some (.cells #[a, c] t (0, 0)) := by
  have hlt := lt_of_block h
  simp [World.setCell, Array.getElem?_modify, h]
theorem below_two {w w1 : World} {b : Nat} (h : w.grownBy w1 none) (hb : w.heap.size ≤ b) (a c : Value) : Below w.heap.size w ((w1.setCell ⟨b, 0, none⟩ a).setCell ⟨b, 1, none⟩ c) :=
  ((Below.mk h.os h.tape h.output h.size (fun k hk => h.block k hk (by simp)) : Below w.heap.size w w1).setCell (p := ⟨b, 0, none⟩) hb a).setCell (p := ⟨b, 1, none⟩) hb c

/-- May the day be none of a month's? -/
def bad (p : Bool) (y mo d : Int) : Bool := !p || (decide (mo < 1) || (decide (d < 1) || decide (lastD y mo < d)))

def dpR (p : Bool) (y mo d h mi se fv zv : Int) (fo zo : Bool) (t4 : ByteArray) : Int × Int × Int :=
  if bad p y mo d then (0, 0, 110) else
  if fo && zo && t4.toList.isEmpty then (dayF y mo d * 86400 + h * 3600 + mi * 60 + se - zv, fv, 0) else (0, 0, 110)

set_option maxHeartbeats 2000000 in
set_option maxRecDepth 100000 in
theorem parse_x (s t t3 t4 : ByteArray) (fv zv r1 r2 r3 : Int) (fo zo : Bool) (hts : t.size ≤ 140737488351232) (hf : frV t = fv ∧ frOk t = fo ∧ frT t = t3) (hz : zV t3 = zv ∧ zOk t3 = zo ∧ zT t3 = t4) (hfv : 0 ≤ fv ∧ fv ≤ 999999999) (hzv : -86400 ≤ zv ∧ zv ≤ 86400) (w : World) (p : Bool) (y mo d h mi se : Int) (hr : dpR p y mo d h mi se fv zv fo zo t4 = (r1, r2, r3)) (hb : PBd y mo d h mi se)
    (C : Calls Tryd.prog 18 #[Value.pointer (some { block := w.heap.size + 1, off := 0 }), Value.string { data := #[32, 45, 45, 84, 58, 58] },
      Value.slice (some { block := w.heap.size + 1 + 1 + 1 + 1 + 1 + 1 + 1 + 1, off := 0 }) 6 6,
      Value.slice (some { block := w.heap.size + 1 + 1 + 1 + 1 + 1 + 1 + 1 + 1 + 1, off := 0 }) 6 6,
      Value.slice (some { block := w.heap.size + 1 + 1 + 1 + 1 + 1 + 1 + 1 + 1 + 1 + 1, off := 0 }) 6 6] (pW s w) (PSerPost w p t y mo d h mi se)) :
    Calls Tryd.prog 11 #[.string s] w (PPost w r1 r2 r3) := by
  have HR0 := Lib.hid hr
  have HF := Lib.hid hf
  have HZ := Lib.hid hz
  clear hr hf hz
  obtain ⟨hfv1, hfv2⟩ := hfv
  obtain ⟨hzv1, hzv2⟩ := hzv
  unfold pW at C
  obtain ⟨hy0, hy1, hmo0, hmo1, hd0, hd1, hh0, hh1, hmi0, hmi1, hse0, hse1⟩ := hb
  obtain ⟨q, hq⟩ : ∃ q, bad p y mo d = q := ⟨_, rfl⟩
  have HQ := Lib.hid hq
  clear hq
  go_enter Tryd.func11, Tryd.ntmps11
  go_upto_region 4 with (first | (go_at_call 18; refine C.mono ?_; rintro e w1 ⟨rfl, hs⟩; have c5 := hs.c5; have c6 := hs.c6; have c7 := hs.c7; have HS := Lib.hid hs; clear hs))
  go_cut [37] (fun v wc => v = .bool q ∧ ∃ n, wc = w1.drewN n)
  case first =>
    cases p with
    | false =>
      have hq : q = true := by rw [← HQ.out]; rfl
      subst hq
      clear C HS HQ
      go_quiet (fail)
      go_wp2
      go_meet
      case rel => exact ⟨rfl, _, rfl⟩
    | true =>
      by_cases h1 : mo < 1
      · have hq : q = true := by rw [← HQ.out]; unfold bad; rw [decide_eq_true h1]; rfl
        subst hq
        have e1 : decide (mo < 1) = true := decide_eq_true h1
        clear C HS HQ h1
        go_quiet (fail)
        go_wp2
        go_meet
        case rel => exact ⟨rfl, _, rfl⟩
      · have e1 : decide (mo < 1) = false := decide_eq_false h1
        by_cases h2 : d < 1
        · have e2 : decide (d < 1) = true := decide_eq_true h2
          have hq : q = true := by rw [← HQ.out]; unfold bad; rw [e1, e2]; rfl
          subst hq
          clear C HS HQ h1 h2
          go_quiet (fail)
          go_wp2
          go_meet
          case rel => exact ⟨rfl, _, rfl⟩
        · have e2 : decide (d < 1) = false := decide_eq_false h2
          have hmo : 1 ≤ mo := by omega
          have C19 := fun w => (lastDay_any y mo w hy0 hy1 hmo hmo1).mono (fun e w' ⟨h1, h2⟩ => (⟨h1, h2.symm⟩ : _ ∧ w' = w))
          have hq : decide (lastD y mo < d) = q := by rw [← HQ.out]; unfold bad; rw [e1, e2]; rfl
          clear C HS HQ h1 h2
          generalize lastD y mo = ld at C19 hq
          cases q with
          | true =>
            go_quiet ((go_at_call 19; exact Calls.quiet_of_same (C19 _)))
            go_wp2
            go_meet
            case rel => exact ⟨rfl, _, rfl⟩
          | false =>
            go_quiet ((go_at_call 19; exact Calls.quiet_of_same (C19 _)))
            go_wp2
            go_meet
            case rel => exact ⟨rfl, _, rfl⟩
  case rest =>
    obtain ⟨rfl, n, rfl⟩ := hcut
    have hs := HS.out.drewN n
    have hr := hs.res
    clear c5 c6 c7
    cases q with
    | true =>
      obtain ⟨rc0, rc1, rf0, rf1⟩ := two_cell hr
      have HR := Lib.hid hr
      have HS2 := Lib.hid hs
      clear hs hr C HS
      generalize w1.drewN n = w2 at *
      go_wp2
      obtain ⟨q0, q1, _, _⟩ := two_cell (two_store HR.out (.int .i64 0) (.int .i64 0))
      have hr : ((0 : Int), (0 : Int), (110 : Int)) = (r1, r2, r3) := by rw [← HR0.out]; unfold dpR; rw [HQ.out]; rfl
      cases hr
      exact bodyPost_ret (v := .tuple #[.agg #[.int .i64 0, .int .i64 0], .int .i64 110]) (by simp [results, Tryd.results11, go_sem, q0, q1]) rfl ⟨rfl, below_two HS2.out.grow (Nat.le_refl _) _ _⟩
    | false =>
      have C20 := fraction_any (w.heap.size + 1) t (w1.drewN n) hs.txt (by omega)
      rw [HF.out.1, HF.out.2.1, HF.out.2.2] at C20
      clear hr C HS HF hts
      generalize w1.drewN n = w2 at *
      have HS2 := Lib.hid hs
      clear hs
      by_cases hok : fo = true ∧ zo = true ∧ t4.toList.isEmpty = true
      · obtain ⟨rfl, rfl, h4⟩ := hok
        have hrr : (dayF y mo d * 86400 + h * 3600 + mi * 60 + se - zv, fv, (0 : Int)) = (r1, r2, r3) := by rw [← HR0.out]; unfold dpR; rw [HQ.out, h4]; rfl
        cases hrr
        have hmo : 1 ≤ mo := by
          have := HQ.out; unfold bad at this
          simp only [Bool.or_eq_false_iff, decide_eq_false_iff_not] at this; omega
        have hd : 1 ≤ d := by
          have := HQ.out; unfold bad at this
          simp only [Bool.or_eq_false_iff, decide_eq_false_iff_not] at this; omega
        have C22 := fun w => (day_any y mo d w hy0 hy1 hmo hmo1 hd0 (by omega)).mono (fun e w' ⟨h1, h2⟩ => (⟨h1, h2.symm⟩ : _ ∧ w' = w))
        clear HQ HR0
        have hday : -800000 ≤ dayF y mo d ∧ dayF y mo d ≤ 3000000 := by unfold dayF; split <;> omega
        generalize dayF y mo d = dd at *
        obtain ⟨hdd1, hdd2⟩ := hday
        go_upto_region 10 with (first
          | (go_at_call 20; refine C20.mono ?_; rintro e w3 ⟨rfl, hg, hb⟩; have HS3 := Lib.hid (HS2.out.step hg hb); clear hg hb)
          | (go_at_call 21; refine (zone_any (w.heap.size + 1) t3 _ HS3.out.txt).mono ?_; rw [HZ.out.1, HZ.out.2.1, HZ.out.2.2]; rintro e w4 ⟨rfl, hg, hb⟩; have HS4 := Lib.hid (HS3.out.step hg hb); clear hg hb; have ct := cell_of_one HS4.out.txt))
        have c5 := HS4.out.c5
        have c6 := HS4.out.c6
        have c7 := HS4.out.c7
        have c8 := HS4.out.c8
        have c9 := HS4.out.c9
        have c10 := HS4.out.c10
        clear C20 HZ
        have a5 : IntKind.i64.wrap (dd * 86400) = dd * 86400 := IntWalk.i64_in _ (by omega)
        have a6 : IntKind.i64.wrap (h * 3600) = h * 3600 := IntWalk.i64_in _ (by omega)
        have a7 : IntKind.i64.wrap (dd * 86400 + h * 3600) = dd * 86400 + h * 3600 := IntWalk.i64_in _ (by omega)
        have a8 : IntKind.i64.wrap (mi * 60) = mi * 60 := IntWalk.i64_in _ (by omega)
        have a9 : IntKind.i64.wrap (dd * 86400 + h * 3600 + mi * 60) = dd * 86400 + h * 3600 + mi * 60 := IntWalk.i64_in _ (by omega)
        have a10 : IntKind.i64.wrap (dd * 86400 + h * 3600 + mi * 60 + se) = dd * 86400 + h * 3600 + mi * 60 + se := IntWalk.i64_in _ (by omega)
        have a11 : IntKind.i64.wrap (dd * 86400 + h * 3600 + mi * 60 + se - zv) = dd * 86400 + h * 3600 + mi * 60 + se - zv := IntWalk.i64_in _ (by omega)
        go_still_tail 17, (by kernel_rfl)
        still_call (C22 _)
        repeat still_step
        refine wpStill_nil ?_
        change wpList _ _ _ _ _ w4.drew
        have HS5 : Hid (PSt w w4.drew t4 y mo d h mi se) := HS4.out.drewN 1
        generalize w4.drew = w5 at *
        obtain ⟨rc0, rc1, rf0, rf1⟩ := two_cell HS5.out.res
        clear a5 a6 a7 a8 a9 a10 a11
        go_wp2
        obtain ⟨q0, q1, _, _⟩ := two_cell (two_store HS5.out.res (.int .i64 (dd * 86400 + h * 3600 + mi * 60 + se - zv)) (.int .i64 fv))
        exact bodyPost_ret (v := .tuple #[.agg #[.int .i64 (dd * 86400 + h * 3600 + mi * 60 + se - zv), .int .i64 fv], .int .i64 0]) (by simp [results, Tryd.results11, go_sem, q0, q1]) rfl ⟨rfl, below_two HS5.out.grow (Nat.le_refl _) _ _⟩
      · have hrr : ((0 : Int), (0 : Int), (110 : Int)) = (r1, r2, r3) := by
          rw [← HR0.out]; unfold dpR; rw [HQ.out]
          have : (fo && zo && t4.toList.isEmpty) = false := by
            rw [Bool.eq_false_iff]; intro hh
            simp only [Bool.and_eq_true] at hh
            exact hok ⟨hh.1.1, hh.1.2, hh.2⟩
          rw [this]; rfl
        cases hrr
        clear HQ HR0
        by_cases h1 : fo = false
        · subst h1
          clear hok
          go_wp2_with (first
            | (go_at_call 20; refine C20.mono ?_; rintro e w3 ⟨rfl, hg, hb⟩; have HS3 := Lib.hid (HS2.out.step hg hb); clear hg hb)
            | (go_at_call 21; refine (zone_any (w.heap.size + 1) t3 _ HS3.out.txt).mono ?_; rw [HZ.out.1, HZ.out.2.1, HZ.out.2.2]; rintro e w4 ⟨rfl, hg, hb⟩; have HS4 := Lib.hid (HS3.out.step hg hb); clear hg hb; obtain ⟨rc0, rc1, rf0, rf1⟩ := two_cell HS4.out.res))
          obtain ⟨q0, q1, _, _⟩ := two_cell (two_store HS4.out.res (.int .i64 0) (.int .i64 0))
          exact bodyPost_ret (v := .tuple #[.agg #[.int .i64 0, .int .i64 0], .int .i64 110]) (by simp [results, Tryd.results11, go_sem, q0, q1]) rfl ⟨rfl, below_two HS4.out.grow (Nat.le_refl _) _ _⟩
        · have h1 : fo = true := by simpa using h1
          subst h1
          by_cases h2 : zo = false
          · subst h2
            clear hok
            go_wp2_with (first
              | (go_at_call 20; refine C20.mono ?_; rintro e w3 ⟨rfl, hg, hb⟩; have HS3 := Lib.hid (HS2.out.step hg hb); clear hg hb)
              | (go_at_call 21; refine (zone_any (w.heap.size + 1) t3 _ HS3.out.txt).mono ?_; rw [HZ.out.1, HZ.out.2.1, HZ.out.2.2]; rintro e w4 ⟨rfl, hg, hb⟩; have HS4 := Lib.hid (HS3.out.step hg hb); clear hg hb; obtain ⟨rc0, rc1, rf0, rf1⟩ := two_cell HS4.out.res))
            obtain ⟨q0, q1, _, _⟩ := two_cell (two_store HS4.out.res (.int .i64 0) (.int .i64 0))
            exact bodyPost_ret (v := .tuple #[.agg #[.int .i64 0, .int .i64 0], .int .i64 110]) (by simp [results, Tryd.results11, go_sem, q0, q1]) rfl ⟨rfl, below_two HS4.out.grow (Nat.le_refl _) _ _⟩
          · have h2 : zo = true := by simpa using h2
            subst h2
            have h4 : t4.toList.isEmpty = false := by
              rw [Bool.eq_false_iff]; intro hh; exact hok ⟨rfl, rfl, hh⟩
            clear hok
            go_wp2_with (first
              | (go_at_call 20; refine C20.mono ?_; rintro e w3 ⟨rfl, hg, hb⟩; have HS3 := Lib.hid (HS2.out.step hg hb); clear hg hb)
              | (go_at_call 21; refine (zone_any (w.heap.size + 1) t3 _ HS3.out.txt).mono ?_; rw [HZ.out.1, HZ.out.2.1, HZ.out.2.2]; rintro e w4 ⟨rfl, hg, hb⟩; have HS4 := Lib.hid (HS3.out.step hg hb); clear hg hb; have ct := cell_of_one HS4.out.txt; obtain ⟨rc0, rc1, rf0, rf1⟩ := two_cell HS4.out.res))
            obtain ⟨q0, q1, _, _⟩ := two_cell (two_store HS4.out.res (.int .i64 0) (.int .i64 0))
            exact bodyPost_ret (v := .tuple #[.agg #[.int .i64 0, .int .i64 0], .int .i64 110]) (by simp [results, Tryd.results11, go_sem, q0, q1]) rfl ⟨rfl, below_two HS4.out.grow (Nat.le_refl _) _ _⟩

theorem nT_size (t : ByteArray) (n : Nat) : (nT t n).size ≤ t.size := by
  unfold nT; split
  · exact Nat.le_refl _
  · unfold dT; split
    · rw [ByteArray.size_extract]; omega
    · exact Nat.le_refl _
theorem sgT_size (t l : ByteArray) : (sgT t l).size ≤ t.size := by
  unfold sgT; split
  · rw [ByteArray.size_extract]; omega
  · exact Nat.le_refl _
theorem ser_size (l : List (UInt8 × Nat × Int)) : ∀ t : ByteArray, (ser l t).2.1.size ≤ t.size := by
  induction l with
  | nil => intro t; exact Nat.le_refl _
  | cons x l ih =>
    obtain ⟨c, n, m⟩ := x
    intro t
    rw [ser]
    split
    · split
      · exact Nat.le_trans (ih _) (nT_size _ _)
      · exact nT_size _ _
    · split
      · split
        · exact Nat.le_trans (ih _) (Nat.le_trans (nT_size _ _) (sgT_size _ _))
        · exact Nat.le_trans (nT_size _ _) (sgT_size _ _)
      · exact Nat.le_refl _
theorem frN_lt (l : List UInt8) : frN l ≤ 999999999 := by
  unfold frN
  have h := frK_lt (l := l) (i := dgs l) (Nat.le_refl _)
  have h3 : frK l (dgs l) * 10 ^ (9 - dgs l) < 10 ^ min (dgs l) 9 * 10 ^ (9 - dgs l) := Nat.mul_lt_mul_of_pos_right h (Nat.pow_pos (by omega))
  rw [← Nat.pow_add] at h3
  have : min (dgs l) 9 + (9 - dgs l) = 9 := by omega
  rw [this] at h3
  omega
theorem frV_bd (t : ByteArray) : 0 ≤ frV t ∧ frV t ≤ 999999999 := by
  unfold frV; split
  · have := frN_lt (t.extract 1 t.size).data.toList; omega
  · omega
theorem zV_bd (t : ByteArray) : -86400 ≤ zV t ∧ zV t ≤ 86400 := by
  unfold zV
  have h0 : ∀ t, 0 ≤ (ser zL t).2.2.getD 0 0 ∧ (ser zL t).2.2.getD 0 0 ≤ 23 := by
    intro t
    unfold zL
    rw [ser, if_pos rfl]
    split
    · rename_i hw; exact ⟨nV_ge _ _, wB_le hw⟩
    · simp
  have h1 := ser_bound zL 59 (by decide) (by decide) (sgT t zSigns) 1
  have h0' := h0 (sgT t zSigns)
  split
  · split <;> omega
  · omega
theorem ser_pL (t : ByteArray) : PBd ((ser pL t).2.2.getD 0 0) ((ser pL t).2.2.getD 1 0) ((ser pL t).2.2.getD 2 0) ((ser pL t).2.2.getD 3 0) ((ser pL t).2.2.getD 4 0) ((ser pL t).2.2.getD 5 0) := by
  have hb : ∀ (l : List (UInt8 × Nat × Int)) (j : Nat) (M : Int) (t : ByteArray), (∀ x, l[j]? = some x → x.2.2 ≤ M) → 0 ≤ M → 0 ≤ (ser l t).2.2.getD j 0 ∧ (ser l t).2.2.getD j 0 ≤ M := by
    intro l
    induction l with
    | nil => intro j M t _ h0; simp [ser]; exact h0
    | cons x l ih =>
      obtain ⟨c, n, m⟩ := x
      intro j M t hM h0
      have step : ∀ t1 : ByteArray, wB t1 n m = true → 0 ≤ (nV t1 n :: (ser l (nT t1 n)).2.2).getD j 0 ∧ (nV t1 n :: (ser l (nT t1 n)).2.2).getD j 0 ≤ M := by
        intro t1 hw
        cases j with
        | zero => exact ⟨nV_ge _ _, Int.le_trans (wB_le hw) (hM _ rfl)⟩
        | succ j => exact ih j M _ (fun x hx => hM x (by simpa using hx)) h0
      rw [ser]
      split
      · split
        · exact step _ ‹_›
        · simp; exact h0
      · split
        · split
          · exact step _ ‹_›
          · simp; exact h0
        · simp; exact h0
  have b0 := hb pL 0 9999 t (by intro x hx; cases hx; decide) (by decide)
  have b1 := hb pL 1 12 t (by intro x hx; cases hx; decide) (by decide)
  have b2 := hb pL 2 31 t (by intro x hx; cases hx; decide) (by decide)
  have b3 := hb pL 3 23 t (by intro x hx; cases hx; decide) (by decide)
  have b4 := hb pL 4 59 t (by intro x hx; cases hx; decide) (by decide)
  have b5 := hb pL 5 59 t (by intro x hx; cases hx; decide) (by decide)
  exact ⟨b0.1, b0.2, b1.1, b1.2, b2.1, b2.2, b3.1, b3.2, b4.1, b4.2, b5.1, b5.2⟩

/-- What date.Parse answers. -/
def parseR (s : ByteArray) : Int × Int × Int :=
  dpR (ser pL s).1 ((ser pL s).2.2.getD 0 0) ((ser pL s).2.2.getD 1 0) ((ser pL s).2.2.getD 2 0) ((ser pL s).2.2.getD 3 0) ((ser pL s).2.2.getD 4 0) ((ser pL s).2.2.getD 5 0)
    (frV (ser pL s).2.1) (zV (frT (ser pL s).2.1)) (frOk (ser pL s).2.1) (zOk (frT (ser pL s).2.1)) (zT (frT (ser pL s).2.1))

theorem parse_any (s : ByteArray) (w : World) (hs : s.size ≤ 140737488351232) :
    Calls Tryd.prog 11 #[.string s] w (PPost w (parseR s).1 (parseR s).2.1 (parseR s).2.2) :=
  parse_x s (ser pL s).2.1 _ _ _ _ _ _ _ _ _ (Nat.le_trans (ser_size pL s) hs) ⟨rfl, rfl, rfl⟩ ⟨rfl, rfl, rfl⟩ (frV_bd _) (zV_bd _) w _ _ _ _ _ _ _ rfl (ser_pL s) (parse_series s _ w _ _ _ _ _ _ _ rfl rfl rfl rfl rfl rfl rfl rfl)
end Go.Proofs.YtfcmdameiabjmaaDoor.Txt
