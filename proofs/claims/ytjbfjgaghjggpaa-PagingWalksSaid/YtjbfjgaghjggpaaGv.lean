/- The given contracts of the law package's own functions: that the program's orders, pages, counts and links are the document's; what any right program answers. -/
import Derived.Test.YtjbfjgaghjggpaaPag
import Derived.Test.YtjbfjgaghjggpaaSme
import Derived.ChangeKeysEq
set_option linter.unusedVariables false
namespace Go.Proofs.Ytjbfjgaghjggpaa.Gv
open Go.RowKit Go.Sort Go.Proofs.Ytjbfjgaghjggpaa.Mrg Go.Proofs.Ytjbfjgaghjggpaa.Srt Go.Proofs.Ytjbfjgaghjggpaa.Lnk Go.Proofs.Ytjbfjgaghjggpaa.Pr Go.Proofs.Ytjbfjgaghjggpaa.Eq9 Go.Proofs.YtjbfjgaghjggpaaW.PrintWords

theorem bad_or_fit (n s : Int) (h : n ≤ 9223372036854775807) : Bad n s ∨ Fit n s := by unfold Bad Fit; omega
theorem countBoth (n s : Int) (h : n ≤ 9223372036854775807) : ∃ a e : Int, (∀ w, Calls Try.prog 11 #[.int .i64 n, .int .i64 s] w fun x w' => x = .returned (.tuple #[.int .i64 a, .int .i64 e]) ∧ Below w.heap.size w w') ∧ (∀ w, Calls Try.prog 20 #[.int .i64 n, .int .i64 s] w fun x w' => x = .returned (.tuple #[.int .i64 a, .int .i64 e]) ∧ Below w.heap.size w w') := by
  rcases bad_or_fit n s h with h | h
  · exact ⟨0, 1, fun w => countB w h, fun w => rcountB w h⟩
  · exact ⟨_, 0, fun w => countF w h, fun w => rcountF w h⟩
theorem linksBoth (n s k : Int) (h : n ≤ 9223372036854775807) : ∃ a b c d e : Int, (∀ w, Calls Try.prog 13 #[.int .i64 n, .int .i64 s, .int .i64 k] w fun x w' => x = .returned (.tuple #[.agg #[.int .i64 a, .int .i64 b, .int .i64 c, .int .i64 d], .int .i64 e]) ∧ Below w.heap.size w w') ∧ (∀ w, Calls Try.prog 22 #[.int .i64 n, .int .i64 s, .int .i64 k] w fun x w' => x = .returned (.tuple #[.agg #[.int .i64 a, .int .i64 b, .int .i64 c, .int .i64 d], .int .i64 e]) ∧ Below w.heap.size w w') := by
  rcases bad_or_fit n s h with h | h
  · exact ⟨0, 0, 0, 0, 1, fun w => linksB k w h, fun w => rlinksB k w h⟩
  · by_cases h1 : k < 1
    · exact ⟨0, 0, 0, 0, 10, fun w => linksN_1 k w h h1, fun w => rlinksN_1 k w h h1⟩
    · rcases Int.lt_trichotomy k (lastP n s) with h2 | h2 | h2
      · exact ⟨1, _, _, _, 0, fun w => linksO_1 k w h (by omega) h2, fun w => rlinksO_1 k w h (by omega) h2⟩
      · exact ⟨1, _, _, _, 0, fun w => linksO_2 k w h (by omega) h2, fun w => rlinksO_2 k w h (by omega) h2⟩
      · exact ⟨0, 0, 0, 0, 10, fun w => linksN_2 k w h (by omega) h2, fun w => rlinksN_2 k w h (by omega) h2⟩
/-- A page, or none: these members and this error. -/
def Pgd (xs : List S32) (er : Int) (w : World) (e : Ending) (w' : World) : Prop := ∃ (A' : Option Addr) (c' : Nat), e = .returned (.tuple #[.slice A' xs.length c', .int .i64 er]) ∧ xs.length ≤ c' ∧ Kd.C k32 w' A' xs.length xs ∧ Below w.heap.size w w'
theorem C_none (w : World) : Kd.C k32 w none ([] : List S32).length [] := ⟨rfl, by decide, fun h => absurd h (by decide)⟩
theorem pageBoth (l0 : List S32) (s k : Int) (hl : l0.length ≤ 1034834473200) : ∃ (xs : List S32) (er : Int), (∀ A cc w, Kd.C k32 w A l0.length l0 → Calls Try.prog 12 #[.slice A l0.length cc, .int .i64 s, .int .i64 k] w (Pgd xs er w)) ∧ (∀ A cc w, Kd.C k32 w A l0.length l0 → Calls Try.prog 21 #[.slice A l0.length cc, .int .i64 s, .int .i64 k] w (Pgd xs er w)) := by
  rcases bad_or_fit l0.length s (by omega) with h | h
  · exact ⟨[], 1, fun A cc w _ => (pageB A cc l0 s k w h).mono fun e w' ⟨a, b⟩ => ⟨none, 0, a, Nat.le_refl _, C_none _, b⟩, fun A cc w _ => (rpageB A cc l0 s k w h).mono fun e w' ⟨a, b⟩ => ⟨none, 0, a, Nat.le_refl _, C_none _, b⟩⟩
  · by_cases h1 : k < 1
    · exact ⟨[], 10, fun A cc w _ => (pageN1 A cc l0 s k w h h1).mono fun e w' ⟨a, b⟩ => ⟨none, 0, a, Nat.le_refl _, C_none _, b⟩, fun A cc w _ => (rpageN1 A cc l0 s k w h h1).mono fun e w' ⟨a, b⟩ => ⟨none, 0, a, Nat.le_refl _, C_none _, b⟩⟩
    · by_cases h2 : lastP l0.length s < k
      · exact ⟨[], 10, fun A cc w _ => (pageN2 A cc l0 s k w h (by omega) h2).mono fun e w' ⟨a, b⟩ => ⟨none, 0, a, Nat.le_refl _, C_none _, b⟩, fun A cc w _ => (rpageN2 A cc l0 s k w h (by omega) h2).mono fun e w' ⟨a, b⟩ => ⟨none, 0, a, Nat.le_refl _, C_none _, b⟩⟩
      · exact ⟨pageOf l0 s k, 0, fun A cc w hC => (pageO A cc l0 s k w hC hl h (by omega) (by omega)).mono fun e w' h => h, fun A cc w hC => (rpageO A cc l0 s k w hC hl h (by omega) (by omega)).mono fun e w' h => h⟩

theorem eqIntAt (d : Nat) (a b : Int) (w : World) : (Op.equalIn (d + 1) 3 (.int .i64 a) (.int .i64 b)).run Try.prog w = .ok (a == b) w := by
  go_simp
theorem eqItems_step {P : Program} {d : Nat} {e : TypeId} {c : Nat} {xs ys : Array Value} {i : Nat} {is : List Nat} {a b : Value} {r s : Bool} {w : World} (ha : (part e xs (i * c)).run P w = .ok a w) (hb : (part e ys (i * c)).run P w = .ok b w) (hr : (Op.equalIn d e a b).run P w = .ok r w) (hs : (Op.eqItems d e c xs ys is).run P w = .ok s w) :
    (Op.eqItems d e c xs ys (i :: is)).run P w = .ok (r && s) w := by
  simp only [Op.eqItems, Sem.run_bind, ha, hb, hr, Result.andThen_ok]
  cases r
  · simp
  · simpa using hs
theorem eqArr (a b c d a2 b2 c2 d2 : Int) (w : World) : (Op.equalIn 10000 41 (.agg #[.int .i64 a, .int .i64 b, .int .i64 c, .int .i64 d]) (.agg #[.int .i64 a2, .int .i64 b2, .int .i64 c2, .int .i64 d2])).run Try.prog w = .ok (a == a2 && (b == b2 && (c == c2 && d == d2))) w := by
  obtain ⟨i, hi⟩ : ∃ i, Try.prog.info? 3 = some i := Option.isSome_iff_exists.1 (by kernel_rfl)
  rw [run_equalIn_array w 9999 _ _ Try.underlying41 hi]
  have hc : Try.prog.cellsOf 3 = 1 := by kernel_rfl
  rw [hc, show List.range 4 = [0, 1, 2, 3] from rfl]
  have p0 : ∀ (x y z t : Int) (w : World), (part 3 #[.int .i64 x, .int .i64 y, .int .i64 z, .int .i64 t] (0 * 1)).run Try.prog w = .ok (.int .i64 x) w := fun x y z t w => by go_simp
  have p1 : ∀ (x y z t : Int) (w : World), (part 3 #[.int .i64 x, .int .i64 y, .int .i64 z, .int .i64 t] (1 * 1)).run Try.prog w = .ok (.int .i64 y) w := fun x y z t w => by go_simp
  have p2 : ∀ (x y z t : Int) (w : World), (part 3 #[.int .i64 x, .int .i64 y, .int .i64 z, .int .i64 t] (2 * 1)).run Try.prog w = .ok (.int .i64 z) w := fun x y z t w => by go_simp
  have p3 : ∀ (x y z t : Int) (w : World), (part 3 #[.int .i64 x, .int .i64 y, .int .i64 z, .int .i64 t] (3 * 1)).run Try.prog w = .ok (.int .i64 t) w := fun x y z t w => by go_simp
  refine eqItems_step (p0 _ _ _ _ w) (p0 _ _ _ _ w) (eqIntAt 9998 a a2 w) ?_
  refine eqItems_step (p1 _ _ _ _ w) (p1 _ _ _ _ w) (eqIntAt 9998 b b2 w) ?_
  refine eqItems_step (p2 _ _ _ _ w) (p2 _ _ _ _ w) (eqIntAt 9998 c c2 w) ?_
  have h := eqItems_step (is := []) (s := true) (p3 a b c d w) (p3 a2 b2 c2 d2 w) (eqIntAt 9998 d d2 w) (by simp [Op.eqItems])
  rw [Bool.and_true] at h
  exact h

set_option maxHeartbeats 4000000 in
theorem same (A0 : Option Addr) (c0 : Nat) (l0 : List S32) (n s k : Int) (w : World) (hC : Kd.C k32 w A0 l0.length l0) (hc : l0.length ≤ c0) (hl : l0.length ≤ 1034834473200) (hn : n ≤ 9223372036854775807) :
    Calls Try.prog 10 #[.slice A0 l0.length c0, .int .i64 n, .int .i64 s, .int .i64 k] w fun e w' => e = .returned (.bool true) ∧ Below w.heap.size w w' := by
  obtain ⟨a, ea, A1, A2⟩ := countBoth n s hn
  obtain ⟨la, lb, lc, ld, le, L1, L2⟩ := linksBoth n s k hn
  obtain ⟨xs, er, P1, P2⟩ := pageBoth l0 s k hl
  obtain ⟨m, hm⟩ : ∃ m, m = l0.length := ⟨_, rfl⟩
  have HC := Lib.hid hC
  have HP := Lib.hid (And.intro P1 P2)
  have HL := Lib.hid hl
  clear hC P1 P2 hl
  rw [← hm] at hc ⊢
  have HM := Lib.hid hm
  clear hm
  go_enter Try.func10, Try.ntmps10
  go_wp2_with fail
  refine (A1 _).mono ?_
  rintro e w1 ⟨rfl, hb1⟩
  go_wp2_with fail
  refine (A2 _).mono ?_
  rintro e w2 ⟨rfl, hb2⟩
  have B2 : Hid (Below w.heap.size w w2) := hb1.trans (hb2.mono hb1.size)
  clear hb1 hb2 A1 A2
  go_wp2_with fail
  have Q1 := HP.out.1 A0 c0 w2 (Kd.C_below HC.out B2.out)
  rw [← HM.out] at Q1
  refine Q1.mono ?_
  clear Q1
  rintro e w3 ⟨X1, cx1, rfl, hx1, hX1, hb3⟩
  have B3 : Hid (Below w.heap.size w w3) := B2.out.trans (hb3.mono B2.out.size)
  have HX1 := Lib.hid (And.intro hx1 hX1)
  clear hx1 hX1 hb3 B2
  go_wp2_with fail
  have Q1 := HP.out.2 A0 c0 w3 (Kd.C_below HC.out B3.out)
  rw [← HM.out] at Q1
  refine Q1.mono ?_
  clear Q1
  rintro e w4 ⟨X2, cx2, rfl, hx2, hX2, hb4⟩
  have B4 : Hid (Below w.heap.size w w4) := B3.out.trans (hb4.mono B3.out.size)
  have HX : Hid (xs.length ≤ cx1 ∧ Kd.C k32 w4 X1 xs.length xs ∧ xs.length ≤ cx2 ∧ Kd.C k32 w4 X2 xs.length xs) := ⟨HX1.out.1, Kd.C_below HX1.out.2 hb4, hx2, hX2⟩
  clear hx2 hX2 hb4 B3 HX1
  go_wp2_with fail
  refine (L1 _).mono ?_
  rintro e w5 ⟨rfl, hb5⟩
  have B5 : Hid (Below w4.heap.size w4 w5) := hb5
  have s5 := hb5.size
  clear hb5
  go_wp2_with fail
  refine (L2 _).mono ?_
  rintro e w6 ⟨rfl, hb6⟩
  have n5 := new_blk _ _ _ hb6
  have B6 : Hid (Below w4.heap.size w4 w6) := (B5.out.alloc s5 _).trans (hb6.mono (by simp; omega))
  have K5 : Hid (w6.heap[w5.heap.size]? = some (.cells #[.int .i64 la, .int .i64 lb, .int .i64 lc, .int .i64 ld] 41 (0, 0))) := n5.1
  have s6 := n5.2
  clear hb6 n5 B5 L1 L2
  go_wp2_with fail
  have X7 : Hid (Below w4.heap.size w4 (w6.alloc (.cells #[.int .i64 la, .int .i64 lb, .int .i64 lc, .int .i64 ld] 41))) := B6.out.alloc B6.out.size _
  have HCX : Hid (Kd.C k32 (w6.alloc (.cells #[.int .i64 la, .int .i64 lb, .int .i64 lc, .int .i64 ld] 41)) A0 l0.length l0) := Kd.C_below (Kd.C_below HC.out B4.out) X7.out
  have Q1 := orderC A0 c0 l0 _ HCX.out HL.out
  rw [← HM.out] at Q1
  refine Q1.mono ?_
  clear Q1
  rintro e w7 ⟨O1, co1, rfl, ho1, hO1, hb7⟩
  have n6 := new_blk _ _ _ hb7
  have B7 : Hid (Below w4.heap.size w4 w7) := X7.out.trans (hb7.mono (X7.out.size))
  have HC7 : Hid (Kd.C k32 w7 A0 l0.length l0) := Kd.C_below HCX.out hb7
  have K6 : Hid (w7.heap[w6.heap.size]? = some (.cells #[.int .i64 la, .int .i64 lb, .int .i64 lc, .int .i64 ld] 41 (0, 0)) ∧ w7.heap[w5.heap.size]? = some (.cells #[.int .i64 la, .int .i64 lb, .int .i64 lc, .int .i64 ld] 41 (0, 0)) ∧ w5.heap.size < w7.heap.size ∧ w6.heap.size < w7.heap.size) := ⟨n6.1, (hb7.block _ (by simp; omega)).trans (alloc_old _ _ _ _ K5.out), by omega, n6.2⟩
  have HO1 := Lib.hid (And.intro ho1 hO1)
  clear ho1 hO1 hb7 n6 HCX K5 B6 X7
  rw [← HM.out]
  go_wp2_with fail
  have Q1 := rorderC A0 c0 l0 _ HC7.out HL.out
  rw [← HM.out] at Q1
  refine Q1.mono ?_
  clear Q1
  rintro e w8 ⟨O2, co2, rfl, ho2, hO2, hb8⟩
  have B8 : Hid (Below w4.heap.size w4 w8) := B7.out.trans (hb8.mono B7.out.size)
  have K8 : Hid (w8.heap[w6.heap.size]? = some (.cells #[.int .i64 la, .int .i64 lb, .int .i64 lc, .int .i64 ld] 41 (0, 0)) ∧ w8.heap[w5.heap.size]? = some (.cells #[.int .i64 la, .int .i64 lb, .int .i64 lc, .int .i64 ld] 41 (0, 0)) ∧ w5.heap.size < w8.heap.size ∧ w6.heap.size < w8.heap.size) := ⟨(hb8.block _ K6.out.2.2.2).trans K6.out.1, (hb8.block _ K6.out.2.2.1).trans K6.out.2.1, by have := K6.out; have := hb8.size; omega, by have := K6.out; have := hb8.size; omega⟩
  have HO2 : Hid (m ≤ co1 ∧ Kd.C k32 w8 O1 m (isort ltM l0) ∧ m ≤ co2 ∧ Kd.C k32 w8 O2 m (isort ltM l0)) := by rw [HM.out]; exact ⟨HO1.out.1, Kd.C_below HO1.out.2 hb8, ho2, hO2⟩
  clear ho2 hO2 hb8 HO1 K6 B7 HC7
  rw [← HM.out]
  go_wp2_with fail
  have il : (isort ltM l0).length = m := by rw [isort_len, HM.out]
  have Q1 := sameC O1 co1 O2 co2 (isort ltM l0) w8 (by rw [il]; exact HO2.out.2.1) (by rw [il]; exact HO2.out.1) (by rw [il]; exact HO2.out.2.2.2) (by rw [il]; exact HO2.out.2.2.1)
  rw [il] at Q1
  refine Q1.mono ?_
  clear Q1 il HO2
  rintro e w9 ⟨rfl, hb9⟩
  have B9 : Hid (Below w4.heap.size w4 w9) := B8.out.trans (hb9.mono B8.out.size)
  have K9 : Hid (w9.heap[w6.heap.size]? = some (.cells #[.int .i64 la, .int .i64 lb, .int .i64 lc, .int .i64 ld] 41 (0, 0)) ∧ w9.heap[w5.heap.size]? = some (.cells #[.int .i64 la, .int .i64 lb, .int .i64 lc, .int .i64 ld] 41 (0, 0)) ∧ w5.heap.size < w9.heap.size ∧ w6.heap.size < w9.heap.size) := ⟨(hb9.block _ K8.out.2.2.2).trans K8.out.1, (hb9.block _ K8.out.2.2.1).trans K8.out.2.1, by have := K8.out; have := hb9.size; omega, by have := K8.out; have := hb9.size; omega⟩
  clear hb9 K8 B8
  go_wp2_with fail
  have Q1 := sameC X1 cx1 X2 cx2 xs w9 (Kd.C_below HX.out.2.1 B9.out) HX.out.1 (Kd.C_below HX.out.2.2.2 B9.out) HX.out.2.2.1
  refine Q1.mono ?_
  clear Q1
  rintro e w10 ⟨rfl, hb10⟩
  have B10 : Hid (Below w.heap.size w w10) := B4.out.trans ((B9.out.trans (hb10.mono B9.out.size)).mono B4.out.size)
  have k6 : w10.heap[w6.heap.size]? = some (.cells #[.int .i64 la, .int .i64 lb, .int .i64 lc, .int .i64 ld] 41 (0, 0)) := (hb10.block _ K9.out.2.2.2).trans K9.out.1
  have k5 : w10.heap[w5.heap.size]? = some (.cells #[.int .i64 la, .int .i64 lb, .int .i64 lc, .int .i64 ld] 41 (0, 0)) := (hb10.block _ K9.out.2.2.1).trans K9.out.2.1
  have c60 := (blk_cell k6 0 _ rfl).1
  have c61 := (blk_cell k6 1 _ rfl).1
  have c62 := (blk_cell k6 2 _ rfl).1
  have c63 := (blk_cell k6 3 _ rfl).1
  have c50 := (blk_cell k5 0 _ rfl).1
  have c51 := (blk_cell k5 1 _ rfl).1
  have c52 := (blk_cell k5 2 _ rfl).1
  have c53 := (blk_cell k5 3 _ rfl).1
  clear hb10 k6 k5 K9 B9 HX
  have eqx := fun w => eqArr la lb lc ld la lb lc ld w
  simp only [beq_self_eq_true, Bool.and_self] at eqx
  go_wp2_with fail
  go_ret
  exact ⟨rfl, B10.out⟩
/-- The members that 'awake' orders. -/
def aw (n e : Int) : S32 := ⟨n, e, ⟨#[]⟩, z30⟩
theorem awC (w : World) : Kd.C k32 (w.alloc (.cells #[.int .i64 1, .int .i64 5, .string ⟨#[]⟩, .int .i64 0, .string ⟨#[]⟩, .string ⟨#[]⟩, .slice none 0 0, .slice none 0 0, .string ⟨#[]⟩, .int .i64 2, .int .i64 9, .string ⟨#[]⟩, .int .i64 0, .string ⟨#[]⟩, .string ⟨#[]⟩, .slice none 0 0, .slice none 0 0, .string ⟨#[]⟩, .int .i64 3, .int .i64 5, .string ⟨#[]⟩, .int .i64 0, .string ⟨#[]⟩, .string ⟨#[]⟩, .slice none 0 0, .slice none 0 0, .string ⟨#[]⟩] 32)) (some ⟨w.heap.size, 0, none⟩) [aw 1 5, aw 2 9, aw 3 5].length [aw 1 5, aw 2 9, aw 3 5] := by
  have hk : ∀ (n e : Int) (W : World), k32.K W (aw n e) [.int .i64 n, .int .i64 e, .string ⟨#[]⟩, .int .i64 0, .string ⟨#[]⟩, .string ⟨#[]⟩, .slice none 0 0, .slice none 0 0, .string ⟨#[]⟩] := fun n e W =>
    k32_mk W (aw n e) (A6 := none) (c6 := 0) (Nat.le_refl 0) ⟨rfl, Nat.zero_le _, fun h => absurd h (Nat.lt_irrefl 0)⟩ (A7 := none) (c7 := 0) (Nat.le_refl 0) ⟨rfl, Nat.zero_le _, fun h => absurd h (Nat.lt_irrefl 0)⟩
  refine ⟨rfl, by decide, fun _ => ⟨_, rfl, fun j p hj => ?_⟩⟩
  have hb := alloc_new w (.cells #[.int .i64 1, .int .i64 5, .string ⟨#[]⟩, .int .i64 0, .string ⟨#[]⟩, .string ⟨#[]⟩, .slice none 0 0, .slice none 0 0, .string ⟨#[]⟩, .int .i64 2, .int .i64 9, .string ⟨#[]⟩, .int .i64 0, .string ⟨#[]⟩, .string ⟨#[]⟩, .slice none 0 0, .slice none 0 0, .string ⟨#[]⟩, .int .i64 3, .int .i64 5, .string ⟨#[]⟩, .int .i64 0, .string ⟨#[]⟩, .string ⟨#[]⟩, .slice none 0 0, .slice none 0 0, .string ⟨#[]⟩] 32)
  have hcell : ∀ (i : Nat) (v : Value), ((#[.int .i64 1, .int .i64 5, .string ⟨#[]⟩, .int .i64 0, .string ⟨#[]⟩, .string ⟨#[]⟩, .slice none 0 0, .slice none 0 0, .string ⟨#[]⟩, .int .i64 2, .int .i64 9, .string ⟨#[]⟩, .int .i64 0, .string ⟨#[]⟩, .string ⟨#[]⟩, .slice none 0 0, .slice none 0 0, .string ⟨#[]⟩, .int .i64 3, .int .i64 5, .string ⟨#[]⟩, .int .i64 0, .string ⟨#[]⟩, .string ⟨#[]⟩, .slice none 0 0, .slice none 0 0, .string ⟨#[]⟩] : Array Value))[i]? = some v → (w.alloc (.cells #[.int .i64 1, .int .i64 5, .string ⟨#[]⟩, .int .i64 0, .string ⟨#[]⟩, .string ⟨#[]⟩, .slice none 0 0, .slice none 0 0, .string ⟨#[]⟩, .int .i64 2, .int .i64 9, .string ⟨#[]⟩, .int .i64 0, .string ⟨#[]⟩, .string ⟨#[]⟩, .slice none 0 0, .slice none 0 0, .string ⟨#[]⟩, .int .i64 3, .int .i64 5, .string ⟨#[]⟩, .int .i64 0, .string ⟨#[]⟩, .string ⟨#[]⟩, .slice none 0 0, .slice none 0 0, .string ⟨#[]⟩] 32)).cell? ((⟨w.heap.size, 0, none⟩ : Addr).add i) = some v := by
    intro i v hv
    rw [Addr.add_lit, Nat.zero_add]
    exact (blk_cell hb i v hv).1
  generalize (w.alloc _) = W at hcell ⊢
  clear hb
  rcases j with _ | _ | _ | j
  · obtain rfl := Option.some.inj hj
    refine ⟨_, rfl, hk 1 5 W, fun i u hi => hcell (0 * 9 + i) u ?_⟩
    rcases i with _ | _ | _ | _ | _ | _ | _ | _ | _ | i <;> first | exact hi | (simp at hi)
  · obtain rfl := Option.some.inj hj
    refine ⟨_, rfl, hk 2 9 W, fun i u hi => hcell (1 * 9 + i) u ?_⟩
    rcases i with _ | _ | _ | _ | _ | _ | _ | _ | _ | i <;> first | exact hi | (simp at hi)
  · obtain rfl := Option.some.inj hj
    refine ⟨_, rfl, hk 3 5 W, fun i u hi => hcell (2 * 9 + i) u ?_⟩
    rcases i with _ | _ | _ | _ | _ | _ | _ | _ | _ | i <;> first | exact hi | (simp at hi)
  · simp at hj

set_option maxHeartbeats 2000000 in
theorem awake (w : World) : Calls Try.prog 7 #[] w fun e w' => e = .returned (.bool true) ∧ Below w.heap.size w w' := by
  have C1 := orderC _ 3 _ _ (awC w) (by decide)
  have B1 : Hid (Below w.heap.size w (w.alloc (.cells #[.int .i64 1, .int .i64 5, .string ⟨#[]⟩, .int .i64 0, .string ⟨#[]⟩, .string ⟨#[]⟩, .slice none 0 0, .slice none 0 0, .string ⟨#[]⟩, .int .i64 2, .int .i64 9, .string ⟨#[]⟩, .int .i64 0, .string ⟨#[]⟩, .string ⟨#[]⟩, .slice none 0 0, .slice none 0 0, .string ⟨#[]⟩, .int .i64 3, .int .i64 5, .string ⟨#[]⟩, .int .i64 0, .string ⟨#[]⟩, .string ⟨#[]⟩, .slice none 0 0, .slice none 0 0, .string ⟨#[]⟩] 32))) := (Below.refl _ _).alloc (Nat.le_refl _) _
  go_enter Try.func7, Try.ntmps7
  go_wp2_with fail
  refine C1.mono ?_
  clear C1
  rintro e w1 ⟨A', c', rfl, hc', hC', hb1⟩
  have B2 : Hid (Below w.heap.size w w1) := B1.out.trans (hb1.mono B1.out.size)
  have HC : Hid (Kd.C k32 w1 A' 3 [aw 2 9, aw 3 5, aw 1 5]) := by
    have e : isort ltM [aw 1 5, aw 2 9, aw 3 5] = [aw 2 9, aw 3 5, aw 1 5] := by simp [isort, ins, ltM, aw]
    rw [e] at hC'
    exact hC'
  clear hC' hb1 B1
  have C2 : ∀ w, Calls Try.prog 13 #[.int .i64 3, .int .i64 2, .int .i64 1] w fun e w' => e = .returned (.tuple #[.agg #[.int .i64 1, .int .i64 0, .int .i64 2, .int .i64 2], .int .i64 0]) ∧ Below w.heap.size w w' := fun w =>
    linksO_1 (n := 3) (s := 2) 1 w (by unfold Fit; omega) (by omega) (by decide)
  go_wp2_with fail
  refine (C2 _).mono ?_
  clear C2
  rintro e w2 ⟨rfl, hb2⟩
  have B3 : Hid (Below w.heap.size w w2) := B2.out.trans (hb2.mono B2.out.size)
  have hC2 : Kd.C k32 w2 A' 3 [aw 2 9, aw 3 5, aw 1 5] := Kd.C_below HC.out hb2
  obtain ⟨ad, _, _, _, _, rfl, g0, _⟩ := at_T32 hC2 0 (by omega) (by omega)
  obtain ⟨ad1, _, _, _, _, e1, g1, _⟩ := at_T32 hC2 1 (by omega) (by omega)
  obtain ⟨ad2, _, _, _, _, e2, g2, _⟩ := at_T32 hC2 2 (by omega) (by omega)
  obtain rfl := Option.some.inj e1
  obtain rfl := Option.some.inj e2
  obtain ⟨bl, off, sp⟩ := ad
  have g0 : w2.cell? ⟨bl, off, sp⟩ = some (.int .i64 2) := g0
  have g1 : w2.cell? ⟨bl, off + 9, none⟩ = some (.int .i64 3) := g1
  have g2 : w2.cell? ⟨bl, off + 18, none⟩ = some (.int .i64 1) := g2
  have hbl : bl < w2.heap.size := World.block_lt_of_cell? w2 _ g0
  have a9 : (⟨bl, off, sp⟩ : Addr).add 9 = ⟨bl, off + 9, none⟩ := rfl
  have a18 : (⟨bl, off, sp⟩ : Addr).add 18 = ⟨bl, off + 18, none⟩ := rfl
  clear hC2 hb2 HC B2 e1 e2
  have eqx := fun w => eqArr 1 0 2 2 1 0 2 2 w
  simp only [beq_self_eq_true, Bool.and_self] at eqx
  go_wp2_with fail
  go_ret
  exact ⟨rfl, B3.out.alloc B3.out.size _⟩

def broadsheetlaw22_awake.f : Option Bool := some true
theorem broadsheetlaw22_awake.calls (r : Bool) (w : World) (h : broadsheetlaw22_awake.f = some r) : Calls Try.prog 7 #[] w fun e w' => e = .returned (.bool r) ∧ Below w.heap.size w w' := by
  obtain rfl := Option.some.inj h
  exact awake w
def broadsheetlaw22_same.f (l : List S32) (a1 a2 a3 : Int) : Option Bool := if l.length ≤ 1034834473200 ∧ a1 ≤ 9223372036854775807 then some true else none
theorem broadsheetlaw22_same.calls (A0 : Option Addr) (c0 : Nat) (l0 : List (S32)) (a1 : Int) (a2 : Int) (a3 : Int) (r : Bool) (w : World) (hr0 : Kd.C k32 w A0 l0.length l0) (hc0 : l0.length ≤ c0) (h : broadsheetlaw22_same.f l0 a1 a2 a3 = some r) :
    Calls Try.prog 10 #[.slice A0 l0.length c0, .int .i64 a1, .int .i64 a2, .int .i64 a3] w fun e w' => e = .returned (.bool r) ∧ Below w.heap.size w w' := by
  unfold broadsheetlaw22_same.f at h
  split at h
  case isFalse => cases h
  case isTrue hx =>
    obtain rfl := Option.some.inj h
    exact same A0 c0 l0 a1 a2 a3 w hr0 hc0 hx.1 hx.2
end Go.Proofs.Ytjbfjgaghjggpaa.Gv
