/- law15's El and Plain, and both services, by hand: what they make, and where it lies. -/
import Derived.Test.YtjbckpoepfbgbaaDoorBd3
set_option linter.unusedVariables false
set_option linter.unusedSimpArgs false
set_option maxRecDepth 20000
namespace Go.Proofs.YtjbckpoepfbgbaaDoor.Fd
open Go.RowKit Go.Lib Go.Proofs.YtjbckpoepfbgbaaDoor.Pr Go.Proofs.YtjbckpoepfbgbaaDoor.Gv Go.Proofs.YtjbckpoepfbgbaaDoor.Lnk Go.Proofs.YtjbckpoepfbgbaaDoor.Mrg Go.Proofs.YtjbckpoepfbgbaaDoor.Srt Go.Proofs.YtjbckpoepfbgbaaDoor.Fun Go.Proofs.YtjbckpoepfbgbaaDoor.Txt Go.Proofs.YtjbckpoepfbgbaaDoorW.PrintWords Go.Proofs.YtjbckpoepfbgbaaDoorW.PrintLast Go.Proofs.YtjbckpoepfbgbaaDoorW.PrintMore
theorem blk_top (w : World) (o : Obj) {g : Nat} (hg : g = w.heap.size) : (w.alloc o).heap[g]? = some o := by rw [hg]; exact alloc_at w o
/-- A literal's block: the elements lie in it, and in what was made. -/
theorem F_lit {α : Type} {d : Kd α} {W : World} {s g t : Nat} {xs : List α} {inner : List Value} (hb : W.heap[g]? = some (.cells inner.toArray t (0, 0))) (hg : s ≤ g) (hrep : Reps (Kd.FK d W (fun k => s ≤ k)) d.sz xs inner) (hm : xs.length ≤ 9223372036854775807) :
    Kd.F d W (fun k => s ≤ k) (some ⟨g, 0, none⟩) xs.length xs := by
  intro W' hW'
  refine ⟨rfl, hm, fun hp => ⟨⟨g, 0, none⟩, rfl, fun j p hj => ?_⟩⟩
  have hjl : j < xs.length := (List.getElem?_eq_some_iff.1 hj).1
  have hk := hrep.2 j p hj
  have hlen : (j + 1) * d.sz ≤ inner.length := by rw [hrep.1]; exact Nat.mul_le_mul_right _ hjl
  rw [Nat.add_mul, Nat.one_mul] at hlen
  refine ⟨_, by rw [List.length_take, List.length_drop]; omega, hk W' hW', fun i u hu => ?_⟩
  have h1 : W'.heap[g]? = some (.cells inner.toArray t (0, 0)) := (hW' g hg (blk_lt hb)).trans hb
  have hi : i < d.sz := by
    have := (List.getElem?_eq_some_iff.1 hu).1
    rw [List.length_take] at this
    omega
  rw [List.getElem?_take_of_lt hi, List.getElem?_drop] at hu
  have e0 : (⟨g, 0, none⟩ : Addr).add (j * d.sz + i) = ⟨g, j * d.sz + i, none⟩ := by
    unfold Addr.add
    simp
    omega
  rw [e0]
  exact (Lnk.blk_cell h1 (j * d.sz + i) u (by simpa using hu)).1
/-- A node that lies in one block of cells, its lists made since s. -/
theorem fk_leaf (W : World) (s : Nat) (n : Int) (a b t : ByteArray) : Kd.FK k28 W (fun k => s ≤ k) ⟨n, a, b, [], [], t⟩ [.int .i64 n, .string a, .string b, .slice none 0 0, .slice none 0 0, .string t] :=
  k28_mkF W _ ⟨n, a, b, [], [], t⟩ (Nat.le_refl _) (Kd.F_nil _ _ _) (Nat.le_refl _) (Kd.F_nil _ _ _)
def elx (a b : ByteArray) : S28 := if b.toList = ([] : List UInt8) then ⟨0, atomB, a, [], [], ⟨#[]⟩⟩ else ⟨0, atomB, a, [], [⟨1, ⟨#[]⟩, ⟨#[]⟩, [], [], b⟩], ⟨#[]⟩⟩
set_option maxHeartbeats 1000000 in
theorem el15N (a b : ByteArray) (w : World) (hb : (b.toList == ([] : List UInt8)) = true) : Calls Tryd.prog 34 #[.string a, .string b] w fun e w' => e = .returned (.agg #[.int .i64 0, .string atomB, .string a, .slice none 0 0, .slice none 0 0, .string ⟨#[]⟩]) ∧ Below w.heap.size w w' := by
  have hb2 : (b.toList != ([] : List UInt8)) = false := bne_eq_false_iff_eq.2 (beq_iff_eq.1 hb)
  go_enter Tryd.func34, Tryd.ntmps34
  go_wp2_with fail
  exact bodyPost_ret (v := .agg #[.int .i64 0, .string atomB, .string a, .slice none 0 0, .slice none 0 0, .string ⟨#[]⟩]) (by simp [results, Tryd.results34, go_sem]; rfl) rfl ⟨rfl, ((Below.refl _ _).alloc (Nat.le_refl _) _).alloc (by simp) _⟩
theorem el15E (a : ByteArray) (w : World) : Calls Tryd.prog 34 #[.string a, .string ⟨#[]⟩] w fun e w' => e = .returned (.agg #[.int .i64 0, .string atomB, .string a, .slice none 0 0, .slice none 0 0, .string ⟨#[]⟩]) ∧ Below w.heap.size w w' :=
  el15N a _ w (by rw [ByteArray.toList_eq]; rfl)
set_option maxHeartbeats 1000000 in
theorem el15C (a b : ByteArray) (w : World) : MadeC 34 #[.string a, .string b] (elx a b) w := by
  by_cases h : b.toList = ([] : List UInt8)
  · have hb : (b.toList == ([] : List UInt8)) = true := beq_iff_eq.2 h
    have he : elx a b = ⟨0, atomB, a, [], [], ⟨#[]⟩⟩ := by unfold elx; rw [if_pos h]
    refine (el15N a b w hb).mono ?_
    rintro e w' ⟨rfl, hb9⟩
    rw [he]
    exact ⟨_, rfl, ⟨_, _, rfl, fk_leaf _ _ _ _ _ _⟩, hb9⟩
  · have hb : (b.toList == ([] : List UInt8)) = false := beq_eq_false_iff_ne.2 h
    have hb2 : (b.toList != ([] : List UInt8)) = true := bne_iff_ne.2 h
    have he : elx a b = ⟨0, atomB, a, [], [⟨1, ⟨#[]⟩, ⟨#[]⟩, [], [], b⟩], ⟨#[]⟩⟩ := by unfold elx; rw [if_neg h]
    have HE := Lib.hid he
    clear he h
    unfold MadeC
    go_enter Tryd.func34, Tryd.ntmps34
    go_wp2_with fail
    refine bodyPost_ret (v := .agg #[.int .i64 0, .string atomB, .string a, .slice none 0 0, .slice (some ⟨w.heap.size + 1 + 1, 0, none⟩) 1 1, .string ⟨#[]⟩]) (by simp [results, Tryd.results34, go_sem]; rfl) rfl ⟨_, rfl, ?_, (((Below.refl _ _).alloc (Nat.le_refl _) _).alloc (by simp) _).alloc (by simp; omega) _⟩
    rw [HE.out]
    refine ⟨_, _, rfl, k28_mkF _ _ ⟨0, atomB, a, [], [⟨1, ⟨#[]⟩, ⟨#[]⟩, [], [], b⟩], ⟨#[]⟩⟩ (Nat.le_refl _) (Kd.F_nil _ _ _) (Nat.le_refl _) ?_⟩
    exact F_lit (d := k28) (t := 28) (g := w.heap.size + 1 + 1) (inner := [.int .i64 1, .string ⟨#[]⟩, .string ⟨#[]⟩, .slice none 0 0, .slice none 0 0, .string b]) (blk_top _ _ (by simp)) (by omega) (Reps.c6 (fk_leaf _ _ _ _ _ _) (Reps.none _ _)) (by simp)
/-- An entry with an author and a title. -/
def plainN (a : ByteArray) : S28 := ⟨0, atomB, ⟨#[101, 110, 116, 114, 121]⟩, [], [⟨0, atomB, ⟨#[97, 117, 116, 104, 111, 114]⟩, [], [elx ⟨#[110, 97, 109, 101]⟩ ⟨#[65]⟩], ⟨#[]⟩⟩, elx ⟨#[116, 105, 116, 108, 101]⟩ a], ⟨#[]⟩⟩
theorem F_far4 {α : Type} {d : Kd α} {W : World} {s n : Nat} {A : Option Addr} {xs : List α} (h : Kd.F d W (fun k => s ≤ k) A n xs) {g o : Nat} (hg : g < s) (u : Value) : Kd.F d (W.setCell ⟨g, o, none⟩ u) (fun k => s ≤ k) A n xs := Kd.F_far (p := ⟨g, o, none⟩) h (fun k hk => by show k ≠ g; omega) u
theorem FK_far4 {W : World} {s : Nat} {x : S28} {c : List Value} (h : Kd.FK k28 W (fun k => s ≤ k) x c) {g o : Nat} (hg : g < s) (u : Value) : Kd.FK k28 (W.setCell ⟨g, o, none⟩ u) (fun k => s ≤ k) x c :=
  Kd.FK_step h (fun k hk hlt => Below.heap_setCell _ _ _ _ (show k ≠ g by omega))
set_option maxHeartbeats 4000000 in
theorem plainC (a : ByteArray) (w : World) : Calls Tryd.prog 16 #[.string a] w fun e w' => ∃ v4 : Value, e = .returned (.agg #[.int .i64 0, .string atomB, .string ⟨#[101, 110, 116, 114, 121]⟩, .slice none 0 0, v4, .string ⟨#[]⟩]) ∧ Kd.N k28 28 w' w.heap.size (fun k => w.heap.size ≤ k) v4 (plainN a).f4 ∧ Below w.heap.size w w' := by
  obtain ⟨xn, hxn⟩ : ∃ x, x = elx ⟨#[110, 97, 109, 101]⟩ ⟨#[65]⟩ := ⟨_, rfl⟩
  obtain ⟨xt, hxt⟩ : ∃ x, x = elx ⟨#[116, 105, 116, 108, 101]⟩ a := ⟨_, rfl⟩
  have CN : Hid (∀ W, MadeC 34 #[.string ⟨#[110, 97, 109, 101]⟩, .string ⟨#[65]⟩] xn W) := fun W => by rw [hxn]; exact el15C _ _ W
  have CT : Hid (∀ W, MadeC 34 #[.string ⟨#[116, 105, 116, 108, 101]⟩, .string a] xt W) := fun W => by rw [hxt]; exact el15C _ _ W
  have HX : Hid (plainN a = ⟨0, atomB, ⟨#[101, 110, 116, 114, 121]⟩, [], [⟨0, atomB, ⟨#[97, 117, 116, 104, 111, 114]⟩, [], [xn], ⟨#[]⟩⟩, xt], ⟨#[]⟩⟩) := by show _ = _; rw [hxn, hxt]; rfl
  clear hxn hxt
  go_enter Tryd.func16, Tryd.ntmps16
  go_wp2_with fail
  refine (el15E _ _).mono ?_
  rintro e w1 ⟨rfl, hb1⟩
  have HB1 : Hid (Below w.heap.size w w1) := ((Below.refl _ _).alloc (Nat.le_refl _) _).trans (hb1.mono (by simp))
  have BR := Lib.hid (new_blk _ _ _ hb1).1
  have hlr : w.heap.size < w1.heap.size := blk_lt BR.out
  clear hb1
  go_wp2_with fail
  refine (el15E _ _).mono ?_
  rintro e w2 ⟨rfl, hb2⟩
  have HB2 : Hid (Below w.heap.size w w2) := (HB1.out.alloc HB1.out.size _).trans (hb2.mono (HB1.out.alloc HB1.out.size _).size)
  have B3 := Lib.hid (new_blk _ _ _ hb2).1
  have BR2 := Lib.hid ((hb2.block _ (by simp; omega)).trans ((Below.heap_alloc w1 _ _ hlr).trans BR.out))
  have hl3 : w1.heap.size < w2.heap.size := blk_lt B3.out
  clear hb2 BR
  go_wp2_with fail
  refine (CN.out _).mono ?_
  rintro e w3 ⟨v3, rfl, ⟨m3, m4, rfl, hf3⟩, hb3⟩
  have hsz : (w2.alloc (Obj.cells #[.int .i64 0, .string atomB, .string ⟨#[97, 117, 116, 104, 111, 114]⟩, .slice none 0 0, .slice none 0 0, .string ⟨#[]⟩] 28)).heap.size = w2.heap.size + 1 := by simp
  have HF3 : Hid (Kd.FK k28 w3 (fun k => w2.heap.size + 1 ≤ k) xn [.int .i64 xn.f0, .string xn.f1, .string xn.f2, m3, m4, .string xn.f5]) := by rw [← hsz]; exact hf3
  have HB3 : Hid (Below w.heap.size w w3) := (HB2.out.alloc HB2.out.size _).trans (hb3.mono (HB2.out.alloc HB2.out.size _).size)
  have B4 := Lib.hid (new_blk _ _ _ hb3).1
  have B33 := Lib.hid ((hb3.block _ (by simp; omega)).trans ((Below.heap_alloc w2 _ _ hl3).trans B3.out))
  have BR3 := Lib.hid ((hb3.block _ (by simp; omega)).trans ((Below.heap_alloc w2 _ _ (by omega)).trans BR2.out))
  have hl4 : w2.heap.size < w3.heap.size := blk_lt B4.out
  have c4 := (Lnk.blk_cell B4.out 4 _ rfl).1
  have f4 := (Lnk.blk_cell B4.out 4 _ rfl).2
  clear hb3 hf3 hsz B3 BR2 HB1 HB2
  go_wp2_with fail
  have hsc : (w3.setCell ⟨w2.heap.size, 4, none⟩ (.slice (some ⟨w3.heap.size, 0, none⟩) 1 1)).heap.size = w3.heap.size := by simp [World.setCell]
  have B4s := blk_put B4.out 4 (.slice (some ⟨w3.heap.size, 0, none⟩) 1 1) rfl
  have B4' := Lib.hid ((Below.heap_alloc _ (.cells #[.int .i64 xn.f0, .string xn.f1, .string xn.f2, m3, m4, .string xn.f5] 28) _ (by rw [hsc]; exact hl4)).trans B4s)
  have B33' := Lib.hid ((Below.heap_alloc _ (.cells #[.int .i64 xn.f0, .string xn.f1, .string xn.f2, m3, m4, .string xn.f5] 28) _ (by rw [hsc]; omega)).trans (blk_far B33.out (p := ⟨w2.heap.size, 4, none⟩) (u := .slice (some ⟨w3.heap.size, 0, none⟩) 1 1) (show w2.heap.size ≠ w1.heap.size by omega)))
  have BR' := Lib.hid ((Below.heap_alloc _ (.cells #[.int .i64 xn.f0, .string xn.f1, .string xn.f2, m3, m4, .string xn.f5] 28) _ (by rw [hsc]; omega)).trans (blk_far BR3.out (p := ⟨w2.heap.size, 4, none⟩) (u := .slice (some ⟨w3.heap.size, 0, none⟩) 1 1) (show w2.heap.size ≠ w.heap.size by omega)))
  have HB4 : Hid (Below w.heap.size w ((w3.setCell ⟨w2.heap.size, 4, none⟩ (.slice (some ⟨w3.heap.size, 0, none⟩) 1 1)).alloc (.cells #[.int .i64 xn.f0, .string xn.f1, .string xn.f2, m3, m4, .string xn.f5] 28))) := (HB3.out.setCell (p := ⟨w2.heap.size, 4, none⟩) (by show w.heap.size ≤ w2.heap.size; omega) _).alloc (by rw [hsc]; omega) _
  have HLN : Hid (Kd.F k28 ((w3.setCell ⟨w2.heap.size, 4, none⟩ (.slice (some ⟨w3.heap.size, 0, none⟩) 1 1)).alloc (.cells #[.int .i64 xn.f0, .string xn.f1, .string xn.f2, m3, m4, .string xn.f5] 28)) (fun k => w2.heap.size + 1 ≤ k) (some ⟨w3.heap.size, 0, none⟩) 1 [xn]) := by
    refine F_lit (d := k28) (t := 28) (inner := [.int .i64 xn.f0, .string xn.f1, .string xn.f2, m3, m4, .string xn.f5]) (blk_top _ _ hsc.symm) (by omega) ?_ (by simp)
    exact Reps.c6 (Kd.FK_below (FK_far4 HF3.out (by omega) _) ((Below.refl _ _).alloc (Nat.le_refl _) _)) (Reps.none _ _)
  generalize (w3.setCell ⟨w2.heap.size, 4, none⟩ (.slice (some ⟨w3.heap.size, 0, none⟩) 1 1)).alloc (.cells #[.int .i64 xn.f0, .string xn.f1, .string xn.f2, m3, m4, .string xn.f5] 28) = W4 at HLN B4' B33' BR' HB4 ⊢
  clear hsc B4s B4 B33 BR3 HF3 c4 f4
  refine start_ (n := 6) (S := fun w' => w'.cell? ⟨w2.heap.size, 0, none⟩ = some (.int .i64 0) ∧ w'.cell? ⟨w2.heap.size, 1, none⟩ = some (.string atomB) ∧ w'.cell? ⟨w2.heap.size, 2, none⟩ = some (.string ⟨#[97, 117, 116, 104, 111, 114]⟩) ∧ w'.cell? ⟨w2.heap.size, 3, none⟩ = some (.slice none 0 0) ∧ w'.cell? ⟨w2.heap.size, 4, none⟩ = some (.slice (some ⟨w3.heap.size, 0, none⟩) 1 1) ∧ w'.cell? ⟨w2.heap.size, 5, none⟩ = some (.string ⟨#[]⟩)) (ds := [5]) #[false, false, false, false, false, false] (by kernel_rfl) rfl rfl ⟨(Lnk.blk_cell (blk_drew B4'.out) 0 _ rfl).1, (Lnk.blk_cell (blk_drew B4'.out) 1 _ rfl).1, (Lnk.blk_cell (blk_drew B4'.out) 2 _ rfl).1, (Lnk.blk_cell (blk_drew B4'.out) 3 _ rfl).1, (Lnk.blk_cell (blk_drew B4'.out) 4 _ rfl).1, (Lnk.blk_cell (blk_drew B4'.out) 5 _ rfl).1⟩ (fun hHeld => ?_)
  refine pure_ (i := 1) (N := some 11) (v := ?_) (a' := ?_) #[false, true, false, false, false, false] rfl rfl (by kernel_rfl) (fun _ _ _ h => h) (Or.inl ⟨by rfl, ?_⟩) ?_ ?_
  rotate_left
  · intro w'
    go_simp
    with_reducible rfl
  rotate_left
  · simp only [Act.put, List.setIfInBounds_toArray, List.set_cons_zero, List.set_cons_succ, i64_w, i32_w]
    rfl
  refine take_ (i := 0) (N := some 10) (v := ?_) (a' := ?_) #[true, true, false, false, false, false] rfl rfl (by kernel_rfl) (fun _ _ _ h => h) (Or.inl ⟨by rfl, ?_⟩) hHeld ?_ ?_
  rotate_left
  · rintro w' ⟨s0, s1, s2, s3, s4, s5⟩
    go_simp
    with_reducible rfl
  rotate_left
  · simp only [Act.put, List.setIfInBounds_toArray, List.set_cons_zero, List.set_cons_succ, i64_w, i32_w]
    rfl
  refine one_ (i := 2) (N := some 12) #[true, true, true, false, false, false] rfl rfl (by kernel_rfl) (by decide) (fun K hK => ?_)
  refine goes_ Tryd.func34 (by kernel_rfl) rfl #[.string ⟨#[116, 105, 116, 108, 101]⟩, .string a] (by rfl) rfl rfl (by (try simp only [List.map_toArray, List.map_cons, List.map_nil]); first | done | rfl) ?_
  refine (CT.out _).mono ?_
  rintro e w5 ⟨v5, rfl, ⟨n3, n4, rfl, hf5⟩, hb5⟩
  refine ⟨_, rfl, ?_⟩
  have HF5 := Lib.hid hf5
  have B45 := Lib.hid ((hb5.block _ (blk_lt (blk_drew B4'.out))).trans (blk_drew B4'.out))
  have B35 := Lib.hid ((hb5.block _ (blk_lt (blk_drew B33'.out))).trans (blk_drew B33'.out))
  have BR5 := Lib.hid ((hb5.block _ (blk_lt (blk_drew BR'.out))).trans (blk_drew BR'.out))
  have HB5 := Lib.hid ((HB4.out.trans (Below.mono (pw_below_drewN (Below.refl _ _) 1) HB4.out.size)).trans (hb5.mono (HB4.out.trans (Below.mono (pw_below_drewN (Below.refl _ _) 1) HB4.out.size)).size))
  have HL5 := Lib.hid (Kd.F_below (Kd.F_below HLN.out (pw_below_drewN (Below.refl _ _) 1)) hb5)
  have hsz5 : W4.heap.size ≤ w5.heap.size := hb5.size
  have hl5 : w2.heap.size < W4.heap.size := blk_lt B4'.out
  clear hb5 hf5
  refine hK.out _ _ ⟨(Lnk.blk_cell (B45.out) 0 _ rfl).1, (Lnk.blk_cell (B45.out) 1 _ rfl).1, (Lnk.blk_cell (B45.out) 2 _ rfl).1, (Lnk.blk_cell (B45.out) 3 _ rfl).1, (Lnk.blk_cell (B45.out) 4 _ rfl).1, (Lnk.blk_cell (B45.out) 5 _ rfl).1⟩ (fun hHeld => ?_)
  clear hK K
  refine norm_ (a' := ?_) ?_ ?_
  rotate_left
  · show Act.put _ (some 12) _ = _
    simp only [Act.put, List.setIfInBounds_toArray, List.set_cons_zero, List.set_cons_succ, i64_w, i32_w]
    rfl
  refine one_ (i := 3) (N := some 13) #[true, true, true, true, false, false] rfl rfl (by kernel_rfl) (by decide) (fun K hK => ?_)
  refine value_ (w1 := ?_) (v := ?_) (by rfl) rfl ?_ ?_
  rotate_left 2
  · go_simp
    constructor
    · rfl
    · rfl
  refine hK.out _ _ ⟨cell_keep ((Below.refl w5.heap.size w5).alloc (Nat.le_refl _) (Obj.cells #[.int .i64 0, .string atomB, .string ⟨#[97, 117, 116, 104, 111, 114]⟩, .slice none 0 0, .slice (some ⟨w3.heap.size, 0, none⟩) 1 1, .string ⟨#[]⟩, .int .i64 xt.f0, .string xt.f1, .string xt.f2, n3, n4, .string xt.f5] 28)) (Lnk.blk_cell B45.out 0 _ rfl).1, cell_keep ((Below.refl w5.heap.size w5).alloc (Nat.le_refl _) (Obj.cells #[.int .i64 0, .string atomB, .string ⟨#[97, 117, 116, 104, 111, 114]⟩, .slice none 0 0, .slice (some ⟨w3.heap.size, 0, none⟩) 1 1, .string ⟨#[]⟩, .int .i64 xt.f0, .string xt.f1, .string xt.f2, n3, n4, .string xt.f5] 28)) (Lnk.blk_cell B45.out 1 _ rfl).1, cell_keep ((Below.refl w5.heap.size w5).alloc (Nat.le_refl _) (Obj.cells #[.int .i64 0, .string atomB, .string ⟨#[97, 117, 116, 104, 111, 114]⟩, .slice none 0 0, .slice (some ⟨w3.heap.size, 0, none⟩) 1 1, .string ⟨#[]⟩, .int .i64 xt.f0, .string xt.f1, .string xt.f2, n3, n4, .string xt.f5] 28)) (Lnk.blk_cell B45.out 2 _ rfl).1, cell_keep ((Below.refl w5.heap.size w5).alloc (Nat.le_refl _) (Obj.cells #[.int .i64 0, .string atomB, .string ⟨#[97, 117, 116, 104, 111, 114]⟩, .slice none 0 0, .slice (some ⟨w3.heap.size, 0, none⟩) 1 1, .string ⟨#[]⟩, .int .i64 xt.f0, .string xt.f1, .string xt.f2, n3, n4, .string xt.f5] 28)) (Lnk.blk_cell B45.out 3 _ rfl).1, cell_keep ((Below.refl w5.heap.size w5).alloc (Nat.le_refl _) (Obj.cells #[.int .i64 0, .string atomB, .string ⟨#[97, 117, 116, 104, 111, 114]⟩, .slice none 0 0, .slice (some ⟨w3.heap.size, 0, none⟩) 1 1, .string ⟨#[]⟩, .int .i64 xt.f0, .string xt.f1, .string xt.f2, n3, n4, .string xt.f5] 28)) (Lnk.blk_cell B45.out 4 _ rfl).1, cell_keep ((Below.refl w5.heap.size w5).alloc (Nat.le_refl _) (Obj.cells #[.int .i64 0, .string atomB, .string ⟨#[97, 117, 116, 104, 111, 114]⟩, .slice none 0 0, .slice (some ⟨w3.heap.size, 0, none⟩) 1 1, .string ⟨#[]⟩, .int .i64 xt.f0, .string xt.f1, .string xt.f2, n3, n4, .string xt.f5] 28)) (Lnk.blk_cell B45.out 5 _ rfl).1⟩ (fun hHeld => ?_)
  clear hK K
  refine norm_ (a' := ?_) ?_ ?_
  rotate_left
  · show Act.put _ (some 13) _ = _
    simp only [Act.put, List.setIfInBounds_toArray, List.set_cons_zero, List.set_cons_succ, i64_w, i32_w]
    rfl
  refine pure_ (i := 4) (N := some 14) (v := ?_) (a' := ?_) #[true, true, true, true, true, false] rfl rfl (by kernel_rfl) (fun _ _ _ h => h) (Or.inl ⟨by rfl, ?_⟩) ?_ ?_
  rotate_left
  · intro w'
    go_simp
    with_reducible rfl
  rotate_left
  · simp only [Act.put, List.setIfInBounds_toArray, List.set_cons_zero, List.set_cons_succ, i64_w, i32_w]
    rfl
  have B36 := (((Below.refl w5.heap.size w5).alloc (Nat.le_refl _) (Obj.cells #[.int .i64 0, .string atomB, .string ⟨#[97, 117, 116, 104, 111, 114]⟩, .slice none 0 0, .slice (some ⟨w3.heap.size, 0, none⟩) 1 1, .string ⟨#[]⟩, .int .i64 xt.f0, .string xt.f1, .string xt.f2, n3, n4, .string xt.f5] 28)).block _ (blk_lt B35.out)).trans B35.out
  have hc4 := (Lnk.blk_cell B36 4 _ rfl).1
  have hf4 := (Lnk.blk_cell B36 4 _ rfl).2
  refine last_ (i := 5) (N := none) #[true, true, true, true, true, true] rfl rfl (by kernel_rfl) (by decide) (fun K hK => ?_)
  refine skip_ (w1 := ?_) (by rfl) rfl ?_ ?_
  rotate_left
  · go_simp
    rfl
  refine hK.out _ _ ?_
  clear hK K
  refine done_ (by kernel_rfl) ?_
  have hl5' : w1.heap.size < w5.heap.size := blk_lt B35.out
  have hlr5 : w.heap.size < w5.heap.size := blk_lt BR5.out
  have hl35 : w3.heap.size < W4.heap.size := by
    have := HLN.out
    obtain ⟨ad, c, e, _, _, hcc, _⟩ := Kd.F_get this z28 0 (by omega) (by omega)
    injection e with e
    subst e
    obtain ⟨_, _, _, _, he, _⟩ := k28_openF ‹Kd.FK _ _ _ _ c›
    have h0 := hcc 0 (.int .i64 xn.f0) (by rw [he]; rfl)
    simpa [Addr.add] using World.block_lt_of_cell? _ _ h0
  have HAU : Hid (Kd.FK k28 w5 (fun k => w2.heap.size + 1 ≤ k) ⟨0, atomB, ⟨#[97, 117, 116, 104, 111, 114]⟩, [], [xn], ⟨#[]⟩⟩ [.int .i64 0, .string atomB, .string ⟨#[97, 117, 116, 104, 111, 114]⟩, .slice none 0 0, .slice (some ⟨w3.heap.size, 0, none⟩) 1 1, .string ⟨#[]⟩]) :=
    k28_mkF _ _ ⟨0, atomB, ⟨#[97, 117, 116, 104, 111, 114]⟩, [], [xn], ⟨#[]⟩⟩ (Nat.zero_le _) (Kd.F_nil _ _ _) (Nat.le_refl _) HL5.out
  have HTI : Hid (Kd.FK k28 w5 (fun k => w2.heap.size + 1 ≤ k) xt [.int .i64 xt.f0, .string xt.f1, .string xt.f2, n3, n4, .string xt.f5]) :=
    Kd.FK_mono HF5.out (fun k (hk : W4.heap.size ≤ k) => Nat.le_trans (blk_lt B4'.out) hk)
  have al5 := (Below.refl w5.heap.size w5).alloc (Nat.le_refl _) (Obj.cells #[.int .i64 0, .string atomB, .string ⟨#[97, 117, 116, 104, 111, 114]⟩, .slice none 0 0, .slice (some ⟨w3.heap.size, 0, none⟩) 1 1, .string ⟨#[]⟩, .int .i64 xt.f0, .string xt.f1, .string xt.f2, n3, n4, .string xt.f5] 28)
  have HKI := Lib.hid (Kd.N_far (p := ⟨w1.heap.size, 4, none⟩) (lit_world (W := w5) (base := w2.heap.size + 1) (okp := fun k => w2.heap.size + 1 ≤ k) (xs := [⟨0, atomB, ⟨#[97, 117, 116, 104, 111, 114]⟩, [], [xn], ⟨#[]⟩⟩, xt]) (Reps.c6 HAU.out (Reps.c6 HTI.out (Reps.none _ _))) (by omega) (by simp) (fun _ h => h)) (fun k hk => by show k ≠ w1.heap.size; omega) (.slice (some ⟨w5.heap.size, 0, none⟩) 2 2))
  have B37 := blk_put B36 4 (.slice (some ⟨w5.heap.size, 0, none⟩) 2 2) rfl
  have BR7 := blk_far ((Below.heap_alloc w5 (.cells #[.int .i64 0, .string atomB, .string ⟨#[97, 117, 116, 104, 111, 114]⟩, .slice none 0 0, .slice (some ⟨w3.heap.size, 0, none⟩) 1 1, .string ⟨#[]⟩, .int .i64 xt.f0, .string xt.f1, .string xt.f2, n3, n4, .string xt.f5] 28) _ hlr5).trans BR5.out) (p := ⟨w1.heap.size, 4, none⟩) (u := .slice (some ⟨w5.heap.size, 0, none⟩) 2 2) (show w1.heap.size ≠ w.heap.size by omega)
  have HB7 : Hid (Below w.heap.size w ((w5.alloc (.cells #[.int .i64 0, .string atomB, .string ⟨#[97, 117, 116, 104, 111, 114]⟩, .slice none 0 0, .slice (some ⟨w3.heap.size, 0, none⟩) 1 1, .string ⟨#[]⟩, .int .i64 xt.f0, .string xt.f1, .string xt.f2, n3, n4, .string xt.f5] 28)).setCell ⟨w1.heap.size, 4, none⟩ (.slice (some ⟨w5.heap.size, 0, none⟩) 2 2))) := (HB5.out.alloc HB5.out.size _).setCell (p := ⟨w1.heap.size, 4, none⟩) (by show w.heap.size ≤ w1.heap.size; omega) _
  clear al5 HAU HTI B36 hc4 hf4 HL5 HF5 B45 B35 BR5 HB5 HLN B4' B33' BR' HB4
  generalize (w5.alloc (.cells #[.int .i64 0, .string atomB, .string ⟨#[97, 117, 116, 104, 111, 114]⟩, .slice none 0 0, .slice (some ⟨w3.heap.size, 0, none⟩) 1 1, .string ⟨#[]⟩, .int .i64 xt.f0, .string xt.f1, .string xt.f2, n3, n4, .string xt.f5] 28)).setCell ⟨w1.heap.size, 4, none⟩ (.slice (some ⟨w5.heap.size, 0, none⟩) 2 2) = W7 at HKI B37 BR7 HB7 ⊢
  have e0 := (Lnk.blk_cell B37 0 _ rfl).1
  have e1 := (Lnk.blk_cell B37 1 _ rfl).1
  have e2 := (Lnk.blk_cell B37 2 _ rfl).1
  have e3 := (Lnk.blk_cell B37 3 _ rfl).1
  have e4 := (Lnk.blk_cell B37 4 _ rfl).1
  have e5 := (Lnk.blk_cell B37 5 _ rfl).1
  have q0 := Lnk.blk_cell BR7 0 _ rfl
  have q1 := Lnk.blk_cell BR7 1 _ rfl
  have q2 := Lnk.blk_cell BR7 2 _ rfl
  have q3 := Lnk.blk_cell BR7 3 _ rfl
  have q4 := Lnk.blk_cell BR7 4 _ rfl
  have q5 := Lnk.blk_cell BR7 5 _ rfl
  clear B37 BR7
  go_wp2_with fail
  refine bodyPost_ret (v := .agg #[.int .i64 0, .string atomB, .string ⟨#[101, 110, 116, 114, 121]⟩, .slice none 0 0, .slice (some ⟨w5.heap.size, 0, none⟩) 2 2, .string ⟨#[]⟩]) (by simp [results, Tryd.results16, go_sem, q0, q1, q2, q3, q4, q5]) rfl ⟨_, rfl, ?_, below6 HB7.out _ _ _ _ _ _⟩
  rw [HX.out]
  have hok : ∀ (o : Nat) (k : Nat), w2.heap.size + 1 ≤ k → k ≠ (⟨w.heap.size, o, none⟩ : Addr).block := fun o k hk => by show k ≠ w.heap.size; omega
  have hx := Kd.N_far (p := ⟨w.heap.size, 5, none⟩) (Kd.N_far (p := ⟨w.heap.size, 4, none⟩) (Kd.N_far (p := ⟨w.heap.size, 3, none⟩) (Kd.N_far (p := ⟨w.heap.size, 2, none⟩) (Kd.N_far (p := ⟨w.heap.size, 1, none⟩) (Kd.N_far (p := ⟨w.heap.size, 0, none⟩) HKI.out (hok 0) (.int .i64 0)) (hok 1) (.string atomB)) (hok 2) (.string ⟨#[101, 110, 116, 114, 121]⟩)) (hok 3) (.slice none 0 0)) (hok 4) (.slice (some ⟨w5.heap.size, 0, none⟩) 2 2)) (hok 5) (.string ⟨#[]⟩)
  exact Kd.N_lower (Kd.N_mono hx (fun k hk => by show _ ≤ _; omega)) (by omega)
def appB : ByteArray := ⟨#[104, 116, 116, 112, 58, 47, 47, 119, 119, 119, 46, 119, 51, 46, 111, 114, 103, 47, 50, 48, 48, 55, 47, 97, 112, 112]⟩
def collB : ByteArray := ⟨#[99, 111, 108, 108, 101, 99, 116, 105, 111, 110]⟩
def workB : ByteArray := ⟨#[119, 111, 114, 107, 115, 112, 97, 99, 101]⟩
def servB : ByteArray := ⟨#[115, 101, 114, 118, 105, 99, 101]⟩
def accB : ByteArray := ⟨#[97, 112, 112, 108, 105, 99, 97, 116, 105, 111, 110, 47, 97, 116, 111, 109, 43, 120, 109, 108, 59, 116, 121, 112, 101, 61, 101, 110, 116, 114, 121]⟩
def collN (a0 : ByteArray) (x y : S28) : S28 := ⟨0, appB, collB, [⟨⟨#[]⟩, ⟨#[104, 114, 101, 102]⟩, a0⟩], [x, y], ⟨#[]⟩⟩
def workN (a0 : ByteArray) (x y z : S28) : S28 := ⟨0, appB, workB, [], [z, collN a0 x y], ⟨#[]⟩⟩
def servN (a0 a1 : ByteArray) : S28 := ⟨0, appB, servB, [], [workN a0 (elN atomB ⟨#[116, 105, 116, 108, 101]⟩ a1) (elN appB ⟨#[97, 99, 99, 101, 112, 116]⟩ accB) (elN atomB ⟨#[116, 105, 116, 108, 101]⟩ a1)], ⟨#[]⟩⟩
/-- A service that was made: its kids lie in what was made. -/
def Served (x : S28) (w : World) (e : Ending) (w' : World) : Prop := ∃ v3 A4 c4, e = .returned (.tuple #[.agg #[.int .i64 x.f0, .string x.f1, .string x.f2, v3, .slice A4 x.f4.length c4, .string x.f5], .int .i64 0]) ∧ v3 = .slice none 0 0 ∧ x.f4.length ≤ c4 ∧ Kd.F k28 w' (fun k => w.heap.size ≤ k) A4 x.f4.length x.f4 ∧ Below w.heap.size w w'
theorem fk_node {W : World} {s : Nat} {a b : ByteArray} {l : List S28} {A : Option Addr} {n : Nat} (hn : n = l.length) (h : Kd.F k28 W (fun k => s ≤ k) A n l) : Kd.FK k28 W (fun k => s ≤ k) ⟨0, a, b, [], l, ⟨#[]⟩⟩ [.int .i64 0, .string a, .string b, .slice none 0 0, .slice A n n, .string ⟨#[]⟩] := by
  subst hn
  exact k28_mkF _ _ ⟨0, a, b, [], l, ⟨#[]⟩⟩ (Nat.le_refl _) (Kd.F_nil _ _ _) (Nat.le_refl _) h
theorem fk_coll {W : World} {s g1 g2 : Nat} {a0 : ByteArray} {x y : S28} (ha : W.heap[g1]? = some (.cells #[.string ⟨#[]⟩, .string ⟨#[104, 114, 101, 102]⟩, .string a0] 61 (0, 0))) (hg : s ≤ g1) (h : Kd.F k28 W (fun k => s ≤ k) (some ⟨g2, 0, none⟩) 2 [x, y]) :
    Kd.FK k28 W (fun k => s ≤ k) (collN a0 x y) [.int .i64 0, .string appB, .string collB, .slice (some ⟨g1, 0, none⟩) 1 1, .slice (some ⟨g2, 0, none⟩) 2 2, .string ⟨#[]⟩] :=
  k28_mkF _ _ (collN a0 x y) (Nat.le_refl _) (F_lit (d := k61) (t := 61) (xs := [⟨⟨#[]⟩, ⟨#[104, 114, 101, 102]⟩, a0⟩]) (inner := [.string ⟨#[]⟩, .string ⟨#[104, 114, 101, 102]⟩, .string a0]) ha hg (Reps.c3 (fun W' _ => k61_mk W' _) (Reps.none _ _)) (by simp)) (Nat.le_refl _) h
set_option maxHeartbeats 4000000 in
theorem servE (a0 a1 : ByteArray) (w : World) (h : (a0.toList == ([] : List UInt8)) = true ∨ ((a0.toList == ([] : List UInt8)) = false ∧ (a1.toList == ([] : List UInt8)) = true)) : Calls Tryd.prog 10 #[.string a0, .string a1] w (Failed 1 w) := by
  rcases h with hb0 | ⟨hb0, ht0⟩
  all_goals
    go_enter Tryd.func10, Tryd.ntmps10
    go_wp2_with fail
    exact bodyPost_ret (v := .tuple #[.agg #[.int .i64 0, .string ⟨#[]⟩, .string ⟨#[]⟩, .slice none 0 0, .slice none 0 0, .string ⟨#[]⟩], .int .i64 1]) (by simp [results, Tryd.results10, go_sem]) rfl ⟨rfl, (Below.refl _ _).alloc (Nat.le_refl _) _⟩
set_option maxHeartbeats 4000000 in
theorem servO (a0 a1 : ByteArray) (w : World) (hb0 : (a0.toList == ([] : List UInt8)) = false) (ht0 : (a1.toList == ([] : List UInt8)) = false) : Calls Tryd.prog 10 #[.string a0, .string a1] w (Served (servN a0 a1) w) := by
  obtain ⟨xt, hxt⟩ : ∃ x, x = elN atomB ⟨#[116, 105, 116, 108, 101]⟩ a1 := ⟨_, rfl⟩
  obtain ⟨xa, hxa⟩ : ∃ x, x = elN appB ⟨#[97, 99, 99, 101, 112, 116]⟩ accB := ⟨_, rfl⟩
  have CT : Hid (∀ W, MadeC 22 #[.string a1] xt W) := fun W => by rw [hxt]; exact titledC _ W
  have CA : Hid (∀ W, MadeC 21 #[.string appB, .string ⟨#[97, 99, 99, 101, 112, 116]⟩, .string accB] xa W) := fun W => by rw [hxa]; exact elementC _ _ _ W
  have HX : Hid (servN a0 a1 = ⟨0, appB, servB, [], [workN a0 xt xa xt], ⟨#[]⟩⟩) := by show _ = _; rw [hxt, hxa]; rfl
  clear hxt hxa
  go_enter Tryd.func10, Tryd.ntmps10
  go_wp2_with fail
  refine (CT.out _).mono ?_
  rintro e w1 ⟨v1, rfl, ⟨l3, l4, rfl, hf1⟩, hb1⟩
  have HB1 : Hid (Below w.heap.size w w1) := ((Below.refl _ _).alloc (Nat.le_refl _) _).trans (hb1.mono (by simp))
  have BR := Lib.hid (new_blk _ _ _ hb1).1
  have HF1 : Hid (Kd.FK k28 w1 (fun k => w.heap.size + 1 ≤ k) xt [.int .i64 xt.f0, .string xt.f1, .string xt.f2, l3, l4, .string xt.f5]) := Kd.FK_mono hf1 (fun k hk => by simpa using hk)
  have hs1 : w.heap.size + 1 ≤ w1.heap.size := by have := hb1.size; simpa using this
  clear hb1 hf1
  go_wp2_with fail
  refine (CA.out _).mono ?_
  rintro e w2 ⟨v2, rfl, ⟨m3, m4, rfl, hf2⟩, hb2⟩
  have HF2 : Hid (Kd.FK k28 w2 (fun k => w.heap.size + 1 ≤ k) xa [.int .i64 xa.f0, .string xa.f1, .string xa.f2, m3, m4, .string xa.f5]) := Kd.FK_mono hf2 (fun k hk => Nat.le_trans hs1 hk)
  have HF1' := Lib.hid (Kd.FK_below HF1.out hb2)
  have HB2 := Lib.hid (HB1.out.trans (hb2.mono HB1.out.size))
  have BR2 := Lib.hid ((hb2.block _ (blk_lt BR.out)).trans BR.out)
  have hs2 : w.heap.size + 1 ≤ w2.heap.size := Nat.le_trans hs1 hb2.size
  clear hb2 hf2 HF1 BR HB1
  go_wp2_with fail
  refine (elemC _ _ _ _ _ _).mono ?_
  rintro e w3 ⟨rfl, hb3⟩
  have al2 := (Below.refl w2.heap.size w2).alloc (Nat.le_refl _) (Obj.cells #[.int .i64 xt.f0, .string xt.f1, .string xt.f2, l3, l4, .string xt.f5, .int .i64 xa.f0, .string xa.f1, .string xa.f2, m3, m4, .string xa.f5] 28)
  have HK2 := Lib.hid (Kd.F_below (F_lit (d := k28) (t := 28) (s := w.heap.size + 1) (xs := [xt, xa]) (inner := [.int .i64 xt.f0, .string xt.f1, .string xt.f2, l3, l4, .string xt.f5, .int .i64 xa.f0, .string xa.f1, .string xa.f2, m3, m4, .string xa.f5]) (blk_top w2 _ rfl) hs2 (Reps.c6 (Kd.FK_below HF1'.out al2) (Reps.c6 (Kd.FK_below HF2.out al2) (Reps.none _ _))) (by simp)) hb3)
  have HB3 := Lib.hid ((HB2.out.trans (al2.mono HB2.out.size)).trans (hb3.mono (HB2.out.trans (al2.mono HB2.out.size)).size))
  have BR3 := Lib.hid ((hb3.block _ (Nat.lt_of_lt_of_le (blk_lt BR2.out) al2.size)).trans ((al2.block _ (blk_lt BR2.out)).trans BR2.out))
  have hs3 : w2.heap.size + 1 ≤ w3.heap.size := by have := hb3.size; simpa using this
  clear hb3 al2 HF1' HF2 HB2 BR2
  go_wp2_with fail
  have al3 := ((Below.refl w3.heap.size w3).alloc (Nat.le_refl _) (Obj.cells #[.int .i64 0, .string ⟨#[104, 116, 116, 112, 58, 47, 47, 119, 119, 119, 46, 119, 51, 46, 111, 114, 103, 47, 50, 48, 48, 55, 47, 97, 112, 112]⟩, .string ⟨#[99, 111, 108, 108, 101, 99, 116, 105, 111, 110]⟩, .slice (some ⟨w3.heap.size + 1, 0, none⟩) 1 1, .slice (some ⟨w2.heap.size, 0, none⟩) 2 2, .string ⟨#[]⟩] 28)).alloc (by simp) (Obj.cells #[.string ⟨#[]⟩, .string ⟨#[104, 114, 101, 102]⟩, .string a0] 61)
  have HK5 := Lib.hid (Kd.F_below HK2.out al3)
  have HB5 := Lib.hid (HB3.out.trans (al3.mono HB3.out.size))
  have BR5 := Lib.hid ((al3.block _ (blk_lt BR3.out)).trans BR3.out)
  have BA5 := Lib.hid (blk_top (w3.alloc (Obj.cells #[.int .i64 0, .string ⟨#[104, 116, 116, 112, 58, 47, 47, 119, 119, 119, 46, 119, 51, 46, 111, 114, 103, 47, 50, 48, 48, 55, 47, 97, 112, 112]⟩, .string ⟨#[99, 111, 108, 108, 101, 99, 116, 105, 111, 110]⟩, .slice (some ⟨w3.heap.size + 1, 0, none⟩) 1 1, .slice (some ⟨w2.heap.size, 0, none⟩) 2 2, .string ⟨#[]⟩] 28)) (Obj.cells #[.string ⟨#[]⟩, .string ⟨#[104, 114, 101, 102]⟩, .string a0] 61) (g := w3.heap.size + 1) (by simp))
  have B65 := Lib.hid ((Below.heap_alloc (w3.alloc (Obj.cells #[.int .i64 0, .string ⟨#[104, 116, 116, 112, 58, 47, 47, 119, 119, 119, 46, 119, 51, 46, 111, 114, 103, 47, 50, 48, 48, 55, 47, 97, 112, 112]⟩, .string ⟨#[99, 111, 108, 108, 101, 99, 116, 105, 111, 110]⟩, .slice (some ⟨w3.heap.size + 1, 0, none⟩) 1 1, .slice (some ⟨w2.heap.size, 0, none⟩) 2 2, .string ⟨#[]⟩] 28)) (Obj.cells #[.string ⟨#[]⟩, .string ⟨#[104, 114, 101, 102]⟩, .string a0] 61) w3.heap.size (by simp)).trans (blk_top w3 (Obj.cells #[.int .i64 0, .string ⟨#[104, 116, 116, 112, 58, 47, 47, 119, 119, 119, 46, 119, 51, 46, 111, 114, 103, 47, 50, 48, 48, 55, 47, 97, 112, 112]⟩, .string ⟨#[99, 111, 108, 108, 101, 99, 116, 105, 111, 110]⟩, .slice (some ⟨w3.heap.size + 1, 0, none⟩) 1 1, .slice (some ⟨w2.heap.size, 0, none⟩) 2 2, .string ⟨#[]⟩] 28) rfl))
  have hs5 : w3.heap.size + 1 + 1 ≤ ((w3.alloc (Obj.cells #[.int .i64 0, .string ⟨#[104, 116, 116, 112, 58, 47, 47, 119, 119, 119, 46, 119, 51, 46, 111, 114, 103, 47, 50, 48, 48, 55, 47, 97, 112, 112]⟩, .string ⟨#[99, 111, 108, 108, 101, 99, 116, 105, 111, 110]⟩, .slice (some ⟨w3.heap.size + 1, 0, none⟩) 1 1, .slice (some ⟨w2.heap.size, 0, none⟩) 2 2, .string ⟨#[]⟩] 28)).alloc (Obj.cells #[.string ⟨#[]⟩, .string ⟨#[104, 114, 101, 102]⟩, .string a0] 61)).heap.size := by simp
  clear al3 HK2 HB3 BR3
  generalize ((w3.alloc (Obj.cells #[.int .i64 0, .string ⟨#[104, 116, 116, 112, 58, 47, 47, 119, 119, 119, 46, 119, 51, 46, 111, 114, 103, 47, 50, 48, 48, 55, 47, 97, 112, 112]⟩, .string ⟨#[99, 111, 108, 108, 101, 99, 116, 105, 111, 110]⟩, .slice (some ⟨w3.heap.size + 1, 0, none⟩) 1 1, .slice (some ⟨w2.heap.size, 0, none⟩) 2 2, .string ⟨#[]⟩] 28)).alloc (Obj.cells #[.string ⟨#[]⟩, .string ⟨#[104, 114, 101, 102]⟩, .string a0] 61)) = W5 at HK5 HB5 BR5 BA5 B65 hs5 ⊢
  refine start_ (n := 9) (S := fun w' => w'.cell? ⟨w3.heap.size, 0, none⟩ = some (.int .i64 0) ∧ w'.cell? ⟨w3.heap.size, 1, none⟩ = some (.string appB) ∧ w'.cell? ⟨w3.heap.size, 2, none⟩ = some (.string collB) ∧ w'.cell? ⟨w3.heap.size, 3, none⟩ = some (.slice (some ⟨w3.heap.size + 1, 0, none⟩) 1 1) ∧ w'.cell? ⟨w3.heap.size, 4, none⟩ = some (.slice (some ⟨w2.heap.size, 0, none⟩) 2 2) ∧ w'.cell? ⟨w3.heap.size, 5, none⟩ = some (.string ⟨#[]⟩)) (ds := [7]) #[false, false, false, false, false, false, false, false, false] (by kernel_rfl) rfl rfl ⟨(Lnk.blk_cell (blk_drew B65.out) 0 _ rfl).1, (Lnk.blk_cell (blk_drew B65.out) 1 _ rfl).1, (Lnk.blk_cell (blk_drew B65.out) 2 _ rfl).1, (Lnk.blk_cell (blk_drew B65.out) 3 _ rfl).1, (Lnk.blk_cell (blk_drew B65.out) 4 _ rfl).1, (Lnk.blk_cell (blk_drew B65.out) 5 _ rfl).1⟩ (fun hHeld => ?_)
  refine pure_ (i := 0) (N := some 23) (v := ?_) (a' := ?_) #[true, false, false, false, false, false, false, false, false] rfl rfl (by kernel_rfl) (fun _ _ _ h => h) (Or.inl ⟨by rfl, ?_⟩) ?_ ?_
  rotate_left
  · intro w'
    go_simp
    with_reducible rfl
  rotate_left
  · simp only [Act.put, List.setIfInBounds_toArray, List.set_cons_zero, List.set_cons_succ, i64_w, i32_w]
    rfl
  refine take_ (i := 2) (N := some 25) (v := ?_) (a' := ?_) #[true, false, true, false, false, false, false, false, false] rfl rfl (by kernel_rfl) (fun _ _ _ h => h) (Or.inl ⟨by rfl, ?_⟩) hHeld ?_ ?_
  rotate_left
  · rintro w' ⟨s0, s1, s2, s3, s4, s5⟩
    go_simp
    with_reducible rfl
  rotate_left
  · simp only [Act.put, List.setIfInBounds_toArray, List.set_cons_zero, List.set_cons_succ, i64_w, i32_w]
    rfl
  refine one_ (i := 1) (N := some 24) #[true, true, true, false, false, false, false, false, false] rfl rfl (by kernel_rfl) (by decide) (fun K hK => ?_)
  refine goes_ Tryd.func22 (by kernel_rfl) rfl #[.string a1] (by rfl) rfl rfl (by (try simp only [List.map_toArray, List.map_cons, List.map_nil]); first | done | rfl) ?_
  refine (CT.out _).mono ?_
  rintro e w6 ⟨v6, rfl, ⟨n3, n4, rfl, hf6⟩, hb6⟩
  refine ⟨_, rfl, ?_⟩
  have HF6 : Hid (Kd.FK k28 w6 (fun k => w.heap.size + 1 ≤ k) xt [.int .i64 xt.f0, .string xt.f1, .string xt.f2, n3, n4, .string xt.f5]) := Kd.FK_mono hf6 (fun k (hk : W5.heap.size ≤ k) => by show _ ≤ _; omega)
  have HK6 := Lib.hid (Kd.F_below (Kd.F_below HK5.out (pw_below_drewN (Below.refl _ _) 1)) hb6)
  have B66 := Lib.hid ((hb6.block _ (blk_lt (blk_drew B65.out))).trans (blk_drew B65.out))
  have BA6 := Lib.hid ((hb6.block _ (blk_lt (blk_drew BA5.out))).trans (blk_drew BA5.out))
  have BR6 := Lib.hid ((hb6.block _ (blk_lt (blk_drew BR5.out))).trans (blk_drew BR5.out))
  have HB6 := Lib.hid ((HB5.out.trans (Below.mono (pw_below_drewN (Below.refl _ _) 1) HB5.out.size)).trans (hb6.mono (HB5.out.trans (Below.mono (pw_below_drewN (Below.refl _ _) 1) HB5.out.size)).size))
  have hs6 : W5.heap.size ≤ w6.heap.size := hb6.size
  clear hb6 hf6 HK5 BR5 BA5 B65 HB5
  refine hK.out _ _ ⟨(Lnk.blk_cell (B66.out) 0 _ rfl).1, (Lnk.blk_cell (B66.out) 1 _ rfl).1, (Lnk.blk_cell (B66.out) 2 _ rfl).1, (Lnk.blk_cell (B66.out) 3 _ rfl).1, (Lnk.blk_cell (B66.out) 4 _ rfl).1, (Lnk.blk_cell (B66.out) 5 _ rfl).1⟩ (fun hHeld => ?_)
  clear hK K
  refine norm_ (a' := ?_) ?_ ?_
  rotate_left
  · show Act.put _ (some 24) _ = _
    simp only [Act.put, List.setIfInBounds_toArray, List.set_cons_zero, List.set_cons_succ, i64_w, i32_w]
    rfl
  refine one_ (i := 3) (N := some 26) #[true, true, true, true, false, false, false, false, false] rfl rfl (by kernel_rfl) (by decide) (fun K hK => ?_)
  refine value_ (w1 := ?_) (v := ?_) (by rfl) rfl ?_ ?_
  rotate_left 2
  · go_simp
    constructor
    · rfl
    · rfl
  have al6 := (Below.refl w6.heap.size w6).alloc (Nat.le_refl _) (Obj.cells #[.int .i64 xt.f0, .string xt.f1, .string xt.f2, n3, n4, .string xt.f5, .int .i64 0, .string appB, .string collB, .slice (some ⟨w3.heap.size + 1, 0, none⟩) 1 1, .slice (some ⟨w2.heap.size, 0, none⟩) 2 2, .string ⟨#[]⟩] 28)
  refine hK.out _ _ ⟨cell_keep al6 (Lnk.blk_cell B66.out 0 _ rfl).1, cell_keep al6 (Lnk.blk_cell B66.out 1 _ rfl).1, cell_keep al6 (Lnk.blk_cell B66.out 2 _ rfl).1, cell_keep al6 (Lnk.blk_cell B66.out 3 _ rfl).1, cell_keep al6 (Lnk.blk_cell B66.out 4 _ rfl).1, cell_keep al6 (Lnk.blk_cell B66.out 5 _ rfl).1⟩ (fun hHeld => ?_)
  clear hK K
  refine norm_ (a' := ?_) ?_ ?_
  rotate_left
  · show Act.put _ (some 26) _ = _
    simp only [Act.put, List.setIfInBounds_toArray, List.set_cons_zero, List.set_cons_succ, i64_w, i32_w]
    rfl
  refine one_ (i := 4) (N := some 27) #[true, true, true, true, true, false, false, false, false] rfl rfl (by kernel_rfl) (by decide) (fun K hK => ?_)
  refine goes_ Tryd.func20 (by kernel_rfl) rfl #[.string appB, .string workB, .slice (some ⟨w6.heap.size, 0, none⟩) 2 2] (by rfl) rfl rfl (by (try simp only [List.map_toArray, List.map_cons, List.map_nil]); first | done | rfl) ?_
  refine (elemC _ _ _ _ _ _).mono ?_
  rintro e w7 ⟨rfl, hb7⟩
  refine ⟨_, rfl, ?_⟩
  have HK7 := Lib.hid (Kd.F_below (F_lit (d := k28) (t := 28) (s := w.heap.size + 1) (xs := [xt, collN a0 xt xa]) (inner := [.int .i64 xt.f0, .string xt.f1, .string xt.f2, n3, n4, .string xt.f5, .int .i64 0, .string appB, .string collB, .slice (some ⟨w3.heap.size + 1, 0, none⟩) 1 1, .slice (some ⟨w2.heap.size, 0, none⟩) 2 2, .string ⟨#[]⟩]) (blk_top w6 _ rfl) (by omega) (Reps.c6 (Kd.FK_below HF6.out al6) (Reps.c6 (fk_coll ((al6.block _ (blk_lt BA6.out)).trans BA6.out) (by omega) (Kd.F_below HK6.out al6)) (Reps.none _ _))) (by simp)) hb7)
  have HB7 := Lib.hid ((HB6.out.trans (al6.mono HB6.out.size)).trans (hb7.mono (HB6.out.trans (al6.mono HB6.out.size)).size))
  have B67 := Lib.hid ((hb7.block _ (Nat.lt_of_lt_of_le (blk_lt B66.out) al6.size)).trans ((al6.block _ (blk_lt B66.out)).trans B66.out))
  have BR7 := Lib.hid ((hb7.block _ (Nat.lt_of_lt_of_le (blk_lt BR6.out) al6.size)).trans ((al6.block _ (blk_lt BR6.out)).trans BR6.out))
  have hs7 : w6.heap.size + 1 ≤ w7.heap.size := by have := hb7.size; simpa using this
  clear hb7 al6 HF6 HK6 B66 BA6 BR6 HB6
  refine hK.out _ _ ⟨(Lnk.blk_cell (B67.out) 0 _ rfl).1, (Lnk.blk_cell (B67.out) 1 _ rfl).1, (Lnk.blk_cell (B67.out) 2 _ rfl).1, (Lnk.blk_cell (B67.out) 3 _ rfl).1, (Lnk.blk_cell (B67.out) 4 _ rfl).1, (Lnk.blk_cell (B67.out) 5 _ rfl).1⟩ (fun hHeld => ?_)
  clear hK K
  refine norm_ (a' := ?_) ?_ ?_
  rotate_left
  · show Act.put _ (some 27) _ = _
    simp only [Act.put, List.setIfInBounds_toArray, List.set_cons_zero, List.set_cons_succ, i64_w, i32_w]
    rfl
  refine one_ (i := 5) (N := some 28) #[true, true, true, true, true, true, false, false, false] rfl rfl (by kernel_rfl) (by decide) (fun K hK => ?_)
  refine value_ (w1 := ?_) (v := ?_) (by rfl) rfl ?_ ?_
  rotate_left 2
  · go_simp
    constructor
    · rfl
    · rfl
  have al7 := (Below.refl w7.heap.size w7).alloc (Nat.le_refl _) (Obj.cells #[.int .i64 0, .string appB, .string workB, .slice none 0 0, .slice (some ⟨w6.heap.size, 0, none⟩) 2 2, .string ⟨#[]⟩] 28)
  refine hK.out _ _ ⟨cell_keep al7 (Lnk.blk_cell B67.out 0 _ rfl).1, cell_keep al7 (Lnk.blk_cell B67.out 1 _ rfl).1, cell_keep al7 (Lnk.blk_cell B67.out 2 _ rfl).1, cell_keep al7 (Lnk.blk_cell B67.out 3 _ rfl).1, cell_keep al7 (Lnk.blk_cell B67.out 4 _ rfl).1, cell_keep al7 (Lnk.blk_cell B67.out 5 _ rfl).1⟩ (fun hHeld => ?_)
  clear hK K
  refine norm_ (a' := ?_) ?_ ?_
  rotate_left
  · show Act.put _ (some 28) _ = _
    simp only [Act.put, List.setIfInBounds_toArray, List.set_cons_zero, List.set_cons_succ, i64_w, i32_w]
    rfl
  refine one_ (i := 6) (N := some 29) #[true, true, true, true, true, true, true, false, false] rfl rfl (by kernel_rfl) (by decide) (fun K hK => ?_)
  refine goes_ Tryd.func20 (by kernel_rfl) rfl #[.string appB, .string servB, .slice (some ⟨w7.heap.size, 0, none⟩) 1 1] (by rfl) rfl rfl (by (try simp only [List.map_toArray, List.map_cons, List.map_nil]); first | done | rfl) ?_
  refine (elemC _ _ _ _ _ _).mono ?_
  rintro e w8 ⟨rfl, hb8⟩
  refine ⟨_, rfl, ?_⟩
  have HK8 := Lib.hid (Kd.F_below (F_lit (d := k28) (t := 28) (s := w.heap.size + 1) (xs := [workN a0 xt xa xt]) (inner := [.int .i64 0, .string appB, .string workB, .slice none 0 0, .slice (some ⟨w6.heap.size, 0, none⟩) 2 2, .string ⟨#[]⟩]) (blk_top w7 _ rfl) (by omega) (Reps.c6 (fk_node rfl (Kd.F_below HK7.out al7)) (Reps.none _ _)) (by simp)) hb8)
  have HB8 := Lib.hid ((HB7.out.trans (al7.mono HB7.out.size)).trans (hb8.mono (HB7.out.trans (al7.mono HB7.out.size)).size))
  have B68 := Lib.hid ((hb8.block _ (Nat.lt_of_lt_of_le (blk_lt B67.out) al7.size)).trans ((al7.block _ (blk_lt B67.out)).trans B67.out))
  have BR8 := (hb8.block _ (Nat.lt_of_lt_of_le (blk_lt BR7.out) al7.size)).trans ((al7.block _ (blk_lt BR7.out)).trans BR7.out)
  clear hb8 al7 HK7 B67 BR7 HB7
  refine hK.out _ _ ⟨(Lnk.blk_cell (B68.out) 0 _ rfl).1, (Lnk.blk_cell (B68.out) 1 _ rfl).1, (Lnk.blk_cell (B68.out) 2 _ rfl).1, (Lnk.blk_cell (B68.out) 3 _ rfl).1, (Lnk.blk_cell (B68.out) 4 _ rfl).1, (Lnk.blk_cell (B68.out) 5 _ rfl).1⟩ (fun hHeld => ?_)
  clear hK K
  refine norm_ (a' := ?_) ?_ ?_
  rotate_left
  · show Act.put _ (some 29) _ = _
    simp only [Act.put, List.setIfInBounds_toArray, List.set_cons_zero, List.set_cons_succ, i64_w, i32_w]
    rfl
  have q0 := Lnk.blk_cell BR8 0 _ rfl
  have q1 := Lnk.blk_cell BR8 1 _ rfl
  have q2 := Lnk.blk_cell BR8 2 _ rfl
  have q3 := Lnk.blk_cell BR8 3 _ rfl
  have q4 := Lnk.blk_cell BR8 4 _ rfl
  have q5 := Lnk.blk_cell BR8 5 _ rfl
  refine last_ (i := 7) (N := none) #[true, true, true, true, true, true, true, true, false] rfl rfl (by kernel_rfl) (by decide) (fun K hK => ?_)
  refine skip_ (w1 := ?_) (by rfl) rfl ?_ ?_
  rotate_left
  · go_simp
    rfl
  refine hK.out _ _ ?_
  clear hK K
  refine pure_ (i := 8) (N := some 5) (v := ?_) (a' := ?_) #[true, true, true, true, true, true, true, true, true] rfl rfl (by kernel_rfl) (fun _ _ _ h => h) (Or.inl ⟨by rfl, ?_⟩) ?_ ?_
  rotate_left
  · intro w'
    go_simp
    with_reducible rfl
  rotate_left
  · simp only [Act.put, List.setIfInBounds_toArray, List.set_cons_zero, List.set_cons_succ, i64_w, i32_w]
    rfl
  refine done_ (by kernel_rfl) ?_
  go_wp2_with fail
  refine bodyPost_ret (v := .tuple #[.agg #[.int .i64 0, .string appB, .string servB, .slice none 0 0, .slice (some ⟨w7.heap.size, 0, none⟩) 1 1, .string ⟨#[]⟩], .int .i64 0]) (by simp [results, Tryd.results10, go_sem, q0, q1, q2, q3, q4, q5]) rfl ?_
  rw [HX.out]
  exact ⟨_, _, 1, rfl, rfl, Nat.le_refl _, Kd.F_mono (F_far4 (F_far4 (F_far4 (F_far4 (F_far4 (F_far4 HK8.out (by omega) _) (by omega) _) (by omega) _) (by omega) _) (by omega) _) (by omega) _) (fun k hk => by show _ ≤ _; omega), below6 HB8.out _ _ _ _ _ _⟩
def tup6 (x : S28) : Int × ByteArray × ByteArray × (List (S61)) × (List (S28)) × ByteArray := (x.f0, x.f1, x.f2, x.f3, x.f4, x.f5)
def tup (x : S28) (e : Int) : Int × ByteArray × ByteArray × (List (S61)) × (List (S28)) × ByteArray × Int := (x.f0, x.f1, x.f2, x.f3, x.f4, x.f5, e)
def servV (a0 a1 : ByteArray) : S28 × Int := if a0.toList = ([] : List UInt8) then (z28, 1) else if a1.toList = ([] : List UInt8) then (z28, 1) else (servN a0 a1, 0)
end Go.Proofs.YtjbckpoepfbgbaaDoor.Fd
namespace Go.Proofs.YtjbckpoepfbgbaaDoor.Pr
open Go.RowKit Go.Lib Go.Proofs.YtjbckpoepfbgbaaDoor.Fd Go.Proofs.YtjbckpoepfbgbaaDoorW.PrintWords
def feed_Service.f (k : Nat) (a0 : ByteArray) (a1 : ByteArray) : Option (Int × ByteArray × ByteArray × (List (S61)) × (List (S28)) × ByteArray × Int) := some (tup (servV a0 a1).1 (servV a0 a1).2)
def broadsheetlaw15_Plain.f (a0 : ByteArray) : Option (Int × ByteArray × ByteArray × (List (S61)) × (List (S28)) × ByteArray) := some (tup6 (plainN a0))
theorem serv_of (f : FuncId) (a0 a1 : ByteArray) (w : World) (hE : ((a0.toList == ([] : List UInt8)) = true ∨ ((a0.toList == ([] : List UInt8)) = false ∧ (a1.toList == ([] : List UInt8)) = true)) → Calls Tryd.prog f #[.string a0, .string a1] w (Failed 1 w))
    (hO : (a0.toList == ([] : List UInt8)) = false → (a1.toList == ([] : List UInt8)) = false → Calls Tryd.prog f #[.string a0, .string a1] w (Served (servN a0 a1) w)) (r1 : Int) (r2 : ByteArray) (r3 : ByteArray) (r4 : List (S61)) (r5 : List (S28)) (r6 : ByteArray) (r7 : Int) (h : some (tup (servV a0 a1).1 (servV a0 a1).2) = some (r1, r2, r3, r4, r5, r6, r7)) :
    Calls Tryd.prog f #[.string a0, .string a1] w fun e w' => ∃ v3_ v4_ : Value, e = .returned (.tuple #[.agg #[.int .i64 r1, .string r2, .string r3, v3_, v4_, .string r6], .int .i64 r7]) ∧ Kd.R k61 61 w' w.heap.size (fun k_ => (w.heap.size ≤ k_)) v3_ r4 ∧ Kd.V k28 28 w' w.heap.size (fun k_ => (w.heap.size ≤ k_) ∧ some k_ ≠ (v3_ : Value).ownBlock) v4_ r5 ∧ Below w.heap.size w w' := by
  have fail : (servV a0 a1) = (z28, 1) → Calls Tryd.prog f #[.string a0, .string a1] w (Failed 1 w) → Calls Tryd.prog f #[.string a0, .string a1] w fun e w' => ∃ v3_ v4_ : Value, e = .returned (.tuple #[.agg #[.int .i64 r1, .string r2, .string r3, v3_, v4_, .string r6], .int .i64 r7]) ∧ Kd.R k61 61 w' w.heap.size (fun k_ => (w.heap.size ≤ k_)) v3_ r4 ∧ Kd.V k28 28 w' w.heap.size (fun k_ => (w.heap.size ≤ k_) ∧ some k_ ≠ (v3_ : Value).ownBlock) v4_ r5 ∧ Below w.heap.size w w' := by
    intro hv hc
    rw [hv] at h
    simp only [tup, z28, Option.some.injEq, Prod.mk.injEq] at h
    obtain ⟨rfl, rfl, rfl, rfl, rfl, rfl, rfl⟩ := h
    refine hc.mono ?_
    rintro e w' ⟨rfl, hb⟩
    exact ⟨_, _, rfl, Kd.R_nil _ _ _ _ _, Kd.V_nil _ _ _ _ _, hb⟩
  by_cases h0 : a0.toList = ([] : List UInt8)
  · exact fail (by unfold servV; rw [if_pos h0]) (hE (.inl (beq_iff_eq.2 h0)))
  by_cases h1 : a1.toList = ([] : List UInt8)
  · exact fail (by unfold servV; rw [if_neg h0, if_pos h1]) (hE (.inr ⟨beq_eq_false_iff_ne.2 h0, beq_iff_eq.2 h1⟩))
  have hv : servV a0 a1 = (servN a0 a1, 0) := by unfold servV; rw [if_neg h0, if_neg h1]
  rw [hv] at h
  simp only [tup, Option.some.injEq, Prod.mk.injEq] at h
  obtain ⟨rfl, rfl, rfl, hr4, rfl, rfl, rfl⟩ := h
  have hr4' : r4 = [] := by rw [← hr4]; rfl
  subst hr4'
  refine (hO (beq_eq_false_iff_ne.2 h0) (beq_eq_false_iff_ne.2 h1)).mono ?_
  rintro e w' ⟨v3, A4, c4, rfl, rfl, hl, hF, hb⟩
  exact ⟨_, _, rfl, Kd.R_nil _ _ _ _ _, Kd.V_mk hl (Kd.F_mono hF (fun k hk => ⟨hk, by simp [Value.ownBlock]⟩)), hb⟩
theorem feed_Service.calls (k : Nat) (a0 : ByteArray) (a1 : ByteArray) (r1 : Int) (r2 : ByteArray) (r3 : ByteArray) (r4 : List (S61)) (r5 : List (S28)) (r6 : ByteArray) (r7 : Int) (w : World) (h : feed_Service.f k a0 a1 = some (r1, r2, r3, r4, r5, r6, r7)) :
    Calls Tryd.prog 10 #[.string a0, .string a1] w fun e w' => ∃ v3_ v4_ : Value, e = .returned (.tuple #[.agg #[.int .i64 r1, .string r2, .string r3, v3_, v4_, .string r6], .int .i64 r7]) ∧ Kd.R k61 61 w' w.heap.size (fun k_ => (w.heap.size ≤ k_)) v3_ r4 ∧ Kd.V k28 28 w' w.heap.size (fun k_ => (w.heap.size ≤ k_) ∧ some k_ ≠ (v3_ : Value).ownBlock) v4_ r5 ∧ Below w.heap.size w w' :=
  serv_of 10 a0 a1 w (servE a0 a1 w) (servO a0 a1 w) r1 r2 r3 r4 r5 r6 r7 h
theorem broadsheetlaw15_Plain.calls (a0 : ByteArray) (r1 : Int) (r2 : ByteArray) (r3 : ByteArray) (r4 : List (S61)) (r5 : List (S28)) (r6 : ByteArray) (w : World) (h : broadsheetlaw15_Plain.f a0 = some (r1, r2, r3, r4, r5, r6)) :
    Calls Tryd.prog 16 #[.string a0] w fun e w' => ∃ v3_ v4_ : Value, e = .returned (.agg #[.int .i64 r1, .string r2, .string r3, v3_, v4_, .string r6]) ∧ Kd.R k61 61 w' w.heap.size (fun k_ => (w.heap.size ≤ k_)) v3_ r4 ∧ Kd.N k28 28 w' w.heap.size (fun k_ => (w.heap.size ≤ k_) ∧ some k_ ≠ (v3_ : Value).ownBlock) v4_ r5 ∧ Below w.heap.size w w' := by
  unfold broadsheetlaw15_Plain.f at h
  simp only [tup6, Option.some.injEq, Prod.mk.injEq] at h
  obtain ⟨rfl, rfl, rfl, hr4, rfl, rfl⟩ := h
  have hr4' : r4 = [] := by rw [← hr4]; rfl
  subst hr4'
  refine (plainC a0 w).mono ?_
  rintro e w' ⟨v4, rfl, hN, hb⟩
  exact ⟨_, _, rfl, Kd.R_nil _ _ _ _ _, Kd.N_mono hN (fun k hk => ⟨hk, by simp [Value.ownBlock]⟩), hb⟩
end Go.Proofs.YtjbckpoepfbgbaaDoor.Pr
