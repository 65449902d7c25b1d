/- The order of members, as the program's closures tell it: the later edited first, then the greater number. -/
import Derived.Test.YtjbfjgaghjggpaaProg
import Derived.WalkKit
import Derived.WalkSpells
import Derived.WalkLawsBesides
import Derived.Outline
import Derived.Shelf.SlSortCmp.KitK
import Derived.Lib.Hide
set_option linter.unusedVariables false
set_option linter.unusedSectionVars false
namespace Go.Proofs.Ytjbfjgaghjggpaa.Srt
open Go.Shelf Go.RowKit Go.Lib Go.Sort

/-- A member's cells. -/
structure Cel where
  num : Int
  ed : Int
  v2 : Value
  v3 : Value
  v4 : Value
  v5 : Value
  v6 : Value
  v7 : Value
  v8 : Value
  one : ∀ v ∈ [v2, v3, v4, v5, v6, v7, v8], v.oneCell' = true
instance : Inhabited Cel := ⟨⟨0, 0, .bool false, .bool false, .bool false, .bool false, .bool false, .bool false, .bool false, by decide⟩⟩
def Cel.enc (x : Cel) : List Value := [.int .i64 x.num, .int .i64 x.ed, x.v2, x.v3, x.v4, x.v5, x.v6, x.v7, x.v8]
theorem Cel.len (x : Cel) : x.enc.length = 9 := rfl
theorem Cel.h1 (x : Cel) : ∀ v ∈ x.enc, v.oneCell' = true := by
  intro v hv
  unfold Cel.enc at hv
  rcases List.mem_cons.1 hv with rfl | hv
  · rfl
  rcases List.mem_cons.1 hv with rfl | hv
  · rfl
  exact x.one v hv

def cmpInt (x y : Int) : Int := if x < y then -1 else if y < x then 1 else 0
def cmpCel (a b : Cel) : Int := if cmpInt b.ed a.ed = 0 then cmpInt b.num a.num else cmpInt b.ed a.ed

set_option maxHeartbeats 1000000 in
theorem isNaN (x : Int) (w : World) : Calls Try.prog 31 #[.int .i64 x] w fun e w' => e = .returned (.bool false) ∧ w' = w := by
  go_enter Try.func31, Try.ntmps31
  go_wp2
  go_ret
  exact ⟨by simp, rfl⟩
set_option maxHeartbeats 1000000 in
theorem compare (x y : Int) (w : World) : Calls Try.prog 27 #[.int .i64 x, .int .i64 y] w fun e w' => e = .returned (.int .i64 (cmpInt x y)) ∧ w' = w := by
  unfold cmpInt
  by_cases h1 : x < y
  · rw [if_pos h1]
    go_enter Try.func27, Try.ntmps27
    go_wp2_with (first | (go_at_call 31; refine (isNaN _ _).mono ?_; rintro e w' ⟨rfl, rfl⟩))
    go_ret
    exact ⟨rfl, rfl⟩
  · by_cases h2 : y < x
    · rw [if_neg h1, if_pos h2]
      go_enter Try.func27, Try.ntmps27
      go_wp2_with (first | (go_at_call 31; refine (isNaN _ _).mono ?_; rintro e w' ⟨rfl, rfl⟩))
      go_ret
      exact ⟨rfl, rfl⟩
    · rw [if_neg h1, if_neg h2]
      go_enter Try.func27, Try.ntmps27
      go_wp2_with (first | (go_at_call 31; refine (isNaN _ _).mono ?_; rintro e w' ⟨rfl, rfl⟩))
      go_ret
      exact ⟨rfl, rfl⟩
set_option maxHeartbeats 1000000 in
theorem edited (x : Cel) (w : World) : Calls Try.prog 18 #[.agg x.enc.toArray] w fun e w' => e = .returned (.int .i64 x.ed) ∧ ∃ os, w' = grow w os := by
  unfold Cel.enc
  go_enter Try.func18, Try.ntmps18
  go_wp2
  go_ret
  exact ⟨rfl, _, (alloc_eq_grow _ _)⟩
set_option maxHeartbeats 1000000 in
theorem number (x : Cel) (w : World) : Calls Try.prog 19 #[.agg x.enc.toArray] w fun e w' => e = .returned (.int .i64 x.num) ∧ ∃ os, w' = grow w os := by
  unfold Cel.enc
  go_enter Try.func19, Try.ntmps19
  go_wp2
  go_ret
  exact ⟨rfl, _, (alloc_eq_grow _ _)⟩

/-- A cell of an old block that is not the row's, in a world of the sort's. -/
theorem old_cell {α : Type} [Inhabited α] (enc : α → List Value) (k : Nat) (W : World) (blk off n : Nat) (dk : Array α) (os : Array Obj) (a : Addr) (h1 : a.block ≠ blk) (h2 : a.block < W.heap.size) : (sortWorldK enc k W blk off n dk os).cell? a = W.cell? a := by
  unfold sortWorldK
  rw [cell?_grow _ _ _ (by rw [size_putRowK]; exact h2), cell?_putRowK_other enc k _ blk off dk a h1]
  rfl

/-- What lies in a block is read behind draws and new blocks. -/
theorem box_in {W : World} {b : Nat} {cs : Array Value} {T : TypeId} (h : W.heap[b]? = some (.cells cs T (0, 0))) (n : Nat) (os : Array Obj) (j : Nat) (v : Value) (hv : cs[j]? = some v) : (grow (W.drewN n) os).cell? ⟨b, j, none⟩ = some v := by
  have hb : b < W.heap.size := by
    rcases Nat.lt_or_ge b W.heap.size with h1 | h1
    · exact h1
    · rw [Array.getElem?_eq_none h1] at h; cases h
  rw [cell?_grow _ _ _ hb]
  show (W.drewN n).cell? _ = _
  rw [World.cell?_drewN]
  simp [World.cell?, h, hv]
theorem blk_grow {W : World} {b : Nat} {o : Obj} (h : W.heap[b]? = some o) (n : Nat) (os : Array Obj) : (grow (W.drewN n) os).heap[b]? = some o := by
  have hb : b < W.heap.size := by
    rcases Nat.lt_or_ge b W.heap.size with h1 | h1
    · exact h1
    · rw [Array.getElem?_eq_none h1] at h; cases h
  rw [heap_grow_old _ _ (by exact hb)]
  exact h
theorem alloc_new (w : World) (o : Obj) : (w.alloc o).heap[w.heap.size]? = some o := by
  show (w.heap.push o)[w.heap.size]? = some o
  simp
theorem alloc_old (w : World) (o o' : Obj) (b : Nat) (h : w.heap[b]? = some o') : (w.alloc o).heap[b]? = some o' := by rw [alloc_eq_grow]; exact blk_grow (W := w) h 0 #[o]
theorem edited' (x : Cel) (w : World) (n : Nat) (os : Array Obj) : Calls Try.prog 18 #[.agg #[.int .i64 x.num, .int .i64 x.ed, x.v2, x.v3, x.v4, x.v5, x.v6, x.v7, x.v8]] (grow (w.drewN n) os) fun e w' => e = .returned (.int .i64 x.ed) ∧ ∃ q os', w' = grow ((grow (w.drewN n) os).drewN q) os' :=
  (edited x _).mono fun e w' ⟨he, os', hw⟩ => ⟨he, 0, os', hw⟩
theorem number' (x : Cel) (w : World) (n : Nat) (os : Array Obj) : Calls Try.prog 19 #[.agg #[.int .i64 x.num, .int .i64 x.ed, x.v2, x.v3, x.v4, x.v5, x.v6, x.v7, x.v8]] (grow (w.drewN n) os) fun e w' => e = .returned (.int .i64 x.num) ∧ ∃ q os', w' = grow ((grow (w.drewN n) os).drewN q) os' :=
  (number x _).mono fun e w' ⟨he, os', hw⟩ => ⟨he, 0, os', hw⟩
theorem compare' (x y : Int) (w : World) (n : Nat) (os : Array Obj) : Calls Try.prog 27 #[.int .i64 x, .int .i64 y] (grow (w.drewN n) os) fun e w' => e = .returned (.int .i64 (cmpInt x y)) ∧ ∃ q os', w' = grow ((grow (w.drewN n) os).drewN q) os' :=
  (compare x y _).mono fun e w' ⟨he, hw⟩ => ⟨he, 0, #[], by rw [hw, grow_empty]; rfl⟩
def Grn (w W : World) : Prop := ∃ q os, W = grow (w.drewN q) os
theorem Grn.step {w W : World} (h : Grn w W) (n : Nat) (os : Array Obj) : Grn w (grow (W.drewN n) os) := by
  obtain ⟨q, os0, rfl⟩ := h
  exact ⟨q + n, os0 ++ os, by show grow (grow ((w.drewN q).drewN n) os0) os = _; rw [grow_grow, World.drewN_drewN]⟩
theorem Grn.cell {w W : World} (h : Grn w W) {a : Addr} {v : Value} (hc : w.cell? a = some v) : W.cell? a = some v := by
  obtain ⟨q, os, rfl⟩ := h
  exact cell_grown (World.block_lt_of_cell? w _ hc) hc q os
theorem Grn.blk {w W : World} (h : Grn w W) {b : Nat} {o : Obj} (hb : w.heap[b]? = some o) : W.heap[b]? = some o := by
  obtain ⟨q, os, rfl⟩ := h
  exact blk_grow hb q os
theorem Grn.refl (w : World) : Grn w w := ⟨0, #[], by rw [grow_empty]; rfl⟩
theorem Grn.alloc {w W : World} (h : Grn w W) (o : Obj) : Grn w (W.alloc o) := by
  have := h.step 0 #[o]
  rw [alloc_eq_grow]; exact this

set_option maxHeartbeats 4000000 in
/-- The order's closure: pb: where its functions' slice lies. -/
theorem falls (x y : Cel) (pb fb : Nat) (c : Nat) (w : World) (h1 : w.cell? ⟨pb, 0, none⟩ = some (.slice (some ⟨fb, 0, none⟩) 2 c)) (h2 : w.cell? ⟨fb, 0, none⟩ = some (.func (.func 18) #[] #[])) (h3 : w.cell? ⟨fb, 1, none⟩ = some (.func (.func 19) #[] #[])) :
    Calls Try.prog 26 #[.agg x.enc.toArray, .agg y.enc.toArray, .pointer (some ⟨pb, 0, none⟩)] w fun e w' => e = .returned (.int .i64 (cmpCel x y)) ∧ Grn w w' := by
  have hp : pb < w.heap.size := World.block_lt_of_cell? w _ h1
  have hf : fb < w.heap.size := World.block_lt_of_cell? w _ h2
  obtain ⟨bx, hbx⟩ : ∃ b, b = w.heap.size := ⟨_, rfl⟩
  have HF : Hid (w.cell? ⟨fb, 0, none⟩ = some (.func (.func 18) #[] #[]) ∧ w.cell? ⟨fb, 1, none⟩ = some (.func (.func 19) #[] #[])) := ⟨h2, h3⟩
  have mixed : Try.prog.follows .mixedOrders = true := by kernel_rfl
  go_enter Try.func26, Try.ntmps26
  go_wp2_with fail
  have HX : Hid ((((w.alloc (Obj.cells x.enc.toArray 32)).alloc (Obj.cells y.enc.toArray 32))).heap[bx]? = some (.cells x.enc.toArray 32 (0, 0))) := by show _ = _; rw [hbx]; exact alloc_old _ _ _ _ (alloc_new w _)
  have HY : Hid ((((w.alloc (Obj.cells x.enc.toArray 32)).alloc (Obj.cells y.enc.toArray 32))).heap[bx + 1]? = some (.cells y.enc.toArray 32 (0, 0))) := by
    have h := alloc_new (w.alloc (Obj.cells x.enc.toArray 32)) (Obj.cells y.enc.toArray 32)
    have e : (w.alloc (Obj.cells x.enc.toArray 32)).heap.size = w.heap.size + 1 := by simp
    rw [e] at h
    show _ = _; rw [hbx]; exact h
  have HG : Hid (Grn w ((w.alloc (Obj.cells x.enc.toArray 32)).alloc (Obj.cells y.enc.toArray 32))) := ((Grn.refl w).alloc _).alloc _
  rw [← hbx]
  clear h1 h2 h3 hp hf hbx
  go_loopg [7, 8, 11] 2 (fun kx s7 s8 s11 wr => ∃ i : Nat, s11 = .int .i64 i ∧ i ≤ 2 ∧ 2 - i ≤ kx ∧ Hid (Grn w wr ∧ wr.heap[bx]? = some (.cells x.enc.toArray 32 (0, 0)) ∧ wr.heap[bx + 1]? = some (.cells y.enc.toArray 32 (0, 0))) ∧ Hid ((0 < i → cmpInt y.ed x.ed = 0) ∧ (1 < i → cmpInt y.num x.num = 0)))
  case atStart => exact ⟨0, rfl, by omega, by omega, ⟨HG.out, HX.out, HY.out⟩, ⟨fun h => by omega, fun h => by omega⟩⟩
  case round =>
    clear HX HY HG
    obtain ⟨i, rfl, hi, hk, HW, HC⟩ := hrel
    by_cases hi2 : i = 2
    · subst hi2
      have HR : Hid (cmpCel x y = 0) := by show _ = _; unfold cmpCel; rw [if_pos (HC.out.1 (by omega)), HC.out.2 (by omega)]
      go_wp2_with fail
      go_ret
      exact ⟨by rw [HR.out]; rfl, HW.out.1⟩
    · have hi3 : i = 0 ∨ i = 1 := by omega
      obtain ⟨W, hW⟩ : ∃ W, W = wr := ⟨_, rfl⟩
      rw [← hW] at HW ⊢
      have Hx : Hid (∀ n os j v, x.enc.toArray[j]? = some v → (grow (W.drewN n) os).cell? ⟨bx, j, none⟩ = some v) := fun n os j v h => box_in HW.out.2.1 n os j v h
      have Hy : Hid (∀ n os j v, y.enc.toArray[j]? = some v → (grow (W.drewN n) os).cell? ⟨bx + 1, j, none⟩ = some v) := fun n os j v h => box_in HW.out.2.2 n os j v h
      clear hW hi2
      rcases hi3 with rfl | rfl
      · have g0 : W.cell? ⟨fb, 0, none⟩ = some (.func (.func 18) #[] #[]) := HW.out.1.cell HF.out.1
        by_cases hz : cmpInt y.ed x.ed = 0
        · have hz2 : (cmpInt y.ed x.ed == 0) = true := by simp [hz]
          have cx0 : ∀ (n : Nat) (os : Array Obj), (grow (W.drewN n) os).cell? ⟨bx, 0, none⟩ = some (.int .i64 x.num) := fun n os => Hx.out n os 0 (.int .i64 x.num) rfl
          have cx1 : ∀ (n : Nat) (os : Array Obj), (grow (W.drewN n) os).cell? ⟨bx, 1, none⟩ = some (.int .i64 x.ed) := fun n os => Hx.out n os 1 (.int .i64 x.ed) rfl
          have cx2 : ∀ (n : Nat) (os : Array Obj), (grow (W.drewN n) os).cell? ⟨bx, 2, none⟩ = some (x.v2) := fun n os => Hx.out n os 2 (x.v2) rfl
          have cx3 : ∀ (n : Nat) (os : Array Obj), (grow (W.drewN n) os).cell? ⟨bx, 3, none⟩ = some (x.v3) := fun n os => Hx.out n os 3 (x.v3) rfl
          have cx4 : ∀ (n : Nat) (os : Array Obj), (grow (W.drewN n) os).cell? ⟨bx, 4, none⟩ = some (x.v4) := fun n os => Hx.out n os 4 (x.v4) rfl
          have cx5 : ∀ (n : Nat) (os : Array Obj), (grow (W.drewN n) os).cell? ⟨bx, 5, none⟩ = some (x.v5) := fun n os => Hx.out n os 5 (x.v5) rfl
          have cx6 : ∀ (n : Nat) (os : Array Obj), (grow (W.drewN n) os).cell? ⟨bx, 6, none⟩ = some (x.v6) := fun n os => Hx.out n os 6 (x.v6) rfl
          have cx7 : ∀ (n : Nat) (os : Array Obj), (grow (W.drewN n) os).cell? ⟨bx, 7, none⟩ = some (x.v7) := fun n os => Hx.out n os 7 (x.v7) rfl
          have cx8 : ∀ (n : Nat) (os : Array Obj), (grow (W.drewN n) os).cell? ⟨bx, 8, none⟩ = some (x.v8) := fun n os => Hx.out n os 8 (x.v8) rfl
          have cy0 : ∀ (n : Nat) (os : Array Obj), (grow (W.drewN n) os).cell? ⟨bx + 1, 0, none⟩ = some (.int .i64 y.num) := fun n os => Hy.out n os 0 (.int .i64 y.num) rfl
          have cy1 : ∀ (n : Nat) (os : Array Obj), (grow (W.drewN n) os).cell? ⟨bx + 1, 1, none⟩ = some (.int .i64 y.ed) := fun n os => Hy.out n os 1 (.int .i64 y.ed) rfl
          have cy2 : ∀ (n : Nat) (os : Array Obj), (grow (W.drewN n) os).cell? ⟨bx + 1, 2, none⟩ = some (y.v2) := fun n os => Hy.out n os 2 (y.v2) rfl
          have cy3 : ∀ (n : Nat) (os : Array Obj), (grow (W.drewN n) os).cell? ⟨bx + 1, 3, none⟩ = some (y.v3) := fun n os => Hy.out n os 3 (y.v3) rfl
          have cy4 : ∀ (n : Nat) (os : Array Obj), (grow (W.drewN n) os).cell? ⟨bx + 1, 4, none⟩ = some (y.v4) := fun n os => Hy.out n os 4 (y.v4) rfl
          have cy5 : ∀ (n : Nat) (os : Array Obj), (grow (W.drewN n) os).cell? ⟨bx + 1, 5, none⟩ = some (y.v5) := fun n os => Hy.out n os 5 (y.v5) rfl
          have cy6 : ∀ (n : Nat) (os : Array Obj), (grow (W.drewN n) os).cell? ⟨bx + 1, 6, none⟩ = some (y.v6) := fun n os => Hy.out n os 6 (y.v6) rfl
          have cy7 : ∀ (n : Nat) (os : Array Obj), (grow (W.drewN n) os).cell? ⟨bx + 1, 7, none⟩ = some (y.v7) := fun n os => Hy.out n os 7 (y.v7) rfl
          have cy8 : ∀ (n : Nat) (os : Array Obj), (grow (W.drewN n) os).cell? ⟨bx + 1, 8, none⟩ = some (y.v8) := fun n os => Hy.out n os 8 (y.v8) rfl
          have HZ := Lib.hid hz
          clear hz
          have hz3 : (cmpInt y.ed x.ed != 0) = false := by rw [bne, hz2]; rfl
          generalize hq : cmpInt y.ed x.ed = q at hz2 hz3
          have HQ := Lib.hid hq
          clear hq
          have CC : ∀ n os, Calls Try.prog 27 #[.int .i64 y.ed, .int .i64 x.ed] (grow (W.drewN n) os) fun e w' => e = .returned (.int .i64 q) ∧ ∃ q os', w' = grow ((grow (W.drewN n) os).drewN q) os' := fun n os => by rw [← HQ.out]; exact compare' _ _ W n os
          go_wp2_with fail
          go_quiet_grown (first | (go_at_call 27; refine Calls.grown_of (CC _ _)) | (refine Calls.grown_of (edited' y W _ _)) | (refine Calls.grown_of (edited' x W _ _)))
          have HS : Hid (Grn w (grow (W.drewN nq) osq) ∧ (grow (W.drewN nq) osq).heap[bx]? = some (.cells x.enc.toArray 32 (0, 0)) ∧ (grow (W.drewN nq) osq).heap[bx + 1]? = some (.cells y.enc.toArray 32 (0, 0))) := ⟨HW.out.1.step _ _, blk_grow HW.out.2.1 _ _, blk_grow HW.out.2.2 _ _⟩
          clear CC g0 cx0 cx1 cx2 cx3 cx4 cx5 cx6 cx7 cx8 cy0 cy1 cy2 cy3 cy4 cy5 cy6 cy7 cy8
          generalize grow (W.drewN nq) osq = w2 at HS ⊢
          go_wp2_with fail
          go_roundg 1
          case measure => omega
          case rel => exact ⟨1, rfl, by omega, by omega, HS.out, ⟨fun _ => HZ.out, fun h => by omega⟩⟩
        · have hz2 : (cmpInt y.ed x.ed == 0) = false := by simp [hz]
          have cx0 : ∀ (n : Nat) (os : Array Obj), (grow (W.drewN n) os).cell? ⟨bx, 0, none⟩ = some (.int .i64 x.num) := fun n os => Hx.out n os 0 (.int .i64 x.num) rfl
          have cx1 : ∀ (n : Nat) (os : Array Obj), (grow (W.drewN n) os).cell? ⟨bx, 1, none⟩ = some (.int .i64 x.ed) := fun n os => Hx.out n os 1 (.int .i64 x.ed) rfl
          have cx2 : ∀ (n : Nat) (os : Array Obj), (grow (W.drewN n) os).cell? ⟨bx, 2, none⟩ = some (x.v2) := fun n os => Hx.out n os 2 (x.v2) rfl
          have cx3 : ∀ (n : Nat) (os : Array Obj), (grow (W.drewN n) os).cell? ⟨bx, 3, none⟩ = some (x.v3) := fun n os => Hx.out n os 3 (x.v3) rfl
          have cx4 : ∀ (n : Nat) (os : Array Obj), (grow (W.drewN n) os).cell? ⟨bx, 4, none⟩ = some (x.v4) := fun n os => Hx.out n os 4 (x.v4) rfl
          have cx5 : ∀ (n : Nat) (os : Array Obj), (grow (W.drewN n) os).cell? ⟨bx, 5, none⟩ = some (x.v5) := fun n os => Hx.out n os 5 (x.v5) rfl
          have cx6 : ∀ (n : Nat) (os : Array Obj), (grow (W.drewN n) os).cell? ⟨bx, 6, none⟩ = some (x.v6) := fun n os => Hx.out n os 6 (x.v6) rfl
          have cx7 : ∀ (n : Nat) (os : Array Obj), (grow (W.drewN n) os).cell? ⟨bx, 7, none⟩ = some (x.v7) := fun n os => Hx.out n os 7 (x.v7) rfl
          have cx8 : ∀ (n : Nat) (os : Array Obj), (grow (W.drewN n) os).cell? ⟨bx, 8, none⟩ = some (x.v8) := fun n os => Hx.out n os 8 (x.v8) rfl
          have cy0 : ∀ (n : Nat) (os : Array Obj), (grow (W.drewN n) os).cell? ⟨bx + 1, 0, none⟩ = some (.int .i64 y.num) := fun n os => Hy.out n os 0 (.int .i64 y.num) rfl
          have cy1 : ∀ (n : Nat) (os : Array Obj), (grow (W.drewN n) os).cell? ⟨bx + 1, 1, none⟩ = some (.int .i64 y.ed) := fun n os => Hy.out n os 1 (.int .i64 y.ed) rfl
          have cy2 : ∀ (n : Nat) (os : Array Obj), (grow (W.drewN n) os).cell? ⟨bx + 1, 2, none⟩ = some (y.v2) := fun n os => Hy.out n os 2 (y.v2) rfl
          have cy3 : ∀ (n : Nat) (os : Array Obj), (grow (W.drewN n) os).cell? ⟨bx + 1, 3, none⟩ = some (y.v3) := fun n os => Hy.out n os 3 (y.v3) rfl
          have cy4 : ∀ (n : Nat) (os : Array Obj), (grow (W.drewN n) os).cell? ⟨bx + 1, 4, none⟩ = some (y.v4) := fun n os => Hy.out n os 4 (y.v4) rfl
          have cy5 : ∀ (n : Nat) (os : Array Obj), (grow (W.drewN n) os).cell? ⟨bx + 1, 5, none⟩ = some (y.v5) := fun n os => Hy.out n os 5 (y.v5) rfl
          have cy6 : ∀ (n : Nat) (os : Array Obj), (grow (W.drewN n) os).cell? ⟨bx + 1, 6, none⟩ = some (y.v6) := fun n os => Hy.out n os 6 (y.v6) rfl
          have cy7 : ∀ (n : Nat) (os : Array Obj), (grow (W.drewN n) os).cell? ⟨bx + 1, 7, none⟩ = some (y.v7) := fun n os => Hy.out n os 7 (y.v7) rfl
          have cy8 : ∀ (n : Nat) (os : Array Obj), (grow (W.drewN n) os).cell? ⟨bx + 1, 8, none⟩ = some (y.v8) := fun n os => Hy.out n os 8 (y.v8) rfl
          have HZ := Lib.hid hz
          clear hz
          have hz3 : (cmpInt y.ed x.ed != 0) = true := by rw [bne, hz2]; rfl
          generalize hq : cmpInt y.ed x.ed = q at hz2 hz3
          have HQ := Lib.hid hq
          clear hq
          have CC : ∀ n os, Calls Try.prog 27 #[.int .i64 y.ed, .int .i64 x.ed] (grow (W.drewN n) os) fun e w' => e = .returned (.int .i64 q) ∧ ∃ q os', w' = grow ((grow (W.drewN n) os).drewN q) os' := fun n os => by rw [← HQ.out]; exact compare' _ _ W n os
          go_wp2_with fail
          go_quiet_grown (first | (go_at_call 27; refine Calls.grown_of (CC _ _)) | (refine Calls.grown_of (edited' y W _ _)) | (refine Calls.grown_of (edited' x W _ _)))
          have HS : Hid (Grn w (grow (W.drewN nq) osq) ∧ (grow (W.drewN nq) osq).heap[bx]? = some (.cells x.enc.toArray 32 (0, 0)) ∧ (grow (W.drewN nq) osq).heap[bx + 1]? = some (.cells y.enc.toArray 32 (0, 0))) := ⟨HW.out.1.step _ _, blk_grow HW.out.2.1 _ _, blk_grow HW.out.2.2 _ _⟩
          clear CC g0 cx0 cx1 cx2 cx3 cx4 cx5 cx6 cx7 cx8 cy0 cy1 cy2 cy3 cy4 cy5 cy6 cy7 cy8
          generalize grow (W.drewN nq) osq = w2 at HS ⊢
          go_wp2_with fail
          go_ret
          have HR : cmpCel x y = q := by unfold cmpCel; rw [if_neg HZ.out]; exact HQ.out
          exact ⟨by rw [HR]; rfl, HS.out.1⟩
      · have g0 : W.cell? ⟨fb, 1, none⟩ = some (.func (.func 19) #[] #[]) := HW.out.1.cell HF.out.2
        by_cases hz : cmpInt y.num x.num = 0
        · have hz2 : (cmpInt y.num x.num == 0) = true := by simp [hz]
          have cx0 : ∀ (n : Nat) (os : Array Obj), (grow (W.drewN n) os).cell? ⟨bx, 0, none⟩ = some (.int .i64 x.num) := fun n os => Hx.out n os 0 (.int .i64 x.num) rfl
          have cx1 : ∀ (n : Nat) (os : Array Obj), (grow (W.drewN n) os).cell? ⟨bx, 1, none⟩ = some (.int .i64 x.ed) := fun n os => Hx.out n os 1 (.int .i64 x.ed) rfl
          have cx2 : ∀ (n : Nat) (os : Array Obj), (grow (W.drewN n) os).cell? ⟨bx, 2, none⟩ = some (x.v2) := fun n os => Hx.out n os 2 (x.v2) rfl
          have cx3 : ∀ (n : Nat) (os : Array Obj), (grow (W.drewN n) os).cell? ⟨bx, 3, none⟩ = some (x.v3) := fun n os => Hx.out n os 3 (x.v3) rfl
          have cx4 : ∀ (n : Nat) (os : Array Obj), (grow (W.drewN n) os).cell? ⟨bx, 4, none⟩ = some (x.v4) := fun n os => Hx.out n os 4 (x.v4) rfl
          have cx5 : ∀ (n : Nat) (os : Array Obj), (grow (W.drewN n) os).cell? ⟨bx, 5, none⟩ = some (x.v5) := fun n os => Hx.out n os 5 (x.v5) rfl
          have cx6 : ∀ (n : Nat) (os : Array Obj), (grow (W.drewN n) os).cell? ⟨bx, 6, none⟩ = some (x.v6) := fun n os => Hx.out n os 6 (x.v6) rfl
          have cx7 : ∀ (n : Nat) (os : Array Obj), (grow (W.drewN n) os).cell? ⟨bx, 7, none⟩ = some (x.v7) := fun n os => Hx.out n os 7 (x.v7) rfl
          have cx8 : ∀ (n : Nat) (os : Array Obj), (grow (W.drewN n) os).cell? ⟨bx, 8, none⟩ = some (x.v8) := fun n os => Hx.out n os 8 (x.v8) rfl
          have cy0 : ∀ (n : Nat) (os : Array Obj), (grow (W.drewN n) os).cell? ⟨bx + 1, 0, none⟩ = some (.int .i64 y.num) := fun n os => Hy.out n os 0 (.int .i64 y.num) rfl
          have cy1 : ∀ (n : Nat) (os : Array Obj), (grow (W.drewN n) os).cell? ⟨bx + 1, 1, none⟩ = some (.int .i64 y.ed) := fun n os => Hy.out n os 1 (.int .i64 y.ed) rfl
          have cy2 : ∀ (n : Nat) (os : Array Obj), (grow (W.drewN n) os).cell? ⟨bx + 1, 2, none⟩ = some (y.v2) := fun n os => Hy.out n os 2 (y.v2) rfl
          have cy3 : ∀ (n : Nat) (os : Array Obj), (grow (W.drewN n) os).cell? ⟨bx + 1, 3, none⟩ = some (y.v3) := fun n os => Hy.out n os 3 (y.v3) rfl
          have cy4 : ∀ (n : Nat) (os : Array Obj), (grow (W.drewN n) os).cell? ⟨bx + 1, 4, none⟩ = some (y.v4) := fun n os => Hy.out n os 4 (y.v4) rfl
          have cy5 : ∀ (n : Nat) (os : Array Obj), (grow (W.drewN n) os).cell? ⟨bx + 1, 5, none⟩ = some (y.v5) := fun n os => Hy.out n os 5 (y.v5) rfl
          have cy6 : ∀ (n : Nat) (os : Array Obj), (grow (W.drewN n) os).cell? ⟨bx + 1, 6, none⟩ = some (y.v6) := fun n os => Hy.out n os 6 (y.v6) rfl
          have cy7 : ∀ (n : Nat) (os : Array Obj), (grow (W.drewN n) os).cell? ⟨bx + 1, 7, none⟩ = some (y.v7) := fun n os => Hy.out n os 7 (y.v7) rfl
          have cy8 : ∀ (n : Nat) (os : Array Obj), (grow (W.drewN n) os).cell? ⟨bx + 1, 8, none⟩ = some (y.v8) := fun n os => Hy.out n os 8 (y.v8) rfl
          have HZ := Lib.hid hz
          clear hz
          have hz3 : (cmpInt y.num x.num != 0) = false := by rw [bne, hz2]; rfl
          generalize hq : cmpInt y.num x.num = q at hz2 hz3
          have HQ := Lib.hid hq
          clear hq
          have CC : ∀ n os, Calls Try.prog 27 #[.int .i64 y.num, .int .i64 x.num] (grow (W.drewN n) os) fun e w' => e = .returned (.int .i64 q) ∧ ∃ q os', w' = grow ((grow (W.drewN n) os).drewN q) os' := fun n os => by rw [← HQ.out]; exact compare' _ _ W n os
          go_wp2_with fail
          go_quiet_grown (first | (go_at_call 27; refine Calls.grown_of (CC _ _)) | (refine Calls.grown_of (number' y W _ _)) | (refine Calls.grown_of (number' x W _ _)))
          have HS : Hid (Grn w (grow (W.drewN nq) osq) ∧ (grow (W.drewN nq) osq).heap[bx]? = some (.cells x.enc.toArray 32 (0, 0)) ∧ (grow (W.drewN nq) osq).heap[bx + 1]? = some (.cells y.enc.toArray 32 (0, 0))) := ⟨HW.out.1.step _ _, blk_grow HW.out.2.1 _ _, blk_grow HW.out.2.2 _ _⟩
          clear CC g0 cx0 cx1 cx2 cx3 cx4 cx5 cx6 cx7 cx8 cy0 cy1 cy2 cy3 cy4 cy5 cy6 cy7 cy8
          generalize grow (W.drewN nq) osq = w2 at HS ⊢
          go_wp2_with fail
          go_roundg 0
          case measure => omega
          case rel => exact ⟨2, rfl, by omega, by omega, HS.out, ⟨fun _ => HC.out.1 (by omega), fun _ => HZ.out⟩⟩
        · have hz2 : (cmpInt y.num x.num == 0) = false := by simp [hz]
          have cx0 : ∀ (n : Nat) (os : Array Obj), (grow (W.drewN n) os).cell? ⟨bx, 0, none⟩ = some (.int .i64 x.num) := fun n os => Hx.out n os 0 (.int .i64 x.num) rfl
          have cx1 : ∀ (n : Nat) (os : Array Obj), (grow (W.drewN n) os).cell? ⟨bx, 1, none⟩ = some (.int .i64 x.ed) := fun n os => Hx.out n os 1 (.int .i64 x.ed) rfl
          have cx2 : ∀ (n : Nat) (os : Array Obj), (grow (W.drewN n) os).cell? ⟨bx, 2, none⟩ = some (x.v2) := fun n os => Hx.out n os 2 (x.v2) rfl
          have cx3 : ∀ (n : Nat) (os : Array Obj), (grow (W.drewN n) os).cell? ⟨bx, 3, none⟩ = some (x.v3) := fun n os => Hx.out n os 3 (x.v3) rfl
          have cx4 : ∀ (n : Nat) (os : Array Obj), (grow (W.drewN n) os).cell? ⟨bx, 4, none⟩ = some (x.v4) := fun n os => Hx.out n os 4 (x.v4) rfl
          have cx5 : ∀ (n : Nat) (os : Array Obj), (grow (W.drewN n) os).cell? ⟨bx, 5, none⟩ = some (x.v5) := fun n os => Hx.out n os 5 (x.v5) rfl
          have cx6 : ∀ (n : Nat) (os : Array Obj), (grow (W.drewN n) os).cell? ⟨bx, 6, none⟩ = some (x.v6) := fun n os => Hx.out n os 6 (x.v6) rfl
          have cx7 : ∀ (n : Nat) (os : Array Obj), (grow (W.drewN n) os).cell? ⟨bx, 7, none⟩ = some (x.v7) := fun n os => Hx.out n os 7 (x.v7) rfl
          have cx8 : ∀ (n : Nat) (os : Array Obj), (grow (W.drewN n) os).cell? ⟨bx, 8, none⟩ = some (x.v8) := fun n os => Hx.out n os 8 (x.v8) rfl
          have cy0 : ∀ (n : Nat) (os : Array Obj), (grow (W.drewN n) os).cell? ⟨bx + 1, 0, none⟩ = some (.int .i64 y.num) := fun n os => Hy.out n os 0 (.int .i64 y.num) rfl
          have cy1 : ∀ (n : Nat) (os : Array Obj), (grow (W.drewN n) os).cell? ⟨bx + 1, 1, none⟩ = some (.int .i64 y.ed) := fun n os => Hy.out n os 1 (.int .i64 y.ed) rfl
          have cy2 : ∀ (n : Nat) (os : Array Obj), (grow (W.drewN n) os).cell? ⟨bx + 1, 2, none⟩ = some (y.v2) := fun n os => Hy.out n os 2 (y.v2) rfl
          have cy3 : ∀ (n : Nat) (os : Array Obj), (grow (W.drewN n) os).cell? ⟨bx + 1, 3, none⟩ = some (y.v3) := fun n os => Hy.out n os 3 (y.v3) rfl
          have cy4 : ∀ (n : Nat) (os : Array Obj), (grow (W.drewN n) os).cell? ⟨bx + 1, 4, none⟩ = some (y.v4) := fun n os => Hy.out n os 4 (y.v4) rfl
          have cy5 : ∀ (n : Nat) (os : Array Obj), (grow (W.drewN n) os).cell? ⟨bx + 1, 5, none⟩ = some (y.v5) := fun n os => Hy.out n os 5 (y.v5) rfl
          have cy6 : ∀ (n : Nat) (os : Array Obj), (grow (W.drewN n) os).cell? ⟨bx + 1, 6, none⟩ = some (y.v6) := fun n os => Hy.out n os 6 (y.v6) rfl
          have cy7 : ∀ (n : Nat) (os : Array Obj), (grow (W.drewN n) os).cell? ⟨bx + 1, 7, none⟩ = some (y.v7) := fun n os => Hy.out n os 7 (y.v7) rfl
          have cy8 : ∀ (n : Nat) (os : Array Obj), (grow (W.drewN n) os).cell? ⟨bx + 1, 8, none⟩ = some (y.v8) := fun n os => Hy.out n os 8 (y.v8) rfl
          have HZ := Lib.hid hz
          clear hz
          have hz3 : (cmpInt y.num x.num != 0) = true := by rw [bne, hz2]; rfl
          generalize hq : cmpInt y.num x.num = q at hz2 hz3
          have HQ := Lib.hid hq
          clear hq
          have CC : ∀ n os, Calls Try.prog 27 #[.int .i64 y.num, .int .i64 x.num] (grow (W.drewN n) os) fun e w' => e = .returned (.int .i64 q) ∧ ∃ q os', w' = grow ((grow (W.drewN n) os).drewN q) os' := fun n os => by rw [← HQ.out]; exact compare' _ _ W n os
          go_wp2_with fail
          go_quiet_grown (first | (go_at_call 27; refine Calls.grown_of (CC _ _)) | (refine Calls.grown_of (number' y W _ _)) | (refine Calls.grown_of (number' x W _ _)))
          have HS : Hid (Grn w (grow (W.drewN nq) osq) ∧ (grow (W.drewN nq) osq).heap[bx]? = some (.cells x.enc.toArray 32 (0, 0)) ∧ (grow (W.drewN nq) osq).heap[bx + 1]? = some (.cells y.enc.toArray 32 (0, 0))) := ⟨HW.out.1.step _ _, blk_grow HW.out.2.1 _ _, blk_grow HW.out.2.2 _ _⟩
          clear CC g0 cx0 cx1 cx2 cx3 cx4 cx5 cx6 cx7 cx8 cy0 cy1 cy2 cy3 cy4 cy5 cy6 cy7 cy8
          generalize grow (W.drewN nq) osq = w2 at HS ⊢
          go_wp2_with fail
          go_ret
          have HR : cmpCel x y = q := by unfold cmpCel; rw [if_pos (HC.out.1 (by omega))]; exact HQ.out
          exact ⟨by rw [HR]; rfl, HS.out.1⟩

/-- The closure, in every world that the sort passes through. -/
theorem fallsLays (pb fb c blk off size : Nat) (w : World) (h1 : w.cell? ⟨pb, 0, none⟩ = some (.slice (some ⟨fb, 0, none⟩) 2 c)) (h2 : w.cell? ⟨fb, 0, none⟩ = some (.func (.func 18) #[] #[])) (h3 : w.cell? ⟨fb, 1, none⟩ = some (.func (.func 19) #[] #[])) (n1 : pb ≠ blk) (n2 : fb ≠ blk) :
    CmpLays Try.prog 26 #[.pointer (some ⟨pb, 0, none⟩)] Cel.enc 9 cmpCel blk off size w := by
  intro m os dk _ x y
  have hp : pb < w.heap.size := World.block_lt_of_cell? w _ h1
  have hf : fb < w.heap.size := World.block_lt_of_cell? w _ h2
  have g1 := (old_cell Cel.enc 9 w blk off m dk os ⟨pb, 0, none⟩ n1 hp).trans h1
  have g2 := (old_cell Cel.enc 9 w blk off m dk os ⟨fb, 0, none⟩ n2 hf).trans h2
  have g3 := (old_cell Cel.enc 9 w blk off m dk os ⟨fb, 1, none⟩ n2 hf).trans h3
  exact falls x y pb fb c _ g1 g2 g3
end Go.Proofs.Ytjbfjgaghjggpaa.Srt
