/- The contracts of date.text's zone and of date.Parse. -/
import Derived.Test.YtfcmdameiabjmaaDoorTxt3
namespace Go.Proofs.YtfcmdameiabjmaaDoor.Txt
open Go.RowKit

/-- How far a text is ahead of UTC: what it is, whether it may be, what is left. -/
def zSigns : ByteArray := ⟨#[90, 43, 45]⟩
def zL : List (UInt8 × Nat × Int) := [(32, 2, 23), (58, 2, 59)]
def zV (t : ByteArray) : Int :=
  if sgB t zSigns && !(sgV t zSigns == 90) then
    if sgV t zSigns = 45 then -((ser zL (sgT t zSigns)).2.2.getD 0 0) * 3600 - ((ser zL (sgT t zSigns)).2.2.getD 1 0) * 60 else ((ser zL (sgT t zSigns)).2.2.getD 0 0) * 3600 + ((ser zL (sgT t zSigns)).2.2.getD 1 0) * 60
  else 0
def zOk (t : ByteArray) : Bool := if sgB t zSigns && !(sgV t zSigns == 90) then (ser zL (sgT t zSigns)).1 else sgB t zSigns
def zT (t : ByteArray) : ByteArray := if sgB t zSigns && !(sgV t zSigns == 90) then (ser zL (sgT t zSigns)).2.1 else sgT t zSigns

theorem zone_none (b : Nat) (t : ByteArray) (w : World) (hb : w.heap[b]? = some (.cells #[.string t] 43 (0, 0))) (hn : sgB t zSigns = false) :
    Calls Tryd.prog 21 #[.pointer (some ⟨b, 0, none⟩)] w (TxtPost b w (.int .i64 0) (.bool false) (sgT t zSigns)) := by
  have C := sign_any b t zSigns w hb
  rw [hn] at C
  clear hn
  generalize sgT t zSigns = t1 at C ⊢
  unfold zSigns at C
  generalize sgV t _ = v at C
  go_enter Tryd.func21, Tryd.ntmps21
  go_wp2_with (go_at_call 35; refine C.mono ?_; rintro e w' ⟨rfl, hg, hb'⟩; have HG := Lib.hid hg; have HB := Lib.hid hb'; clear hg hb')
  go_ret2
  exact ⟨rfl, HG.out, HB.out⟩

theorem zone_utc (b : Nat) (t : ByteArray) (w : World) (hb : w.heap[b]? = some (.cells #[.string t] 43 (0, 0))) (hn : sgB t zSigns = true) (h90 : sgV t zSigns = 90) :
    Calls Tryd.prog 21 #[.pointer (some ⟨b, 0, none⟩)] w (TxtPost b w (.int .i64 0) (.bool true) (sgT t zSigns)) := by
  have C := sign_any b t zSigns w hb
  rw [hn, h90] at C
  clear hn h90
  generalize sgT t zSigns = t1 at C ⊢
  unfold zSigns at C
  go_enter Tryd.func21, Tryd.ntmps21
  go_wp2_with (go_at_call 35; refine C.mono ?_; rintro e w' ⟨rfl, hg, hb'⟩; have HG := Lib.hid hg; have HB := Lib.hid hb'; clear hg hb')
  go_ret2
  exact ⟨rfl, HG.out, HB.out⟩

theorem heap_alloc (w : World) (o : Obj) (k : Nat) : (w.alloc o).heap[k]? = if k = w.heap.size then some o else w.heap[k]? := by
  show (w.heap.push o)[k]? = _
  rw [Array.getElem?_push]
theorem size_alloc (w : World) (o : Obj) : (w.alloc o).heap.size = w.heap.size + 1 := by
  show (w.heap.push o).size = _
  simp

/-- The world in which the zone's series is called. -/
def zW (W : World) : World :=
  (((((W.alloc (Obj.cells #[Value.int IntKind.i64 0] 3)).alloc (Obj.cells #[Value.int IntKind.i64 0] 3)).alloc
              (Obj.cells #[Value.pointer (some { block := W.heap.size, off := 0 }), Value.pointer (some { block := W.heap.size + 1, off := 0 })] 45)).alloc
          (Obj.cells #[Value.int IntKind.i64 2, Value.int IntKind.i64 2] 3)).alloc
      (Obj.cells #[Value.int IntKind.i64 23, Value.int IntKind.i64 59] 3))

theorem zW_size (W : World) : (zW W).heap.size = W.heap.size + 5 := by simp [zW]
theorem zW_heap (W : World) (k : Nat) : (zW W).heap[k]? = if k = W.heap.size + 4 then some (Obj.cells #[Value.int IntKind.i64 23, Value.int IntKind.i64 59] 3) else
    if k = W.heap.size + 3 then some (Obj.cells #[Value.int IntKind.i64 2, Value.int IntKind.i64 2] 3) else
    if k = W.heap.size + 2 then some (Obj.cells #[Value.pointer (some { block := W.heap.size, off := 0 }), Value.pointer (some { block := W.heap.size + 1, off := 0 })] 45) else
    if k = W.heap.size + 1 then some (Obj.cells #[Value.int IntKind.i64 0] 3) else
    if k = W.heap.size then some (Obj.cells #[Value.int IntKind.i64 0] 3) else W.heap[k]? := by
  unfold zW
  simp only [heap_alloc, size_alloc]

theorem zone_series (b : Nat) (t1 : ByteArray) (W : World) (hb : W.heap[b]? = some (.cells #[.string t1] 43 (0, 0))) :
    Calls Tryd.prog 18 #[Value.pointer (some { block := b, off := 0 }), Value.string { data := #[32, 58] }, Value.slice (some { block := W.heap.size + 1 + 1, off := 0 }) 2 2,
      Value.slice (some { block := W.heap.size + 1 + 1 + 1, off := 0 }) 2 2, Value.slice (some { block := W.heap.size + 1 + 1 + 1 + 1, off := 0 }) 2 2] (zW W) (SerPost b W.heap.size 2 (zW W) (ser zL t1)) := by
  have hlt := lt_of_block hb
  refine series_any b W.heap.size 2 (W.heap.size + 2) (W.heap.size + 3) (W.heap.size + 4) t1 ⟨#[32, 58]⟩ zL (zW W) rfl rfl ?_ ?_ hlt (by omega) (by omega) (by omega) ?_ ?_ ?_ (by omega)
  · intro i x hx
    match i, hx with
    | 0, hx => cases hx; exact ⟨rfl, by decide, by decide⟩
    | 1, hx => cases hx; exact ⟨rfl, by decide, by decide⟩
    | i + 2, hx => simp [zL] at hx
  · refine ⟨rfl, rfl, rfl, Nat.le_refl _, fun _ _ _ _ => rfl, ?_, fun j hj => ?_⟩
    · rw [zW_heap, if_neg (by omega), if_neg (by omega), if_neg (by omega), if_neg (by omega), if_neg (by omega)]; exact hb
    · rw [zW_heap, if_neg (by omega), if_neg (by omega), if_neg (by omega)]
      match j, hj with
      | 0, _ => rw [if_neg (by omega), if_pos (by omega)]; rfl
      | 1, _ => rw [if_pos (by omega)]; rfl
  · intro i hi
    simp only [World.cell?, zW_heap, if_neg (show ¬ W.heap.size + 2 = W.heap.size + 4 by omega), if_neg (show ¬ W.heap.size + 2 = W.heap.size + 3 by omega), if_true]
    match i, hi with
    | 0, _ => rfl
    | 1, _ => rfl
  · intro i x hx
    simp only [World.cell?, zW_heap, if_neg (show ¬ W.heap.size + 3 = W.heap.size + 4 by omega), if_true]
    match i, hx with
    | 0, hx => cases hx; rfl
    | 1, hx => cases hx; rfl
    | i + 2, hx => simp [zL] at hx
  · intro i x hx
    simp only [World.cell?, zW_heap, if_true]
    match i, hx with
    | 0, hx => cases hx; rfl
    | 1, hx => cases hx; rfl
    | i + 2, hx => simp [zL] at hx

/-- What the series leaves to the zone: two numbers in blocks of their own; of what was there the text alone is another. -/
def ZPost (b : Nat) (W : World) (p : Bool) (t2 : ByteArray) (h m : Int) (e : Ending) (w' : World) : Prop :=
  e = .returned (.bool p) ∧ w'.cell? ⟨W.heap.size, 0, none⟩ = some (.int .i64 h) ∧ w'.cell? ⟨W.heap.size + 1, 0, none⟩ = some (.int .i64 m) ∧ W.grownBy w' (some b) ∧ w'.heap[b]? = some (.cells #[.string t2] 43 (0, 0))

theorem zone_series' (b : Nat) (t1 : ByteArray) (W : World) (hb : W.heap[b]? = some (.cells #[.string t1] 43 (0, 0))) (p : Bool) (t2 : ByteArray) (h m : Int) (hp : (ser zL t1).1 = p) (ht2 : (ser zL t1).2.1 = t2) (hh : (ser zL t1).2.2.getD 0 0 = h) (hm : (ser zL t1).2.2.getD 1 0 = m) :
    Calls Tryd.prog 18 #[Value.pointer (some { block := b, off := 0 }), Value.string { data := #[32, 58] }, Value.slice (some { block := W.heap.size + 1 + 1, off := 0 }) 2 2,
      Value.slice (some { block := W.heap.size + 1 + 1 + 1, off := 0 }) 2 2, Value.slice (some { block := W.heap.size + 1 + 1 + 1 + 1, off := 0 }) 2 2] (zW W) (ZPost b W p t2 h m) := by
  have hlt := lt_of_block hb
  refine (zone_series b t1 W hb).mono ?_
  rintro e w' ⟨he, hs⟩
  have h0 := hs.var 0 (by omega)
  have h1 := hs.var 1 (by omega)
  rw [hh] at h0
  rw [hm] at h1
  refine ⟨by rw [he, hp], cell_of_one h0, cell_of_one h1, ⟨hs.os, hs.tape, hs.output, ?_, fun k hk hne => ?_⟩, by rw [← ht2]; exact hs.txt⟩
  · have := hs.size; rw [zW_size] at this; omega
  · rw [hs.blk k (by rw [zW_size]; omega) (by simpa using hne) (.inl hk), zW_heap, if_neg (by omega), if_neg (by omega), if_neg (by omega), if_neg (by omega), if_neg (by omega)]

theorem wB_le {t : ByteArray} {n : Nat} {m : Int} (h : wB t n m = true) : nV t n ≤ m := by
  unfold wB at h
  rw [Bool.and_eq_true] at h
  exact of_decide_eq_true h.2
theorem ser_bound (l : List (UInt8 × Nat × Int)) (M : Int) (h : ∀ x ∈ l, x.2.2 ≤ M) (h0 : 0 ≤ M) : ∀ (t : ByteArray) (j : Nat), 0 ≤ (ser l t).2.2.getD j 0 ∧ (ser l t).2.2.getD j 0 ≤ M := by
  induction l with
  | nil => intro t j; simp [ser]; exact h0
  | cons x l ih =>
    obtain ⟨c, n, m⟩ := x
    have ih' := ih (fun x hx => h x (List.mem_cons_of_mem _ hx))
    have hm : m ≤ M := h _ List.mem_cons_self
    intro t j
    rw [ser]
    split
    · split
      · rename_i hw
        cases j with
        | zero => exact ⟨nV_ge _ _, Int.le_trans (wB_le hw) hm⟩
        | succ j => exact ih' _ j
      · simp; exact h0
    · split
      · split
        · rename_i hw
          cases j with
          | zero => exact ⟨nV_ge _ _, Int.le_trans (wB_le hw) hm⟩
          | succ j => exact ih' _ j
        · simp; exact h0
      · simp; exact h0

theorem zone_num (b : Nat) (t t1 : ByteArray) (w : World) (hb : w.heap[b]? = some (.cells #[.string t] 43 (0, 0))) (hn : sgB t zSigns = true) (c : Int) (hc : sgV t zSigns = c) (h90 : (c == 90) = false) (ht : sgT t zSigns = t1)
    (p : Bool) (t2 : ByteArray) (h m z : Int) (hp : (ser zL t1).1 = p) (ht2 : (ser zL t1).2.1 = t2) (hh : (ser zL t1).2.2.getD 0 0 = h) (hm : (ser zL t1).2.2.getD 1 0 = m) (hz : z = if c = 45 then -h * 3600 - m * 60 else h * 3600 + m * 60) :
    Calls Tryd.prog 21 #[.pointer (some ⟨b, 0, none⟩)] w (TxtPost b w (.int .i64 z) (.bool p) t2) := by
  have C := sign_any b t zSigns w hb
  rw [hn, hc, ht] at C
  clear hn hc ht
  unfold zSigns at C
  have bh : 0 ≤ h ∧ h ≤ 59 := by rw [← hh]; exact ser_bound zL 59 (by decide) (by decide) t1 0
  have bm : 0 ≤ m ∧ m ≤ 59 := by rw [← hm]; exact ser_bound zL 59 (by decide) (by decide) t1 1
  have HH := Lib.hid hh
  have HM := Lib.hid hm
  have HP := Lib.hid hp
  have HT := Lib.hid ht2
  clear hh hm hp ht2
  obtain ⟨bh1, bh2⟩ := bh
  obtain ⟨bm1, bm2⟩ := bm
  by_cases h45 : c = 45
  · have h45' : (c == 45) = true := by rw [h45]; rfl
    rw [if_pos h45] at hz
    have HZ := Lib.hid hz
    clear hz h45
    go_enter Tryd.func21, Tryd.ntmps21
    go_wp2_with (first | (go_at_call 35; refine C.mono ?_; rintro e w1 ⟨rfl, hg, hb'⟩; have HG := Lib.hid hg; have HB := Lib.hid hb'; clear hg hb') | (go_at_call 18; refine (zone_series' b t1 _ HB.out p t2 h m HP.out HT.out HH.out HM.out).mono ?_; rintro e w2 ⟨rfl, hc0, hc1, hg, hb2⟩; have HG2 := Lib.hid hg; have HB2 := Lib.hid hb2; clear hg hb2))
    go_ret2
    refine ⟨?_, HG.out.trans HG2.out, HB2.out⟩
    rw [HZ.out]
    simp
  · have h45' : (c == 45) = false := by simpa using h45
    rw [if_neg h45] at hz
    have HZ := Lib.hid hz
    clear hz h45
    go_enter Tryd.func21, Tryd.ntmps21
    go_wp2_with (first | (go_at_call 35; refine C.mono ?_; rintro e w1 ⟨rfl, hg, hb'⟩; have HG := Lib.hid hg; have HB := Lib.hid hb'; clear hg hb') | (go_at_call 18; refine (zone_series' b t1 _ HB.out p t2 h m HP.out HT.out HH.out HM.out).mono ?_; rintro e w2 ⟨rfl, hc0, hc1, hg, hb2⟩; have HG2 := Lib.hid hg; have HB2 := Lib.hid hb2; clear hg hb2))
    go_ret2
    refine ⟨?_, HG.out.trans HG2.out, HB2.out⟩
    rw [HZ.out]
    simp

theorem zone_any (b : Nat) (t : ByteArray) (w : World) (hb : w.heap[b]? = some (.cells #[.string t] 43 (0, 0))) :
    Calls Tryd.prog 21 #[.pointer (some ⟨b, 0, none⟩)] w (TxtPost b w (.int .i64 (zV t)) (.bool (zOk t)) (zT t)) := by
  unfold zV zOk zT
  cases hs : sgB t zSigns with
  | false => exact zone_none b t w hb hs
  | true =>
    cases h9 : sgV t zSigns == 90 with
    | true => exact zone_utc b t w hb hs (by simpa using h9)
    | false => exact zone_num b t _ w hb hs _ rfl h9 rfl _ _ _ _ _ rfl rfl rfl rfl rfl
end Go.Proofs.YtfcmdameiabjmaaDoor.Txt
