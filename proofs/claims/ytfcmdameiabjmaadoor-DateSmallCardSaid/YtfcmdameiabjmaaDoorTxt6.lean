/- The contract of date.Parse. -/
import Derived.Test.YtfcmdameiabjmaaDoorTxt5
import Derived.Laws.ResultCell
namespace Go.Proofs.YtfcmdameiabjmaaDoor.Txt
open Go.RowKit

/-- The world in which the series of a point of time is called. -/
def pW (s : ByteArray) (w : World) : World :=
    (((((((((((w.alloc (Obj.cells #[Value.int IntKind.i64 0, Value.int IntKind.i64 0] 24)).alloc
                                          (Obj.cells #[Value.string s] 43)).alloc
                                      (Obj.cells #[Value.int IntKind.i64 0] 3)).alloc
                                  (Obj.cells #[Value.int IntKind.i64 0] 3)).alloc
                              (Obj.cells #[Value.int IntKind.i64 0] 3)).alloc
                          (Obj.cells #[Value.int IntKind.i64 0] 3)).alloc
                      (Obj.cells #[Value.int IntKind.i64 0] 3)).alloc
                  (Obj.cells #[Value.int IntKind.i64 0] 3)).alloc
              (Obj.cells
                #[Value.pointer (some { block := w.heap.size + 1 + 1, off := 0 }),
                  Value.pointer (some { block := w.heap.size + 1 + 1 + 1, off := 0 }),
                  Value.pointer (some { block := w.heap.size + 1 + 1 + 1 + 1, off := 0 }),
                  Value.pointer (some { block := w.heap.size + 1 + 1 + 1 + 1 + 1, off := 0 }),
                  Value.pointer (some { block := w.heap.size + 1 + 1 + 1 + 1 + 1 + 1, off := 0 }),
                  Value.pointer (some { block := w.heap.size + 1 + 1 + 1 + 1 + 1 + 1 + 1, off := 0 })]
                45)).alloc
          (Obj.cells
            #[Value.int IntKind.i64 4, Value.int IntKind.i64 2, Value.int IntKind.i64 2, Value.int IntKind.i64 2,
              Value.int IntKind.i64 2, Value.int IntKind.i64 2]
            3)).alloc
      (Obj.cells
        #[Value.int IntKind.i64 9999, Value.int IntKind.i64 12, Value.int IntKind.i64 31, Value.int IntKind.i64 23,
          Value.int IntKind.i64 59, Value.int IntKind.i64 59]
        3))
def pL : List (UInt8 × Nat × Int) := [(32, 4, 9999), (45, 2, 12), (45, 2, 31), (84, 2, 23), (58, 2, 59), (58, 2, 59)]

theorem pW_size (s : ByteArray) (w : World) : (pW s w).heap.size = w.heap.size + 11 := by simp only [pW, size_alloc]
theorem pW_lo (s : ByteArray) (w : World) (k : Nat) (h : k < w.heap.size) : (pW s w).heap[k]? = w.heap[k]? := by
  simp only [pW, heap_alloc, size_alloc]
  repeat rw [if_neg (by omega)]
theorem pW_0 (s : ByteArray) (w : World) : (pW s w).heap[w.heap.size]? = some (.cells #[.int .i64 0, .int .i64 0] 24 (0, 0)) := by
  simp only [pW, heap_alloc, size_alloc]
  rw [if_neg (by omega), if_neg (by omega), if_neg (by omega), if_neg (by omega), if_neg (by omega), if_neg (by omega), if_neg (by omega), if_neg (by omega), if_neg (by omega), if_neg (by omega), if_pos (by first | trivial | omega)]
theorem pW_1 (s : ByteArray) (w : World) : (pW s w).heap[w.heap.size + 1]? = some (.cells #[.string s] 43 (0, 0)) := by
  simp only [pW, heap_alloc, size_alloc]
  rw [if_neg (by omega), if_neg (by omega), if_neg (by omega), if_neg (by omega), if_neg (by omega), if_neg (by omega), if_neg (by omega), if_neg (by omega), if_neg (by omega), if_pos (by first | trivial | omega)]
theorem pW_v (s : ByteArray) (w : World) (k : Nat) (h : w.heap.size + 2 ≤ k) (h2 : k < w.heap.size + 8) : (pW s w).heap[k]? = some (.cells #[.int .i64 0] 3 (0, 0)) := by
  simp only [pW, heap_alloc, size_alloc]
  rw [if_neg (by omega), if_neg (by omega), if_neg (by omega)]
  split
  · rfl
  split
  · rfl
  split
  · rfl
  split
  · rfl
  split
  · rfl
  rw [if_pos (by first | trivial | omega)]
theorem pW_8 (s : ByteArray) (w : World) : (pW s w).heap[w.heap.size + 8]? = some (.cells #[.pointer (some ⟨w.heap.size + 2, 0, none⟩), .pointer (some ⟨w.heap.size + 3, 0, none⟩), .pointer (some ⟨w.heap.size + 4, 0, none⟩), .pointer (some ⟨w.heap.size + 5, 0, none⟩), .pointer (some ⟨w.heap.size + 6, 0, none⟩), .pointer (some ⟨w.heap.size + 7, 0, none⟩)] 45 (0, 0)) := by
  simp only [pW, heap_alloc, size_alloc]
  rw [if_neg (by omega), if_neg (by omega), if_pos (by first | trivial | omega)]
theorem pW_9 (s : ByteArray) (w : World) : (pW s w).heap[w.heap.size + 9]? = some (.cells #[.int .i64 4, .int .i64 2, .int .i64 2, .int .i64 2, .int .i64 2, .int .i64 2] 3 (0, 0)) := by
  simp only [pW, heap_alloc, size_alloc]
  rw [if_neg (by omega), if_pos (by first | trivial | omega)]
theorem pW_10 (s : ByteArray) (w : World) : (pW s w).heap[w.heap.size + 10]? = some (.cells #[.int .i64 9999, .int .i64 12, .int .i64 31, .int .i64 23, .int .i64 59, .int .i64 59] 3 (0, 0)) := by
  simp only [pW, heap_alloc, size_alloc]
  rw [if_pos (by first | trivial | omega)]

/-- What date.Parse has in memory: its result, its text, its six numbers; all else is as it was. -/
structure PSt (w w' : World) (t : ByteArray) (y mo d h mi se : Int) : Prop where
  grow : w.grownBy w' none
  res : w'.heap[w.heap.size]? = some (.cells #[.int .i64 0, .int .i64 0] 24 (0, 0))
  txt : w'.heap[w.heap.size + 1]? = some (.cells #[.string t] 43 (0, 0))
  c5 : w'.cell? ⟨w.heap.size + 1 + 1, 0, none⟩ = some (.int .i64 y)
  c6 : w'.cell? ⟨w.heap.size + 1 + 1 + 1, 0, none⟩ = some (.int .i64 mo)
  c7 : w'.cell? ⟨w.heap.size + 1 + 1 + 1 + 1, 0, none⟩ = some (.int .i64 d)
  c8 : w'.cell? ⟨w.heap.size + 1 + 1 + 1 + 1 + 1, 0, none⟩ = some (.int .i64 h)
  c9 : w'.cell? ⟨w.heap.size + 1 + 1 + 1 + 1 + 1 + 1, 0, none⟩ = some (.int .i64 mi)
  c10 : w'.cell? ⟨w.heap.size + 1 + 1 + 1 + 1 + 1 + 1 + 1, 0, none⟩ = some (.int .i64 se)

theorem PSt.step {w w1 w2 : World} {t t' : ByteArray} {y mo d h mi se : Int} (s : PSt w w1 t y mo d h mi se) (hg : w1.grownBy w2 (some (w.heap.size + 1))) (hb : w2.heap[w.heap.size + 1]? = some (.cells #[.string t'] 43 (0, 0))) : PSt w w2 t' y mo d h mi se := by
  refine ⟨⟨hg.os.trans s.grow.os, hg.tape.trans s.grow.tape, hg.output.trans s.grow.output, Nat.le_trans s.grow.size hg.size, fun k hk _ => ?_⟩, ?_, hb, hg.cell s.c5 (by simp), hg.cell s.c6 (by simp; omega), hg.cell s.c7 (by simp; omega), hg.cell s.c8 (by simp; omega), hg.cell s.c9 (by simp; omega), hg.cell s.c10 (by simp; omega)⟩
  · rw [hg.block k (Nat.lt_of_lt_of_le hk s.grow.size) (by simp; omega)]; exact s.grow.block k hk (by simp)
  · rw [hg.block _ (lt_of_block s.res) (by simp)]; exact s.res

def PSerPost (w : World) (p : Bool) (t : ByteArray) (y mo d h mi se : Int) (e : Ending) (w' : World) : Prop := e = .returned (.bool p) ∧ PSt w w' t y mo d h mi se

set_option maxHeartbeats 100000 in
theorem parse_series (s t : ByteArray) (w : World) (p : Bool) (y mo d h mi se : Int) (hp : (ser pL s).1 = p) (ht : (ser pL s).2.1 = t) (e0 : (ser pL s).2.2.getD 0 0 = y) (e1 : (ser pL s).2.2.getD 1 0 = mo) (e2 : (ser pL s).2.2.getD 2 0 = d) (e3 : (ser pL s).2.2.getD 3 0 = h) (e4 : (ser pL s).2.2.getD 4 0 = mi) (e5 : (ser pL s).2.2.getD 5 0 = se) :
    Calls Tryd.prog 18 #[Value.pointer (some { block := w.heap.size + 1, off := 0 }), Value.string { data := #[32, 45, 45, 84, 58, 58] },
      Value.slice (some { block := w.heap.size + 1 + 1 + 1 + 1 + 1 + 1 + 1 + 1, off := 0 }) 6 6,
      Value.slice (some { block := w.heap.size + 1 + 1 + 1 + 1 + 1 + 1 + 1 + 1 + 1, off := 0 }) 6 6,
      Value.slice (some { block := w.heap.size + 1 + 1 + 1 + 1 + 1 + 1 + 1 + 1 + 1 + 1, off := 0 }) 6 6] (pW s w) (PSerPost w p t y mo d h mi se) := by
  have C := series_any (w.heap.size + 1) (w.heap.size + 2) 6 (w.heap.size + 8) (w.heap.size + 9) (w.heap.size + 10) s ⟨#[32, 45, 45, 84, 58, 58]⟩ pL (pW s w) rfl rfl ?_ ?_ (by omega) (by omega) (by omega) (by omega) ?_ ?_ ?_ (by omega)
  · refine C.mono ?_
    rintro e w' ⟨he, hs⟩
    refine ⟨by rw [he, hp], ⟨hs.os, hs.tape, hs.output, ?_, fun k hk _ => ?_⟩, ?_, by rw [← ht]; exact hs.txt, ?_, ?_, ?_, ?_, ?_, ?_⟩
    · have := hs.size; rw [pW_size] at this; omega
    · rw [hs.blk k (by rw [pW_size]; omega) (by omega) (.inl (by omega)), pW_lo _ _ _ hk]
    · rw [hs.blk _ (by rw [pW_size]; omega) (by omega) (.inl (by omega)), pW_0]
    · rw [← e0]; exact cell_of_one (hs.var 0 (by omega))
    · rw [← e1]; exact cell_of_one (hs.var 1 (by omega))
    · rw [← e2]; exact cell_of_one (hs.var 2 (by omega))
    · rw [← e3]; exact cell_of_one (hs.var 3 (by omega))
    · rw [← e4]; exact cell_of_one (hs.var 4 (by omega))
    · rw [← e5]; exact cell_of_one (hs.var 5 (by omega))
  · intro i x hx
    match i, hx with
    | 0, hx => cases hx; exact ⟨rfl, by decide, by decide⟩
    | 1, hx => cases hx; exact ⟨rfl, by decide, by decide⟩
    | 2, hx => cases hx; exact ⟨rfl, by decide, by decide⟩
    | 3, hx => cases hx; exact ⟨rfl, by decide, by decide⟩
    | 4, hx => cases hx; exact ⟨rfl, by decide, by decide⟩
    | 5, hx => cases hx; exact ⟨rfl, by decide, by decide⟩
    | i + 6, hx => simp [pL] at hx
  · refine ⟨rfl, rfl, rfl, Nat.le_refl _, fun _ _ _ _ => rfl, pW_1 s w, fun j hj => ?_⟩
    rw [pW_v s w _ (by omega) (by omega)]; simp
  · intro i hi
    simp only [World.cell?, pW_8]
    match i, hi with
    | 0, _ => rfl
    | 1, _ => rfl
    | 2, _ => rfl
    | 3, _ => rfl
    | 4, _ => rfl
    | 5, _ => rfl
  · intro i x hx
    simp only [World.cell?, pW_9]
    match i, hx with
    | 0, hx => cases hx; rfl
    | 1, hx => cases hx; rfl
    | 2, hx => cases hx; rfl
    | 3, hx => cases hx; rfl
    | 4, hx => cases hx; rfl
    | 5, hx => cases hx; rfl
    | i + 6, hx => simp [pL] at hx
  · intro i x hx
    simp only [World.cell?, pW_10]
    match i, hx with
    | 0, hx => cases hx; rfl
    | 1, hx => cases hx; rfl
    | 2, hx => cases hx; rfl
    | 3, hx => cases hx; rfl
    | 4, hx => cases hx; rfl
    | 5, hx => cases hx; rfl
    | i + 6, hx => simp [pL] at hx

end Go.Proofs.YtfcmdameiabjmaaDoor.Txt
