/- The contracts of date.pad and of strings.TrimRight at one nought, and date.Parse's, as the printed texts ask for them. -/
import Derived.Test.YtfcmdameiabjmaaDoorTxt7
import Derived.WalkSmall
import Derived.Lib.ItoaLen
namespace Go.Proofs.YtfcmdameiabjmaaDoor.Txt
open Go.RowKit

/-- The table that strconv.Itoa reads is laid. -/
def LaidW (w : World) : Prop := Lib.TabIs Tryd.prog w "internal/strconv.uint64pow10" .u64 Lib.pow10Tab
theorem LaidW.below {w w' : World} {B : Nat} (h : LaidW w) (hb : Below B w w') (hB : 1 < B) : LaidW w' :=
  var?_below hb (show Tryd.prog.globalNamed "internal/strconv.uint64pow10" = some 1 by kernel_rfl) hB h
theorem LaidW.size {w : World} (h : LaidW w) : 1 < w.heap.size := by
  have h2 : Tryd.prog.globalNamed "internal/strconv.uint64pow10" = some 1 := by kernel_rfl
  unfold LaidW Lib.TabIs World.var? at h
  rw [h2] at h
  simp only [Option.bind_some] at h
  rcases Nat.lt_or_ge 1 w.heap.size with h' | h'
  · exact h'
  · rw [Array.getElem?_eq_none h'] at h; cases h
theorem LaidW.step {w w' : World} (h : LaidW w) (hb : Below w.heap.size w w') : LaidW w' := h.below hb h.size

theorem ret_str {a b : ByteArray} (h : a = b) : Ending.returned (.string a) = Ending.returned (.string b) := by rw [h]
theorem repeat_zero (c : Nat) : Lib.repeatL [48] c = List.replicate c 48 := by
  induction c with
  | zero => rfl
  | succ c ih => rw [Lib.repeatL, ih, List.replicate_succ]; rfl
theorem below_grow (w : World) (k : Nat) (os : Array Obj) : Below w.heap.size w (Sort.grow (w.drewN k) os) := by
  refine ⟨rfl, rfl, rfl, ?_, fun j hj => ?_⟩
  · show w.heap.size ≤ (w.heap ++ os).size
    simp
  · show (w.heap ++ os)[j]? = _
    rw [Array.getElem?_append_left hj]

/-- date.pad: a number's digits, noughts ahead. -/
def padL (n : Int) (k : Nat) : List UInt8 := List.replicate (k - (Lib.itoa n).length) 48 ++ Lib.itoa n

theorem pad_any (n : Int) (k : Nat) (w : World) (h0 : 0 ≤ n) (h1 : n ≤ 999999999999) (hk : k ≤ 100) (hG : LaidW w) :
    Calls Tryd.prog 30 #[.int .i64 n, .int .i64 k] w fun e w' => e = .returned (.string ⟨(padL n k).toArray⟩) ∧ Below w.heap.size w w' := by
  have C := Tryd.strconv_Itoa n (by omega) (by omega) w hG
  have hl := Lib.itoa_length_le n (by omega) (by omega)
  unfold padL
  generalize Lib.itoa n = l at C hl ⊢
  obtain ⟨m, hm⟩ : ∃ m, l.length = m := ⟨_, rfl⟩
  have hsz : (⟨l.toArray⟩ : ByteArray).size = m := by rw [← hm]; rfl
  have C41 : ∀ W, Calls Tryd.prog 41 #[.string ⟨#[48]⟩, .int .i64 (max 0 ((k : Int) - (m : Int)))] W fun e w' => e = .returned (.string ⟨(List.replicate (k - m) 48).toArray⟩) ∧ Below W.heap.size W w' := by
    intro W
    have h := Tryd.strings_Repeat ⟨#[48]⟩ (k - m) W (by omega) (by rw [show (⟨#[48]⟩ : ByteArray).size = 1 from rfl, Nat.one_mul]; omega)
    have e : max 0 ((k : Int) - (m : Int)) = ((k - m : Nat) : Int) := by omega
    rw [e]
    have e2 : Lib.repeatL (⟨#[48]⟩ : ByteArray).data.toList (k - m) = List.replicate (k - m) 48 := repeat_zero _
    rw [e2] at h
    exact h
  have hB := below_grow w
  rw [hm] at hl ⊢
  have HM := Lib.hid hm
  clear hm
  go_enter Tryd.func30, Tryd.ntmps30
  go_wp2_with (first | (go_at_call 40; refine C.mono ?_; rintro e w1 ⟨rfl, nk, os, rfl⟩) | (go_at_call 41; refine (C41 _).mono ?_; rintro e w2 ⟨rfl, hb⟩; have HB := Lib.hid hb; clear hb))
  go_ret
  refine ⟨ret_str ?_, (below_grow w nk os).trans (HB.out.mono (below_grow w nk os).size)⟩
  apply ByteArray.ext
  rw [ByteArray.data_append]
  apply Array.ext'
  simp

/-- As the printed texts ask for it. -/
def date_pad.f (a0 : Int) (a1 : Int) : Option ByteArray := if 0 ≤ a0 then (if a0 ≤ 999999999999 then (if 0 ≤ a1 then (if a1 ≤ 100 then some ⟨(padL a0 a1.toNat).toArray⟩ else none) else none) else none) else none
theorem date_pad.calls (a0 : Int) (a1 : Int) (r : ByteArray) (w : World) (hG : LaidW w) (h : date_pad.f a0 a1 = some r) :
    Calls Tryd.prog 30 #[.int .i64 a0, .int .i64 a1] w fun e w' => e = .returned (.string r) ∧ Below w.heap.size w w' := by
  unfold date_pad.f at h
  split at h
  · split at h
    · split at h
      · split at h
        · cases h
          have e : ((a1.toNat : Nat) : Int) = a1 := by omega
          have := pad_any a0 a1.toNat w ‹_› ‹_› (by omega) hG
          rw [e] at this
          exact this
        · cases h
      · cases h
    · cases h
  · cases h

def strings_TrimRight.f (a0 : ByteArray) (a1 : ByteArray) : Option ByteArray := if a1.data.toList = [48] then (if a0.size ≤ 140737488355328 then some ⟨(Lib.trimRightB a0.data.toList 48).toArray⟩ else none) else none
theorem strings_TrimRight.calls (a0 : ByteArray) (a1 : ByteArray) (r : ByteArray) (w : World) (h : strings_TrimRight.f a0 a1 = some r) :
    Calls Tryd.prog 31 #[.string a0, .string a1] w fun e w' => e = .returned (.string r) ∧ Below w.heap.size w w' := by
  unfold strings_TrimRight.f at h
  split at h
  · rename_i h1
    split at h
    · rename_i h2
      cases h
      obtain rfl : a1 = ⟨#[48]⟩ := by apply ByteArray.ext; apply Array.ext'; exact h1
      exact (Tryd.strings_TrimRight_one a0 48 (by decide) w (by omega)).mono fun e w' ⟨he, hw⟩ => ⟨he, by rw [hw]; exact Below.refl _ _⟩
    · cases h
  · cases h

def date_Parse.f (a0 : ByteArray) : Option (Int × Int × Int) := if a0.size ≤ 140737488351232 then some (parseR a0) else none
theorem date_Parse.calls (a0 : ByteArray) (r1 : Int) (r2 : Int) (r3 : Int) (w : World) (h : date_Parse.f a0 = some (r1, r2, r3)) :
    Calls Tryd.prog 11 #[.string a0] w fun e w' => e = .returned (.tuple #[.agg #[.int .i64 r1, .int .i64 r2], .int .i64 r3]) ∧ Below w.heap.size w w' := by
  unfold date_Parse.f at h
  split at h
  · have e := Option.some.inj h
    have := parse_any a0 w ‹_›
    rw [e] at this
    exact this
  · cases h
end Go.Proofs.YtfcmdameiabjmaaDoor.Txt
