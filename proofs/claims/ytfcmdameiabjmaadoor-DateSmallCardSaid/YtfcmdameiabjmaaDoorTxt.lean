/- The contracts of the methods of date.text: how many digits, a sign, a number within bounds. -/
import Derived.Test.YtfcmdameiabjmaaDoorProg
import Derived.Test.YtfcmdameiabjmaaDoorShelf
import Derived.WalkKit
import Derived.WalkSpells
import Derived.WalkLawsBesides
import Derived.OneCell
import Derived.Lib.Hide
import Derived.Lib.Strings
import Derived.Laws.RangeAny
import Derived.LoopTactic
namespace Go.Proofs.YtfcmdameiabjmaaDoor.Txt
open Go.RowKit

theorem grown_set (W : World) (b : Nat) (v : Value) : W.grownBy (W.setCell ⟨b, 0, none⟩ v) (some b) :=
  ⟨rfl, rfl, rfl, by simp [World.setCell], fun k _ hk => Below.heap_setCell _ _ _ _ (fun e => hk (by rw [e]))⟩

/-- The digits' value. -/
def val (l : List UInt8) : Nat := l.foldl (fun k c => k * 10 + (c.toNat - 48)) 0
def isDig (c : UInt8) : Bool := 48 ≤ c.toNat && c.toNat ≤ 57
def allDig (l : List UInt8) : Bool := l.all isDig

theorem val_snoc (l : List UInt8) (c : UInt8) : val (l ++ [c]) = val l * 10 + (c.toNat - 48) := by
  simp [val, List.foldl_append]
theorem isDig_iff (c : UInt8) : isDig c = true ↔ 48 ≤ c.toNat ∧ c.toNat ≤ 57 := by simp [isDig]

/-- What a method of text leaves: its two results, the text that is left; all else as it was. -/
def TxtPost (b : Nat) (w : World) (v1 v2 : Value) (t : ByteArray) (e : Ending) (w' : World) : Prop :=
  e = .returned (.tuple #[v1, v2]) ∧ w.grownBy w' (some b) ∧ w'.heap[b]? = some (.cells #[.string t] 43 (0, 0))

theorem take_snoc (s : ByteArray) (k : Nat) (h : k < s.size) : s.data.toList.take (k + 1) = s.data.toList.take k ++ [s[k]] := by
  rw [List.take_succ_eq_append_getElem (by simpa using h)]; rfl

theorem val_lt_aux (l : List UInt8) (h : allDig l = true) (a : Nat) : l.foldl (fun k c => k * 10 + (c.toNat - 48)) a < (a + 1) * 10 ^ l.length := by
  induction l generalizing a with
  | nil => simp
  | cons c l ih =>
    simp only [allDig, List.all_cons, Bool.and_eq_true] at h
    have hc := (isDig_iff c).1 h.1
    have := ih h.2 (a * 10 + (c.toNat - 48))
    rw [List.foldl_cons, List.length_cons, Nat.pow_succ]
    refine Nat.lt_of_lt_of_le this ?_
    rw [Nat.mul_comm (10 ^ l.length), ← Nat.mul_assoc]
    exact Nat.mul_le_mul_right _ (by omega)
theorem val_lt (l : List UInt8) (h : allDig l = true) : val l < 10 ^ l.length := by
  have := val_lt_aux l h 0
  simpa [val] using this

/-- Of the first bytes u of a text: the number, and what is left. -/
def dV (u : ByteArray) : Nat := if allDig u.data.toList then val u.data.toList else 0
def dB (u : ByteArray) : Bool := allDig u.data.toList
def dT (t u : ByteArray) (n : Nat) : ByteArray := if allDig u.data.toList then t.extract n t.size else t
theorem take_ge (u : ByteArray) (k : Nat) (h : ¬ k < u.size) : u.data.toList.take k = u.data.toList := List.take_of_length_le (by have : u.data.toList.length = u.size := rfl; omega)
theorem dB_yes {u : ByteArray} {k : Nat} (h : ¬ k < u.size) (hd : allDig (u.data.toList.take k) = true) : dB u = true := by rw [take_ge u k h] at hd; exact hd
theorem allDig_snoc {l : List UInt8} {c : UInt8} (h : allDig l = true) (hc : 48 ≤ c.toNat) (h9 : c.toNat ≤ 57) : allDig (l ++ [c]) = true := by
  simp only [allDig, List.all_append, List.all_cons, List.all_nil, Bool.and_true, Bool.and_eq_true]
  exact ⟨h, (isDig_iff c).2 ⟨hc, h9⟩⟩
theorem dB_no {u : ByteArray} {k : Nat} (h : k < u.size) (hc : ¬ (48 ≤ (u[k]'h).toNat ∧ (u[k]'h).toNat ≤ 57)) : dB u = false := by
  unfold dB allDig
  rw [List.all_eq_false]
  exact ⟨u[k], by show u.data[k] ∈ _; exact Array.getElem_mem_toList h, fun hx => hc ((isDig_iff _).1 hx)⟩
theorem txt_no {b n : Nat} {w w' : World} {t u : ByteArray} {e : Ending} (h : dB u = false) (k : TxtPost b w (.int .i64 0) (.bool false) t e w') : TxtPost b w (.int .i64 (dV u)) (.bool (dB u)) (dT t u n) e w' := by
  unfold dB at h
  unfold dV dB dT
  rw [h]; exact k
theorem txt_yes {b n : Nat} {w w' : World} {t u : ByteArray} {e : Ending} (h : dB u = true) (k : TxtPost b w (.int .i64 (val u.data.toList : Nat)) (.bool true) (t.extract n t.size) e w') : TxtPost b w (.int .i64 (dV u)) (.bool (dB u)) (dT t u n) e w' := by
  unfold dB at h
  unfold dV dB dT
  rw [h]; exact k

theorem number_short (b : Nat) (t : ByteArray) (n : Nat) (w : World) (hb : w.heap[b]? = some (.cells #[.string t] 43 (0, 0))) (hn : t.size < n) :
    Calls Tryd.prog 38 #[.pointer (some ⟨b, 0, none⟩), .int .i64 n] w (TxtPost b w (.int .i64 0) (.bool false) t) := by
  have hc := cell_of_one hb
  go_enter Tryd.func38, Tryd.ntmps38
  go_wp2
  go_ret2
  exact ⟨rfl, World.grownBy.refl _ _, hb⟩

set_option maxHeartbeats 1000000 in
theorem number_long (b : Nat) (t u : ByteArray) (n : Nat) (w : World) (hb : w.heap[b]? = some (.cells #[.string t] 43 (0, 0))) (hn : n ≤ t.size) (h4 : n ≤ 9) (hu : t.extract 0 n = u) :
    Calls Tryd.prog 38 #[.pointer (some ⟨b, 0, none⟩), .int .i64 n] w (TxtPost b w (.int .i64 (dV u)) (.bool (dB u)) (dT t u n)) := by
  have hc := cell_of_one hb
  have hf := free_of_one hb
  have hlt := lt_of_block hb
  have HU : Hid (t.extract 0 n = u) := hu
  clear hu
  have hd : decide ((t.size : Int) < (n : Int)) = false := decide_eq_false (by omega)
  have hd2 : decide (t.size < n) = false := decide_eq_false (by omega)
  go_enter Tryd.func38, Tryd.ntmps38
  go_wp2
  rw [HU.out]
  go_loopw [6] (fun v w' => ∃ k : Nat, k ≤ u.size ∧ allDig (u.data.toList.take k) = true ∧ w' = w.iter u k ∧ v = .int .i64 (val (u.data.toList.take k) : Nat)) (fun _ w' => u.size - w'.iterPos w.heap.size)
  case atStart => exact ⟨0, Nat.zero_le _, rfl, rfl, rfl⟩
  case round =>
    obtain ⟨k, hk, hda, rfl, rfl⟩ := hrel
    have hv := val_lt _ hda
    by_cases hp : k < u.size
    · by_cases hdg : 48 ≤ (u[k]'hp).toNat ∧ (u[k]'hp).toNat ≤ 57
      · have hnx : ∀ ty, (Instr.next (.pointer (some ⟨w.heap.size, 0, none⟩)) true ty).run Tryd.prog (w.iter u k) = _ := fun ty => run_next_ascii w u k ty hp (by omega)
        obtain ⟨c, hcc⟩ : ∃ c, u[k]'hp = c := ⟨_, rfl⟩
        have hlen : (u.data.toList.take k).length ≤ k := List.length_take_le _ _
        have hus : u.size ≤ n := by rw [← HU.out, ByteArray.size_extract]; omega
        have hvb : val (u.data.toList.take k) ≤ 999999999 := by
          have : 10 ^ (u.data.toList.take k).length ≤ 10 ^ 9 := Nat.pow_le_pow_right (by omega) (by omega)
          omega
        have hsn : u.data.toList.take (k + 1) = u.data.toList.take k ++ [c] := by rw [take_snoc u k hp, hcc]
        have hda' : allDig (u.data.toList.take (k + 1)) = true := by rw [hsn]; exact allDig_snoc hda (by rw [← hcc]; omega) (by rw [← hcc]; omega)
        have hva' : val (u.data.toList.take (k + 1)) = val (u.data.toList.take k) * 10 + (c.toNat - 48) := by rw [hsn, val_snoc]
        rw [hcc] at hnx hdg
        have HA := Lib.hid hda'
        have HV := Lib.hid hva'
        have HDA := Lib.hid hda
        clear hda hda' hva' hsn hcc hv hlen
        obtain ⟨h48, h57⟩ := hdg
        generalize hq : val (u.data.toList.take k) = q at hvb HV
        have HQ := Lib.hid hq
        clear hq
        go_wp2
        go_roundw
        case rel => exact ⟨k + 1, by omega, HA.out, rfl, by rw [HV.out]; go_num⟩
        case measure => simp; omega
      · have hnx : ∀ ty, (Instr.next (.pointer (some ⟨w.heap.size, 0, none⟩)) true ty).run Tryd.prog (w.iter u k) = _ := fun ty => run_next_any w u k ty hp
        have hno := dB_no hp hdg
        have HNO := Lib.hid hno
        have hdec : (Utf8.decode u k).1 < 48 ∨ 57 < (Utf8.decode u k).1 := by
          by_cases ha : (u[k]'hp).toNat < 128
          · rw [decode_ascii u k hp ha]; simp; omega
          · have := (decode_high u k hp (by omega)).1; omega
        clear hno hda hv hdg
        generalize (Utf8.decode u k).1 = q at hnx hdec
        rcases hdec with hq | hq
        all_goals
          go_wp2
          go_ret2
          exact txt_no HNO.out ⟨rfl, World.grownBy_alloc _ _ _, (Below.heap_alloc _ _ _ hlt).trans hb⟩
    · have hnx : ∀ ty, (Instr.next (.pointer (some ⟨w.heap.size, 0, none⟩)) true ty).run Tryd.prog (w.iter u k) = _ := fun ty => run_next_end w u k ty hp
      have HY := Lib.hid (dB_yes hp hda)
      have ht := take_ge u k hp
      rw [ht]
      have hbi : (w.iter u k).heap[b]? = some (.cells #[.string t] 43 (0, 0)) := (Below.heap_alloc _ _ _ hlt).trans hb
      have hci := cell_of_one hbi
      have hfi := free_of_one hbi
      have HB := Lib.hid hbi
      clear hda hv ht hbi
      go_wp2
      go_ret2
      exact txt_yes HY.out ⟨rfl, (World.grownBy_alloc _ _ _).trans (grown_set _ _ _), one_setCell HB.out⟩

/-- The method's answers. -/
def nV (t : ByteArray) (n : Nat) : Int := if decide (t.size < n) then 0 else (dV (t.extract 0 n) : Nat)
def nB (t : ByteArray) (n : Nat) : Bool := if decide (t.size < n) then false else dB (t.extract 0 n)
def nT (t : ByteArray) (n : Nat) : ByteArray := if decide (t.size < n) then t else dT t (t.extract 0 n) n

/-- The next byte is one of some signs. -/
def sgB (t l : ByteArray) : Bool := match t.data.toList with
  | [] => false
  | c :: _ => decide (0 ≤ Lib.indexByte l.data.toList c)
def sgV (t l : ByteArray) : Int := if sgB t l then (t.get! 0).toNat else 0
def sgT (t l : ByteArray) : ByteArray := if sgB t l then t.extract 1 t.size else t

theorem sign_empty (b : Nat) (t l : ByteArray) (w : World) (hb : w.heap[b]? = some (.cells #[.string t] 43 (0, 0))) (ht : t.toList = []) :
    Calls Tryd.prog 35 #[.pointer (some ⟨b, 0, none⟩), .string l] w (TxtPost b w (.int .u8 0) (.bool false) t) := by
  have hc := cell_of_one hb
  go_enter Tryd.func35, Tryd.ntmps35
  go_wp2
  go_ret2
  exact ⟨rfl, World.grownBy.refl _ _, hb⟩

theorem u8_back (c : UInt8) : ((c.toNat : Int).toNat).toUInt8 = c := by simp

theorem sign_no (b : Nat) (t l : ByteArray) (w : World) (hb : w.heap[b]? = some (.cells #[.string t] 43 (0, 0))) (h0 : 0 < t.size) (hne : ¬ t.toList = []) (q : Int) (hi : Lib.indexByte l.data.toList (t[0]'h0) = q) (hq : q < 0) :
    Calls Tryd.prog 35 #[.pointer (some ⟨b, 0, none⟩), .string l] w (TxtPost b w (.int .u8 0) (.bool false) t) := by
  have hc := cell_of_one hb
  have C := fun w => Tryd.strings_IndexByte l (t[0]'h0).toNat w
  rw [u8_back, hi] at C
  clear hi
  go_enter Tryd.func35, Tryd.ntmps35
  go_wp2_with (go_at_call 48; refine (C _).mono ?_; rintro e w' ⟨rfl, rfl⟩)
  go_ret2
  exact ⟨rfl, World.grownBy.refl _ _, hb⟩

theorem sign_yes (b : Nat) (t l : ByteArray) (w : World) (hb : w.heap[b]? = some (.cells #[.string t] 43 (0, 0))) (h0 : 0 < t.size) (hne : ¬ t.toList = []) (q : Int) (hi : Lib.indexByte l.data.toList (t[0]'h0) = q) (hq : 0 ≤ q) :
    Calls Tryd.prog 35 #[.pointer (some ⟨b, 0, none⟩), .string l] w (TxtPost b w (.int .u8 (t[0]'h0).toNat) (.bool true) (t.extract 1 t.size)) := by
  have hc := cell_of_one hb
  have hf := free_of_one hb
  have C := fun w => Tryd.strings_IndexByte l (t[0]'h0).toNat w
  rw [u8_back, hi] at C
  clear hi
  have hq' : decide (q < 0) = false := decide_eq_false (by omega)
  have hne' : t.toList.isEmpty = false := by cases h : t.toList with | nil => exact absurd h hne | cons _ _ => rfl
  clear hq hne
  go_enter Tryd.func35, Tryd.ntmps35
  go_wp2_with (go_at_call 48; refine (C _).mono ?_; rintro e w' ⟨rfl, rfl⟩)
  go_ret2
  exact ⟨rfl, grown_set _ _ _, one_setCell hb⟩

theorem sign_any (b : Nat) (t l : ByteArray) (w : World) (hb : w.heap[b]? = some (.cells #[.string t] 43 (0, 0))) :
    Calls Tryd.prog 35 #[.pointer (some ⟨b, 0, none⟩), .string l] w (TxtPost b w (.int .u8 (sgV t l)) (.bool (sgB t l)) (sgT t l)) := by
  rcases Nat.eq_zero_or_pos t.size with hz | h0
  · have ht : t.data.toList = [] := List.eq_nil_of_length_eq_zero hz
    have ht2 : t.toList = [] := by rw [ByteArray.toList_eq]; exact ht
    have e : sgB t l = false := by unfold sgB; rw [ht]
    unfold sgV sgT
    rw [e]
    exact sign_empty b t l w hb ht2
  · have hne : ¬ t.toList = [] := by
      intro h
      rw [ByteArray.toList_eq] at h
      have : t.data.toList.length = t.size := rfl
      rw [h] at this; simp at this; omega
    have hd : ∃ r, t.data.toList = t[0]'h0 :: r := by
      have : t.data.toList.length = t.size := rfl
      cases h : t.data.toList with
      | nil => rw [h] at this; simp at this; omega
      | cons c r =>
        have : t[0]'h0 = t.data.toList[0]'(by rw [this]; exact h0) := rfl
        rw [this]; simp [h]
    have hg : t.get! 0 = t[0]'h0 := by have := get_at t 0 h0; simpa using this
    obtain ⟨r, hr⟩ := hd
    have e : sgB t l = decide (0 ≤ Lib.indexByte l.data.toList (t[0]'h0)) := by unfold sgB; rw [hr]; rfl
    by_cases hq : 0 ≤ Lib.indexByte l.data.toList (t[0]'h0)
    · rw [decide_eq_true hq] at e
      unfold sgV sgT
      rw [e, hg]
      exact sign_yes b t l w hb h0 hne _ rfl hq
    · rw [decide_eq_false hq] at e
      unfold sgV sgT
      rw [e]
      exact sign_no b t l w hb h0 hne _ rfl (by omega)

theorem number_any (b : Nat) (t : ByteArray) (n : Nat) (w : World) (hb : w.heap[b]? = some (.cells #[.string t] 43 (0, 0))) (h4 : n ≤ 9) :
    Calls Tryd.prog 38 #[.pointer (some ⟨b, 0, none⟩), .int .i64 n] w (TxtPost b w (.int .i64 (nV t n)) (.bool (nB t n)) (nT t n)) := by
  unfold nV nB nT
  by_cases h : t.size < n
  · rw [decide_eq_true h]
    exact number_short b t n w hb h
  · rw [decide_eq_false h]
    exact number_long b t _ n w hb (by omega) h4 rfl

theorem nV_ge (t : ByteArray) (n : Nat) : 0 ≤ nV t n := by unfold nV; split <;> omega

/-- So many digits, that are a number up to a greatest one. -/
def wB (t : ByteArray) (n : Nat) (m : Int) : Bool := nB t n && decide (nV t n ≤ m)

theorem within_any (b : Nat) (t : ByteArray) (n : Nat) (m : Int) (w : World) (hb : w.heap[b]? = some (.cells #[.string t] 43 (0, 0))) (h4 : n ≤ 9) :
    Calls Tryd.prog 36 #[.pointer (some ⟨b, 0, none⟩), .int .i64 n, .int .i64 0, .int .i64 m] w (TxtPost b w (.int .i64 (nV t n)) (.bool (wB t n m)) (nT t n)) := by
  have C := number_any b t n w hb h4
  have hv := nV_ge t n
  unfold wB
  generalize nV t n = v at C hv ⊢
  generalize nT t n = t' at C ⊢
  generalize nB t n = p at C ⊢
  have hv' : decide (0 ≤ v) = true := decide_eq_true hv
  cases p with
  | false =>
    rw [Bool.false_and]
    go_enter Tryd.func36, Tryd.ntmps36
    go_wp2_with (go_at_call 38; refine C.mono ?_; rintro e w' ⟨rfl, hg, hb'⟩; have HG := Lib.hid hg; have HB := Lib.hid hb'; clear hg hb')
    go_ret2
    exact ⟨rfl, HG.out, HB.out⟩
  | true =>
    rw [Bool.true_and]
    by_cases hm : v ≤ m
    · have hm' : decide (v ≤ m) = true := decide_eq_true hm
      rw [hm']
      go_enter Tryd.func36, Tryd.ntmps36
      go_wp2_with (go_at_call 38; refine C.mono ?_; rintro e w' ⟨rfl, hg, hb'⟩; have HG := Lib.hid hg; have HB := Lib.hid hb'; clear hg hb')
      go_ret2
      exact ⟨rfl, HG.out, HB.out⟩
    · have hm' : decide (v ≤ m) = false := decide_eq_false hm
      rw [hm']
      go_enter Tryd.func36, Tryd.ntmps36
      go_wp2_with (go_at_call 38; refine C.mono ?_; rintro e w' ⟨rfl, hg, hb'⟩; have HG := Lib.hid hg; have HB := Lib.hid hb'; clear hg hb')
      go_ret2
      exact ⟨rfl, HG.out, HB.out⟩

/-- How many digits stand at the head. -/
def dgs (l : List UInt8) : Nat := (l.takeWhile isDig).length
theorem dgs_le (l : List UInt8) : dgs l ≤ l.length := by
  unfold dgs
  induction l with
  | nil => simp
  | cons c l ih => rw [List.takeWhile_cons]; split <;> simp <;> omega
theorem dgs_yes {l : List UInt8} {i : Nat} (h : i < dgs l) : ∃ c, l[i]? = some c ∧ isDig c = true := by
  induction l generalizing i with
  | nil => simp [dgs] at h
  | cons c l ih =>
    unfold dgs at h
    rw [List.takeWhile_cons] at h
    split at h
    · rename_i hc
      cases i with
      | zero => exact ⟨c, rfl, hc⟩
      | succ i => exact ih (by simp at h; exact h)
    · simp at h
theorem dgs_no {l : List UInt8} {c : UInt8} (h : l[dgs l]? = some c) : isDig c = false := by
  induction l with
  | nil => simp [dgs] at h
  | cons d l ih =>
    unfold dgs at h
    rw [List.takeWhile_cons] at h
    split at h
    · exact ih (by unfold dgs; simpa using h)
    · rename_i hc
      simp at h
      rw [← h]; simpa using hc
theorem ext_list (t : ByteArray) (i : Nat) : (t.extract i t.size).data.toList = t.data.toList.drop i := by
  rw [ByteArray.data_extract, Array.toList_extract, List.extract_eq_take_drop]
  apply List.take_of_length_le
  simp
theorem ext_ext (t : ByteArray) (i : Nat) : (t.extract i t.size).extract 1 (t.extract i t.size).size = t.extract (i + 1) t.size := by
  apply ByteArray.ext
  apply Array.ext'
  have e1 := ext_list (t.extract i t.size) 1
  have e2 := ext_list t i
  have e3 := ext_list t (i + 1)
  rw [e1, e2, e3, List.drop_drop]
theorem ext_zero (t : ByteArray) : t.extract 0 t.size = t := by
  apply ByteArray.ext
  apply Array.ext'
  rw [ext_list]; rfl
theorem one_size (t : ByteArray) : (t.extract 0 1).data.toList = t.data.toList.take 1 := by
  rw [ByteArray.data_extract, Array.toList_extract, List.extract_eq_take_drop]
  rfl
theorem nB_one {t : ByteArray} : nB t 1 = (match t.data.toList with | [] => false | c :: _ => isDig c) := by
  unfold nB
  have hl : t.data.toList.length = t.size := rfl
  have e := one_size t
  cases h : t.data.toList with
  | nil => rw [h] at hl; simp at hl; rw [decide_eq_true (by omega)]; rfl
  | cons c r =>
    rw [h] at hl e; simp at hl
    rw [decide_eq_false (by omega)]
    unfold dB allDig
    rw [e]; simp
theorem nV_one {t : ByteArray} {c : UInt8} {r : List UInt8} (h : t.data.toList = c :: r) (hc : isDig c = true) : nV t 1 = ((c.toNat - 48 : Nat) : Int) := by
  unfold nV
  have hl : t.data.toList.length = t.size := rfl
  have e := one_size t
  rw [h] at hl e; simp at hl
  rw [decide_eq_false (by omega)]
  unfold dV allDig
  rw [e]; simp [hc, val]
theorem nT_one {t : ByteArray} (h : nB t 1 = true) : nT t 1 = t.extract 1 t.size := by
  unfold nB at h
  unfold nT
  split at h
  · simp at h
  · rename_i hs
    have hs' : decide (t.size < 1) = false := by simpa using hs
    rw [hs']
    unfold dB at h
    unfold dT
    rw [h]; rfl
theorem nT_one_no {t : ByteArray} (h : nB t 1 = false) : nT t 1 = t := by
  unfold nB at h
  unfold nT
  split
  · rfl
  · rename_i hs
    have hs' : decide (t.size < 1) = false := by simpa using hs
    rw [hs'] at h
    have h' : dB (t.extract 0 1) = false := h
    unfold dB at h'
    unfold dT
    rw [h']; rfl
theorem drop_cons {l : List UInt8} {i : Nat} {c : UInt8} (h : l[i]? = some c) : l.drop i = c :: l.drop (i + 1) := by
  obtain ⟨hi, he⟩ := List.getElem?_eq_some_iff.1 h
  rw [List.drop_eq_getElem_cons hi, he]
theorem nB_at {t : ByteArray} {i : Nat} (h : i ≤ dgs t.data.toList) : nB (t.extract i t.size) 1 = decide (i < dgs t.data.toList) := by
  rw [nB_one, ext_list]
  by_cases hi : i < dgs t.data.toList
  · obtain ⟨c, hc, hd⟩ := dgs_yes hi
    rw [drop_cons hc, decide_eq_true hi]; exact hd
  · have e : i = dgs t.data.toList := by omega
    rw [decide_eq_false hi]
    cases hq : t.data.toList[i]? with
    | none =>
      have := List.getElem?_eq_none_iff.1 hq
      rw [List.drop_of_length_le this]
    | some c =>
      rw [drop_cons hq]
      exact dgs_no (by rw [← e]; exact hq)

/-- Behind the sign of a fraction: its first nine digits, as billionths. -/
def frK (l : List UInt8) (i : Nat) : Nat := val (l.take (min i 9))
def frN (l : List UInt8) : Nat := frK l (dgs l) * 10 ^ (9 - dgs l)

theorem frK_lt {l : List UInt8} {i : Nat} (h : i ≤ dgs l) : frK l i < 10 ^ (min i 9) := by
  unfold frK
  have hall : allDig (l.take (min i 9)) = true := by
    unfold allDig
    rw [List.all_eq_true]
    intro c hc
    obtain ⟨j, hj, e⟩ := List.getElem_of_mem hc
    rw [List.length_take] at hj
    rw [List.getElem_take] at e
    obtain ⟨c', h1, h2⟩ := dgs_yes (l := l) (i := j) (by omega)
    have := (List.getElem?_eq_some_iff.1 h1).2
    rw [← e, this]; exact h2
  have h1 := val_lt _ hall
  refine Nat.lt_of_lt_of_le h1 (Nat.pow_le_pow_right (by omega) ?_)
  rw [List.length_take]; omega
theorem frK_succ {l : List UInt8} {i : Nat} {c : UInt8} (h : l[i]? = some c) (h9 : i < 9) : frK l (i + 1) = frK l i * 10 + (c.toNat - 48) := by
  unfold frK
  have e1 : min (i + 1) 9 = i + 1 := by omega
  have e2 : min i 9 = i := by omega
  obtain ⟨hi, he⟩ := List.getElem?_eq_some_iff.1 h
  rw [e1, e2, List.take_succ_eq_append_getElem hi, he, val_snoc]
theorem frK_stay {l : List UInt8} {i : Nat} (h9 : ¬ i < 9) : frK l (i + 1) = frK l i := by
  unfold frK
  rw [show min (i + 1) 9 = 9 by omega, show min i 9 = 9 by omega]

end Go.Proofs.YtfcmdameiabjmaaDoor.Txt
