/- locator.scheme by hand: may a text be a scheme? -/
import Derived.Test.YtcplaafmelcndaaGreatDoorBd1
import Derived.Lib.ConvBytes
import Derived.Deep.LoopGhost
set_option linter.unusedVariables false
set_option linter.unusedSimpArgs false
set_option maxRecDepth 20000
namespace Go.Proofs.YtcplaafmelcndaaGreatDoor.At
open Go.RowKit Go.Lib Go.Shelf
def alphaB (c : UInt8) : Bool := (decide (65 ≤ c.toNat) && decide (c.toNat ≤ 90)) || (decide (97 ≤ c.toNat) && decide (c.toNat ≤ 122))
def digB (c : UInt8) : Bool := decide (48 ≤ c.toNat) && decide (c.toNat ≤ 57)
theorem or32 (y : UInt8) : bits BinOp.or IntKind.u8 (y.toNat : Int) 32 = ((y ||| 32).toNat : Int) := by
  have h : ∀ n : Fin 256, bits BinOp.or IntKind.u8 (n.val : Int) 32 = (((UInt8.ofNat n.val) ||| 32).toNat : Int) := by decide
  have h1 := h ⟨y.toNat, y.toNat_lt⟩
  simp only [UInt8.ofNat_toNat] at h1
  exact h1
theorem alpha_or (y : UInt8) : (decide ((97 : Int) ≤ ((y ||| 32).toNat : Int)) && decide (((y ||| 32).toNat : Int) ≤ 122)) = alphaB y := by
  have h : ∀ n : Fin 256, (decide ((97 : Int) ≤ (((UInt8.ofNat n.val) ||| 32).toNat : Int)) && decide ((((UInt8.ofNat n.val) ||| 32).toNat : Int) ≤ 122)) = alphaB (UInt8.ofNat n.val) := by decide
  have h1 := h ⟨y.toNat, y.toNat_lt⟩
  simp only [UInt8.ofNat_toNat] at h1
  exact h1
theorem letter_any (c : UInt8) (w : World) : Calls Tryz.prog 129 #[.int .u8 c.toNat] w fun e w' => e = .returned (.bool (alphaB c)) ∧ Below w.heap.size w w' := by
  have ho := or32 c
  have ha := alpha_or c
  generalize (c ||| 32) = d at ho ha
  obtain ⟨R, hR⟩ : ∃ r, alphaB c = r := ⟨_, rfl⟩
  rw [hR] at ha ⊢
  have HA := Lib.hid ha
  clear ha hR
  by_cases h1 : (97 : Int) ≤ (d.toNat : Int)
  · by_cases h2 : (d.toNat : Int) ≤ 122
    · have hr : R = true := by rw [← HA.out, decide_eq_true h1, decide_eq_true h2]; rfl
      have HR := Lib.hid hr
      clear hr
      go_enter Tryz.func129, Tryz.ntmps129
      go_wp2_with fail
      go_ret
      exact ⟨by rw [HR.out]; rfl, Below.refl _ _⟩
    · have hr : R = false := by rw [← HA.out, decide_eq_false h2, Bool.and_false]
      have HR := Lib.hid hr
      clear hr
      go_enter Tryz.func129, Tryz.ntmps129
      go_wp2_with fail
      go_ret
      exact ⟨by rw [HR.out]; rfl, Below.refl _ _⟩
  · have hr : R = false := by rw [← HA.out, decide_eq_false h1, Bool.false_and]
    have HR := Lib.hid hr
    clear hr
    go_enter Tryz.func129, Tryz.ntmps129
    go_wp2_with fail
    go_ret
    exact ⟨by rw [HR.out]; rfl, Below.refl _ _⟩
theorem digit_any (c : UInt8) (w : World) : Calls Tryz.prog 130 #[.int .u8 c.toNat] w fun e w' => e = .returned (.bool (digB c)) ∧ Below w.heap.size w w' := by
  obtain ⟨R, hR⟩ : ∃ r, digB c = r := ⟨_, rfl⟩
  rw [hR]
  have HA := Lib.hid hR
  clear hR
  by_cases h1 : (48 : Int) ≤ (c.toNat : Int)
  · by_cases h2 : (c.toNat : Int) ≤ 57
    · have hr : R = true := by rw [← HA.out]; unfold digB; rw [decide_eq_true (by omega), decide_eq_true (by omega)]; rfl
      have HR := Lib.hid hr
      clear hr
      go_enter Tryz.func130, Tryz.ntmps130
      go_wp2_with fail
      go_ret
      exact ⟨by rw [HR.out]; rfl, Below.refl _ _⟩
    · have hr : R = false := by rw [← HA.out]; unfold digB; rw [decide_eq_false (show ¬ c.toNat ≤ 57 by omega), Bool.and_false]
      have HR := Lib.hid hr
      clear hr
      go_enter Tryz.func130, Tryz.ntmps130
      go_wp2_with fail
      go_ret
      exact ⟨by rw [HR.out]; rfl, Below.refl _ _⟩
  · have hr : R = false := by rw [← HA.out]; unfold digB; rw [decide_eq_false (show ¬ 48 ≤ c.toNat by omega), Bool.false_and]
    have HR := Lib.hid hr
    clear hr
    go_enter Tryz.func130, Tryz.ntmps130
    go_wp2_with fail
    go_ret
    exact ⟨by rw [HR.out]; rfl, Below.refl _ _⟩
/-- Bytes of a scheme, from a place on. -/
def schemeGo : Nat → List UInt8 → Bool
  | _, [] => true
  | i, c :: l => (alphaB c || (decide (i ≠ 0) && (digB c || decide (0 ≤ Lib.indexByte [43, 45, 46] c)))) && schemeGo (i + 1) l
def schemeV (s : ByteArray) : Bool := schemeGo 0 s.data.toList && !s.data.toList.isEmpty
theorem schemeGo_drop (l : List UInt8) (i : Nat) (h : i < l.length) : schemeGo i (l.drop i) = ((alphaB l[i] || (decide (i ≠ 0) && (digB l[i] || decide (0 ≤ Lib.indexByte [43, 45, 46] l[i])))) && schemeGo (i + 1) (l.drop (i + 1))) := by
  rw [List.drop_eq_getElem_cons h]; rfl
/-- A row of bytes that are read. -/
def BytR (s : ByteArray) (h : Nat) (w : World) : Prop := ∀ j (hj : j < s.size), w.cell? ⟨h, j, none⟩ = some (.int .u8 (s.data.toList[j]'(by rw [Array.length_toList]; exact hj)).toNat)
set_option maxHeartbeats 1000000 in
theorem scheme_any (a0 : ByteArray) (hs : a0.size ≤ 1000000000000) (w : World) :
    Calls Tryz.prog 92 #[.string a0] w fun e w' => e = .returned (.bool (schemeV a0)) ∧ Below w.heap.size w w' := by
  have hcv := Go.Lib.run_convert_string_bytes (P := Tryz.prog) w 9 55 5 a0 Tryz.underlying9 Tryz.underlying55 Tryz.underlying5
  have hB0 : Below w.heap.size w (bytesWorld w 5 a0) := ⟨rfl, rfl, rfl, by rw [bytesWorld_size]; omega, fun k hk => bytesWorld_at_old w 5 a0 k hk⟩
  have hR0 : BytR a0 w.heap.size (bytesWorld w 5 a0) := fun j hj => by
    rw [bytesWorld_cell w 5 a0 j hj]
    simp [List.getD, hj]
  have hsz := bytesWorld_size w 5 a0
  have hlm : (a0.size : Int) < 9223372036854775807 := by omega
  generalize grownCap w a0.size 0 5 = cc at hcv
  generalize bytesWorld w 5 a0 = W1 at hcv hB0 hR0 hsz
  obtain ⟨R, hR⟩ : ∃ r, schemeV a0 = r := ⟨_, rfl⟩
  rw [hR]
  obtain ⟨ANS, hA⟩ : ∃ a, schemeGo 0 a0.data.toList = a := ⟨_, rfl⟩
  have hR2 : R = (ANS && !a0.data.toList.isEmpty) := by rw [← hR, ← hA]; rfl
  have hll : a0.data.toList.length = a0.size := by rw [Array.length_toList]; rfl
  have HLL := Lib.hid hll
  have HR2 := Lib.hid hR2
  have HA := Lib.hid hA
  have HCV := Lib.hid hcv
  have HB0 := Lib.hid hB0
  have HR0 := Lib.hid hR0
  have HSZ := Lib.hid hsz
  have HL := Lib.hid hs
  clear hcv hB0 hR0 hs hR hA hR2 hsz hll
  go_enter Tryz.func92, Tryz.ntmps92
  go_wp2_with fail
  rw [HCV.out]
  simp only [Result.andThen]
  rw [Oper.upon_value]
  go_wp2_with fail
  clear hlm
  go_loopg [8] a0.size (fun kx s8 wr => ∃ i : Nat, s8 = .int .i64 (i : Int) ∧ i ≤ a0.size ∧ a0.size - i ≤ kx ∧ Hid (Below W1.heap.size W1 wr ∧ schemeGo i (a0.data.toList.drop i) = ANS))
  case atStart => exact ⟨0, rfl, by omega, by omega, ⟨Below.refl _ _, HA.out⟩⟩
  case round =>
    obtain ⟨i, rfl, hi, hkx, HW⟩ := hrel
    by_cases hlt : i < a0.size
    · have hc := (HW.out.1.cell (p := ⟨w.heap.size, i, none⟩) (by show w.heap.size < W1.heap.size; have := HSZ.out; omega)).trans (HR0.out i hlt)
      have hst := schemeGo_drop a0.data.toList i (by rw [HLL.out]; exact hlt)
      obtain ⟨y, hy⟩ : ∃ y, y = a0.data.toList[i]'(by rw [Array.length_toList]; exact hlt) := ⟨_, rfl⟩
      rw [← hy] at hc hst
      have HST := Lib.hid hst
      have HI := Lib.hid (And.intro hlt hkx)
      have p1 : decide ((0 : Int) ≤ (i : Int)) = true := decide_eq_true (by omega)
      have q1 : decide ((i : Int) < (a0.size : Int)) = true := decide_eq_true (by omega)
      have p2 := eq_true (show (0 : Int) ≤ (i : Int) by omega)
      have q2 := eq_true (show (i : Int) < (a0.size : Int) by omega)
      have C1 := fun W => letter_any y W
      have C2 := fun W => digit_any y W
      have C3 := fun W => Tryz.strings_IndexByte ⟨#[43, 45, 46]⟩ y.toNat W
      have u8b : ((y.toNat : Int).toNat).toUInt8 = y := by simp
      rw [u8b] at C3
      rw [show (⟨#[43, 45, 46]⟩ : ByteArray).data.toList = [43, 45, 46] from rfl] at C3
      generalize alphaB y = bl at C1 HST
      generalize digB y = bd at C2 HST
      generalize Lib.indexByte [43, 45, 46] y = q at C3 HST
      have HC1 := Lib.hid C1
      have HC2 := Lib.hid C2
      have HC3 := Lib.hid C3
      clear hy hst hi hkx u8b C1 C2 C3
      have done1 : (bl || (decide (i ≠ 0) && (bd || decide (0 ≤ q)))) = false → ANS = false := fun h => by have := HW.out.2; rw [HST.out, h, Bool.false_and] at this; exact this.symm
      have next1 : (bl || (decide (i ≠ 0) && (bd || decide (0 ≤ q)))) = true → schemeGo (i + 1) (a0.data.toList.drop (i + 1)) = ANS := fun h => by have := HW.out.2; rw [HST.out, h, Bool.true_and] at this; exact this
      have HD1 := Lib.hid done1
      have HN1 := Lib.hid next1
      clear done1 next1
      cases bl with
      | true =>
        have hn := HN1.out rfl
        have HN := Lib.hid hn
        clear hn
        go_wp2_with (go_at_call 129; refine (HC1.out _).mono ?_)
        rintro e w2 ⟨rfl, hb⟩
        have HB := Lib.hid hb
        clear hb
        go_wp2_with fail
        go_roundg (a0.size - (i + 1))
        case measure => have := HI.out; omega
        case rel => exact ⟨i + 1, by rw [Go.IntWalk.wrap64_in _ (by have := HI.out; have := HL.out; omega)]; rfl, by have := HI.out; omega, Nat.le_refl _, ⟨HW.out.1.trans (HB.out.mono HW.out.1.size), HN.out⟩⟩
      | false =>
        by_cases h0 : i = 0
        · subst h0
          have hf := HD1.out (by simp)
          have HF := Lib.hid hf
          clear hf
          go_wp2_with (go_at_call 129; refine (HC1.out _).mono ?_)
          rintro e w2 ⟨rfl, hb⟩
          have HB := Lib.hid hb
          clear hb
          go_wp2_with fail
          go_ret
          exact ⟨by rw [HR2.out, HF.out, Bool.false_and]; rfl, HB0.out.trans ((HW.out.1.trans (HB.out.mono HW.out.1.size)).mono (by have := HSZ.out; omega))⟩
        · have h0' : ((i : Int) == 0) = false := by simp [h0]
          have h0d : decide (i ≠ 0) = true := decide_eq_true h0
          have H0 := Lib.hid h0d
          clear h0 h0d
          cases bd with
          | true =>
            have hn := HN1.out (by rw [H0.out]; rfl)
            have HN := Lib.hid hn
            clear hn
            go_wp2_with (go_at_call 129; refine (HC1.out _).mono ?_)
            rintro e w2 ⟨rfl, hb⟩
            have HB := Lib.hid (HW.out.1.trans (hb.mono HW.out.1.size))
            clear hb
            go_wp2_with (go_at_call 130; refine (HC2.out _).mono ?_)
            rintro e w3 ⟨rfl, hb⟩
            have HB2 := Lib.hid (HB.out.trans (hb.mono HB.out.size))
            clear hb
            go_wp2_with fail
            go_roundg (a0.size - (i + 1))
            case measure => have := HI.out; omega
            case rel => exact ⟨i + 1, by rw [Go.IntWalk.wrap64_in _ (by have := HI.out; have := HL.out; omega)]; rfl, by have := HI.out; omega, Nat.le_refl _, ⟨HB2.out, HN.out⟩⟩
          | false =>
            by_cases hq : q < 0
            · have hf := HD1.out (by rw [H0.out, decide_eq_false (show ¬ 0 ≤ q by omega)]; rfl)
              have HF := Lib.hid hf
              clear hf
              go_wp2_with (go_at_call 129; refine (HC1.out _).mono ?_)
              rintro e w2 ⟨rfl, hb⟩
              have HB := Lib.hid (HW.out.1.trans (hb.mono HW.out.1.size))
              clear hb
              go_wp2_with (go_at_call 130; refine (HC2.out _).mono ?_)
              rintro e w3 ⟨rfl, hb⟩
              have HB2 := Lib.hid (HB.out.trans (hb.mono HB.out.size))
              clear hb
              go_wp2_with (go_at_call 108; refine (HC3.out _).mono ?_)
              rintro e w4 ⟨rfl, rfl⟩
              go_wp2_with fail
              go_ret
              exact ⟨by rw [HR2.out, HF.out, Bool.false_and]; rfl, HB0.out.trans (HB2.out.mono (by have := HSZ.out; omega))⟩
            · have hn := HN1.out (by rw [H0.out, decide_eq_true (show 0 ≤ q by omega)]; rfl)
              have HN := Lib.hid hn
              have hq' : decide (q < 0) = false := decide_eq_false hq
              clear hn hq
              go_wp2_with (go_at_call 129; refine (HC1.out _).mono ?_)
              rintro e w2 ⟨rfl, hb⟩
              have HB := Lib.hid (HW.out.1.trans (hb.mono HW.out.1.size))
              clear hb
              go_wp2_with (go_at_call 130; refine (HC2.out _).mono ?_)
              rintro e w3 ⟨rfl, hb⟩
              have HB2 := Lib.hid (HB.out.trans (hb.mono HB.out.size))
              clear hb
              go_wp2_with (go_at_call 108; refine (HC3.out _).mono ?_)
              rintro e w4 ⟨rfl, rfl⟩
              go_wp2_with fail
              go_roundg (a0.size - (i + 1))
              case measure => have := HI.out; omega
              case rel => exact ⟨i + 1, by rw [Go.IntWalk.wrap64_in _ (by have := HI.out; have := HL.out; omega)]; rfl, by have := HI.out; omega, Nat.le_refl _, ⟨HB2.out, HN.out⟩⟩
    · obtain rfl : i = a0.size := by omega
      have q1 : decide ((a0.size : Int) < (a0.size : Int)) = false := decide_eq_false (by omega)
      have ht : ANS = true := by have := HW.out.2; rw [List.drop_of_length_le (by rw [HLL.out]; exact Nat.le_refl _)] at this; exact this.symm
      have HT := Lib.hid ht
      clear hi hkx hlt ht
      go_wp2_with fail
      go_ret
      refine ⟨?_, HB0.out.trans (HW.out.1.mono (by have := HSZ.out; omega))⟩
      rw [HR2.out, HT.out, Bool.true_and, ByteArray.toList_eq]
      first | rfl | simp
def locator_scheme.f (a0 : ByteArray) : Option Bool := if a0.size ≤ 1000000000000 then some (schemeV a0) else none
theorem locator_scheme.calls (a0 : ByteArray) (r : Bool) (w : World) (h : locator_scheme.f a0 = some r) :
    Calls Tryz.prog 92 #[.string a0] w fun e w' => e = .returned (.bool r) ∧ Below w.heap.size w w' := by
  unfold locator_scheme.f at h
  split at h
  case isFalse => cases h
  case isTrue hs =>
    obtain rfl := Option.some.inj h
    exact scheme_any a0 hs w
end Go.Proofs.YtcplaafmelcndaaGreatDoor.At
