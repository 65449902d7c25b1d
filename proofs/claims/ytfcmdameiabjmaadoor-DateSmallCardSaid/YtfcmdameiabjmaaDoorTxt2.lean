/- The contracts of date.text's fraction, zone and series. -/
import Derived.Test.YtfcmdameiabjmaaDoorTxt
import Derived.Deep.LoopGhost
import Derived.StillTailTactics
namespace Go.Proofs.YtfcmdameiabjmaaDoor.Txt
open Go.RowKit

/-- A fraction: what it is, whether it may be, what is left. -/
def frB (t : ByteArray) : Bool := sgB t ⟨#[46]⟩
def frV (t : ByteArray) : Int := if frB t then (frN (t.extract 1 t.size).data.toList : Nat) else 0
def frOk (t : ByteArray) : Bool := if frB t then decide (0 < dgs (t.extract 1 t.size).data.toList) else true
def frT (t : ByteArray) : ByteArray := if frB t then (t.extract 1 t.size).extract (dgs (t.extract 1 t.size).data.toList) (t.extract 1 t.size).size else t

theorem fraction_none (b : Nat) (t : ByteArray) (w : World) (hb : w.heap[b]? = some (.cells #[.string t] 43 (0, 0))) (hn : sgB t ⟨#[46]⟩ = false) :
    Calls Tryd.prog 20 #[.pointer (some ⟨b, 0, none⟩)] w (TxtPost b w (.int .i64 0) (.bool true) t) := by
  have C := sign_any b t ⟨#[46]⟩ w hb
  have ht : sgT t ⟨#[46]⟩ = t := by unfold sgT; rw [hn]; rfl
  rw [hn, ht] at C
  clear hn ht
  generalize sgV t ⟨#[46]⟩ = v at C
  go_enter Tryd.func20, Tryd.ntmps20
  go_wp2_with (go_at_call 35; refine C.mono ?_; rintro e w' ⟨rfl, hg, hb'⟩; have HG := Lib.hid hg; have HB := Lib.hid hb'; clear hg hb')
  go_ret2
  exact ⟨rfl, HG.out, HB.out⟩

set_option maxHeartbeats 1000000 in
theorem fraction_some (b : Nat) (t u : ByteArray) (w : World) (hb : w.heap[b]? = some (.cells #[.string t] 43 (0, 0))) (hn : sgB t ⟨#[46]⟩ = true) (hu : t.extract 1 t.size = u) (hts : u.size ≤ 9223372036854775806) :
    Calls Tryd.prog 20 #[.pointer (some ⟨b, 0, none⟩)] w (TxtPost b w (.int .i64 (frN u.data.toList : Nat)) (.bool (decide (0 < dgs u.data.toList))) (u.extract (dgs u.data.toList) u.size)) := by
  have C := sign_any b t ⟨#[46]⟩ w hb
  have ht : sgT t ⟨#[46]⟩ = u := by unfold sgT; rw [hn]; exact hu
  rw [hn, ht] at C
  clear hn ht hu
  generalize sgV t ⟨#[46]⟩ = v at C
  have hD := dgs_le u.data.toList
  have hDs : u.data.toList.length = u.size := rfl
  rw [hDs] at hD
  clear hDs
  go_enter Tryd.func20, Tryd.ntmps20
  go_wp2_with (go_at_call 35; refine C.mono ?_; rintro e w1 ⟨rfl, hg, hb'⟩; have HG := Lib.hid hg; have HB := Lib.hid hb'; clear hg hb')
  go_loopw [6, 7] (fun n k wr => ∃ i : Nat, i ≤ dgs u.data.toList ∧ n = .int .i64 (frK u.data.toList i : Nat) ∧ k = .int .i64 i ∧ w.grownBy wr (some b) ∧ wr.heap[b]? = some (.cells #[.string (u.extract i u.size)] 43 (0, 0))) (fun _ k _ => u.size + 1 - (intOf k).toNat)
  case atStart => exact ⟨0, Nat.zero_le _, rfl, rfl, HG.out, by rw [ext_zero]; exact HB.out⟩
  case round =>
    clear HG HB C
    obtain ⟨i, hi, rfl, rfl, hg, hbr⟩ := hrel
    have HG := Lib.hid hg
    clear hg
    have C1 : Calls Tryd.prog 38 _ _ _ := number_any b (u.extract i u.size) 1 wr hbr (by omega)
    have hlt := frK_lt hi
    by_cases hiD : i < dgs u.data.toList
    · obtain ⟨c, hc, hcd⟩ := dgs_yes hiD
      have e1 : nB (u.extract i u.size) 1 = true := by rw [nB_at hi]; exact decide_eq_true hiD
      have e2 : nT (u.extract i u.size) 1 = u.extract (i + 1) u.size := by rw [nT_one e1, ext_ext]
      have e3 : nV (u.extract i u.size) 1 = ((c.toNat - 48 : Nat) : Int) := nV_one (by rw [ext_list]; exact drop_cons hc) hcd
      rw [e1, e2, e3] at C1
      have hc9 := ((isDig_iff c).1 hcd)
      have hdgb : c.toNat - 48 ≤ 9 := by omega
      have HI : Hid (i + 1 ≤ dgs u.data.toList) := hiD
      by_cases h9 : i < 9
      · have HS := Lib.hid (frK_succ hc h9)
        have hqb : frK u.data.toList i ≤ 999999999 := by
          have : 10 ^ (min i 9) ≤ 10 ^ 9 := Nat.pow_le_pow_right (by omega) (by omega)
          omega
        clear hlt e1 e2 e3 hc hcd hc9 hi hiD
        generalize c.toNat - 48 = d at C1 hdgb HS
        generalize hq : frK u.data.toList i = q at hqb HS
        clear hq
        have h9' : decide ((i : Int) < 9) = true := decide_eq_true (by omega)
        go_wp2_with (go_at_call 38; refine C1.mono ?_; rintro e w2 ⟨rfl, hg, hb'⟩; have HG2 := Lib.hid hg; have HB2 := Lib.hid hb'; clear hg hb')
        go_roundw
        case rel => exact ⟨i + 1, HI.out, by rw [HS.out]; go_num, by go_num, HG.out.trans HG2.out, HB2.out⟩
        case measure => have := HI.out; simp [intOf]; omega
      · have HS := Lib.hid (frK_stay (l := u.data.toList) h9)
        have hil : i ≤ 9223372036854775806 := by omega
        clear hlt e1 e2 e3 hc hcd hc9 hi hiD
        generalize c.toNat - 48 = d at C1 hdgb
        generalize hq : frK u.data.toList i = q at HS
        clear hq
        have h9' : decide ((i : Int) < 9) = false := decide_eq_false (by omega)
        go_wp2_with (go_at_call 38; refine C1.mono ?_; rintro e w2 ⟨rfl, hg, hb'⟩; have HG2 := Lib.hid hg; have HB2 := Lib.hid hb'; clear hg hb')
        go_roundw
        case rel => exact ⟨i + 1, HI.out, by rw [HS.out], by go_num, HG.out.trans HG2.out, HB2.out⟩
        case measure => have := HI.out; simp [intOf]; omega
    · have hie : i = dgs u.data.toList := by omega
      subst hie
      have e1 : nB (u.extract (dgs u.data.toList) u.size) 1 = false := by rw [nB_at hi]; exact decide_eq_false hiD
      have e2 := nT_one_no e1
      rw [e1, e2] at C1
      clear e1 e2 hi hiD
      generalize nV (u.extract (dgs u.data.toList) u.size) 1 = v1 at C1
      have HN : Hid (frN u.data.toList = frK u.data.toList (dgs u.data.toList) * 10 ^ (9 - dgs u.data.toList)) := rfl
      generalize hq : frK u.data.toList (dgs u.data.toList) = q at hlt HN
      clear hq
      generalize dgs u.data.toList = i at *
      generalize frN u.data.toList = r at *
      go_wp2_with (go_at_call 38; refine C1.mono ?_; rintro e w2 ⟨rfl, hg, hb'⟩; have HG2 := Lib.hid hg; have HB2 := Lib.hid hb'; clear hg hb')
      go_loop [6, 10] (fun n j => ∃ k m p : Nat, n = .int .i64 m ∧ j = .int .i64 p ∧ Hid (p = i + k) ∧ Hid (m = q * 10 ^ k) ∧ (9 ≤ i → k = 0) ∧ (i < 9 → i + k ≤ 9)) (fun _ j => (9 - intOf j).toNat)
      case atStart => exact ⟨0, q, i, rfl, rfl, rfl, by show q = q * 10 ^ 0; simp, fun _ => rfl, fun _ => by omega⟩
      case round =>
        obtain ⟨k, m, p, rfl, rfl, hp, hm, h1, h2⟩ := hrel
        have hpp := hp.out
        have HH : Hid ((9 ≤ i → k = 0) ∧ (i < 9 → i + k ≤ 9)) := ⟨h1, h2⟩
        by_cases h9 : p < 9
        · have hb1 : m ≤ 99999999 := by
            have e : m = q * 10 ^ k := hm.out
            have hi9 : min i 9 = i := by omega
            rw [hi9] at hlt
            have h3 : q * 10 ^ k < 10 ^ i * 10 ^ k := Nat.mul_lt_mul_of_pos_right hlt (Nat.pow_pos (by omega))
            rw [← Nat.pow_add] at h3
            have h4 : 10 ^ (i + k) ≤ 10 ^ 8 := Nat.pow_le_pow_right (by omega) (by omega)
            omega
          have h9' : decide ((p : Int) < 9) = true := decide_eq_true (by omega)
          clear h1 h2 hpp
          go_wp2
          go_round
          case rel => exact ⟨k + 1, m * 10, p + 1, by go_num, by go_num, by have := hp.out; show p + 1 = i + (k + 1); omega, by have := hm.out; show m * 10 = q * 10 ^ (k + 1); rw [this, Nat.pow_succ, Nat.mul_assoc], fun h => by have := HH.out.1 h; have := hp.out; omega, fun h => by have := hp.out; omega⟩
          case measure => simp [intOf]; omega
        · have h9' : decide ((p : Int) < 9) = false := decide_eq_false (by omega)
          have HE : Hid (m = r) := by
            show m = r
            rw [HN.out, hm.out]
            have e : k = 9 - i := by
              by_cases hi9 : 9 ≤ i
              · rw [h1 hi9]; omega
              · have := h2 (by omega); omega
            rw [e]
          clear h1 h2 hpp
          by_cases h0 : 0 < i
          · have h0' : decide ((0 : Int) < (i : Int)) = true := decide_eq_true (by omega)
            rw [decide_eq_true h0]
            go_wp2
            go_ret2
            obtain rfl : m = r := HE.out
            exact ⟨rfl, HG.out.trans HG2.out, HB2.out⟩
          · have h0' : decide ((0 : Int) < (i : Int)) = false := decide_eq_false (by omega)
            rw [decide_eq_false h0]
            go_wp2
            go_ret2
            obtain rfl : m = r := HE.out
            exact ⟨rfl, HG.out.trans HG2.out, HB2.out⟩

theorem fraction_any (b : Nat) (t : ByteArray) (w : World) (hb : w.heap[b]? = some (.cells #[.string t] 43 (0, 0))) (hts : t.size ≤ 9223372036854775806) :
    Calls Tryd.prog 20 #[.pointer (some ⟨b, 0, none⟩)] w (TxtPost b w (.int .i64 (frV t)) (.bool (frOk t)) (frT t)) := by
  unfold frV frOk frT frB
  cases h : sgB t ⟨#[46]⟩ with
  | false => exact fraction_none b t w hb h
  | true => exact fraction_some b t _ w hb h rfl (by rw [ByteArray.size_extract]; omega)

end Go.Proofs.YtfcmdameiabjmaaDoor.Txt
