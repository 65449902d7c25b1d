/- The contract of date.text's series, zone, and of date.Parse. -/
import Derived.Test.YtfcmdameiabjmaaDoorTxt2
import Derived.Deep.RegionWith
import Derived.Deep.DeepCutAuto
import Derived.Deep.LoopGhost
namespace Go.Proofs.YtfcmdameiabjmaaDoor.Txt
open Go.RowKit

/-- A series of numbers, each with a sign ahead (a blank: none): was all there, what is left, what was taken. -/
def ser : List (UInt8 × Nat × Int) → ByteArray → Bool × ByteArray × List Int
  | [], t => (true, t, [])
  | (c, n, m) :: r, t =>
    if c = 32 then
      if wB t n m then ((ser r (nT t n)).1, (ser r (nT t n)).2.1, nV t n :: (ser r (nT t n)).2.2) else (false, nT t n, [])
    else if sgB t ⟨#[c]⟩ then
      if wB (sgT t ⟨#[c]⟩) n m then ((ser r (nT (sgT t ⟨#[c]⟩) n)).1, (ser r (nT (sgT t ⟨#[c]⟩) n)).2.1, nV (sgT t ⟨#[c]⟩) n :: (ser r (nT (sgT t ⟨#[c]⟩) n)).2.2) else (false, nT (sgT t ⟨#[c]⟩) n, [])
    else (false, t, [])

/-- The world behind a series' begin: the text in block b, the numbers from block v on. -/
structure SerW (b v N : Nat) (w w' : World) (t : ByteArray) (vs : List Int) : Prop where
  os : w'.os = w.os
  tape : w'.tape = w.tape
  output : w'.output = w.output
  size : w.heap.size ≤ w'.heap.size
  blk : ∀ j, j < w.heap.size → j ≠ b → (j < v ∨ v + N ≤ j) → w'.heap[j]? = w.heap[j]?
  txt : w'.heap[b]? = some (.cells #[.string t] 43 (0, 0))
  var : ∀ j, j < N → w'.heap[v + j]? = some (.cells #[.int .i64 (vs.getD j 0)] 3 (0, 0))

theorem SerW.step {b v N : Nat} {w w1 w2 : World} {t t' : ByteArray} {vs : List Int} (h : SerW b v N w w1 t vs) (hbv : b < v) (hg : w1.grownBy w2 (some b)) (hb : w2.heap[b]? = some (.cells #[.string t'] 43 (0, 0))) : SerW b v N w w2 t' vs := by
  refine ⟨hg.os.trans h.os, hg.tape.trans h.tape, hg.output.trans h.output, Nat.le_trans h.size hg.size, fun j hj hne hv => ?_, hb, fun j hj => ?_⟩
  · rw [hg.block j (Nat.lt_of_lt_of_le hj h.size) (by simp; omega)]; exact h.blk j hj hne hv
  · rw [hg.block (v + j) (lt_of_block (h.var j hj)) (by simp; omega)]; exact h.var j hj
theorem SerW.store {b v N : Nat} {w w1 : World} {t : ByteArray} {vs : List Int} (h : SerW b v N w w1 t vs) (hbv : b < v) (hk : vs.length < N) (x : Int) : SerW b v N w (w1.setCell ⟨v + vs.length, 0, none⟩ (.int .i64 x)) t (vs ++ [x]) := by
  refine ⟨h.os, h.tape, h.output, by simpa [World.setCell] using h.size, fun j hj hne hv => ?_, ?_, fun j hj => ?_⟩
  · rw [Below.heap_setCell _ _ _ _ (by simp; omega)]; exact h.blk j hj hne hv
  · rw [Below.heap_setCell _ _ _ _ (by simp; omega)]; exact h.txt
  · by_cases e : j = vs.length
    · subst e
      rw [one_setCell (h.var _ hj)]
      simp [List.getD_eq_getElem?_getD]
    · rw [Below.heap_setCell _ _ _ _ (by simp; omega), h.var j hj]
      have : (vs ++ [x]).getD j 0 = vs.getD j 0 := by
        simp only [List.getD_eq_getElem?_getD]
        by_cases hl : j < vs.length
        · rw [List.getElem?_append_left hl]
        · rw [List.getElem?_eq_none (by simp; omega), List.getElem?_eq_none (by omega)]
      rw [this]

theorem SerW.drew {b v N : Nat} {w w1 : World} {t : ByteArray} {vs : List Int} (h : SerW b v N w w1 t vs) : SerW b v N w w1.drew t vs := ⟨h.os, h.tape, h.output, h.size, h.blk, h.txt, h.var⟩
theorem SerW.cell {b v N : Nat} {w w1 : World} {t : ByteArray} {vs : List Int} (h : SerW b v N w w1 t vs) (hbv : b < v) {a : Addr} {x : Value} (ha : v + N ≤ a.block) (hc : w.cell? a = some x) : w1.cell? a = some x := by
  have hlt : a.block < w.heap.size := by
    rcases Nat.lt_or_ge a.block w.heap.size with h' | h'
    · exact h'
    · simp [World.cell?, Array.getElem?_eq_none h'] at hc
  rw [World.cell?_of_block (w := w) (h.blk a.block hlt (by omega) (.inr ha))]; exact hc

theorem drop_cons' {α : Type} {l : List α} {i : Nat} {c : α} (h : l[i]? = some c) : l.drop i = c :: l.drop (i + 1) := by
  obtain ⟨hi, he⟩ := List.getElem?_eq_some_iff.1 h
  rw [List.drop_eq_getElem_cons hi, he]

def SerPost (b v N : Nat) (w : World) (r : Bool × ByteArray × List Int) (e : Ending) (w' : World) : Prop :=
  e = .returned (.bool r.1) ∧ SerW b v N w w' r.2.1 r.2.2

theorem enc_ascii (c : UInt8) (h : c.toNat < 128) : Utf8.encode (c.toNat : Int) = ⟨#[c]⟩ := by
  have hv : Utf8.valid (c.toNat : Int) = true := by unfold Utf8.valid; simp; omega
  unfold Utf8.encode
  simp [hv, h]
theorem SerPost.mk_yes {b v N : Nat} {w w' : World} {r : Bool × ByteArray × List Int} {vs : List Int} {t' : ByteArray} (h : r = ((ser [] t').1, (ser [] t').2.1, vs ++ (ser [] t').2.2)) (hs : SerW b v N w w' t' vs) : SerPost b v N w r (.returned (.bool true)) w' := by
  subst h
  exact ⟨rfl, by simpa [ser] using hs⟩
theorem SerPost.mk_ {b v N : Nat} {w w' : World} {r : Bool × ByteArray × List Int} {p : Bool × ByteArray × List Int} {vs : List Int} {t' : ByteArray} (h : r = (p.1, p.2.1, vs ++ p.2.2)) (h2 : p = (false, t', [])) (hs : SerW b v N w w' t' vs) : SerPost b v N w r (.returned (.bool false)) w' := by
  subst h2
  subst h
  exact ⟨rfl, by simpa using hs⟩

set_option maxHeartbeats 1000000 in
theorem series_any (b v N pb nb mb : Nat) (t sg : ByteArray) (l : List (UInt8 × Nat × Int)) (w : World) (hl : l.length = N)
    (hsg : sg.size = N) (hsc : ∀ (i : Nat) (x : UInt8 × Nat × Int), l[i]? = some x → sg.data.toList[i]? = some x.1 ∧ x.1.toNat < 128 ∧ x.2.1 ≤ 9)
    (hw : SerW b v N w w t []) (hbv : b < v) (hpb : v + N ≤ pb) (hnb : v + N ≤ nb) (hmb : v + N ≤ mb)
    (hp : ∀ i, i < N → w.cell? ⟨pb, i, none⟩ = some (.pointer (some ⟨v + i, 0, none⟩)))
    (hn : ∀ (i : Nat) (x : UInt8 × Nat × Int), l[i]? = some x → w.cell? ⟨nb, i, none⟩ = some (.int .i64 x.2.1))
    (hm : ∀ (i : Nat) (x : UInt8 × Nat × Int), l[i]? = some x → w.cell? ⟨mb, i, none⟩ = some (.int .i64 x.2.2)) (hN : N ≤ 100) :
    Calls Tryd.prog 18 #[.pointer (some ⟨b, 0, none⟩), .string sg, .slice (some ⟨pb, 0, none⟩) N N, .slice (some ⟨nb, 0, none⟩) N N, .slice (some ⟨mb, 0, none⟩) N N] w (SerPost b v N w (ser l t)) := by
  go_enter Tryd.func18, Tryd.ntmps18
  go_wp2
  go_loopg [20] N (fun g k wr => ∃ (i : Nat) (ti : ByteArray) (vs : List Int), vs.length = i ∧ i ≤ N ∧ g = N - i ∧ k = .int .i64 i ∧ SerW b v N w wr ti vs ∧ ser l t = ((ser (l.drop i) ti).1, (ser (l.drop i) ti).2.1, vs ++ (ser (l.drop i) ti).2.2))
  case atStart => exact ⟨0, t, [], rfl, Nat.zero_le _, rfl, rfl, hw, by simp⟩
  case round =>
    obtain ⟨i, ti, vs, hlen, hi, rfl, rfl, hs, he⟩ := hrel
    by_cases hiN : i < N
    · obtain ⟨x, hx⟩ : ∃ x, l[i]? = some x := ⟨_, List.getElem?_eq_getElem (by omega)⟩
      have hp1 := hs.cell hbv (a := ⟨pb, i, none⟩) hpb (hp i hiN)
      obtain ⟨h1, h2, h3⟩ := hsc i x hx
      have hd := drop_cons' hx
      rw [hd] at he
      obtain ⟨c, n, m⟩ := x
      have h2' : c.toNat < 128 := h2
      have h3' : n ≤ 9 := h3
      clear h2 h3
      have hn0 : w.cell? ⟨nb, i, none⟩ = some (.int .i64 n) := hn i _ hx
      have hm0 : w.cell? ⟨mb, i, none⟩ = some (.int .i64 m) := hm i _ hx
      have HE := Lib.hid he
      have HS := Lib.hid hs
      have HL := Lib.hid hlen
      have HN0 := Lib.hid hn0
      have HM0 := Lib.hid hm0
      have hidx : i < sg.size := by omega
      have hgi : sg[i]'hidx = c := by
        have : sg.data.toList[i]? = some (sg[i]'hidx) := by rw [List.getElem?_eq_getElem (by simpa using hidx)]; rfl
        rw [this] at h1; exact Option.some.inj h1
      clear hs he hp hn hm hsc hx hd h1 hn0 hm0 hlen hl hsg
      by_cases hc32 : c = 32
      · have E1 : Hid (ser ((c, n, m) :: l.drop (i + 1)) ti = if wB ti n m then ((ser (l.drop (i + 1)) (nT ti n)).1, (ser (l.drop (i + 1)) (nT ti n)).2.1, nV ti n :: (ser (l.drop (i + 1)) (nT ti n)).2.2) else (false, nT ti n, [])) := by
          show ser _ _ = _
          rw [ser, if_pos hc32]
        subst hc32
        have HS1 := HS
        have hn2 := HS1.out.cell hbv (a := ⟨nb, i, none⟩) hnb HN0.out
        have hm2 := HS1.out.cell hbv (a := ⟨mb, i, none⟩) hmb HM0.out
        have C36 := within_any b ti n m wr.drew HS1.out.txt h3'
        generalize nV ti n = nv at C36 E1
        generalize nT ti n = nt at C36 E1
        generalize wB ti n m = wb at C36 E1
        go_upto_region 9 with (fail)
        go_cut [16, 17] (fun a b' wc => a = .int .i64 nv ∧ b' = .bool wb ∧ SerW b v N w wc nt vs)
        case first =>
          go_region_with (go_at_call 36; refine C36.mono ?_; rintro e w2 ⟨rfl, hg2, hb2⟩; have HS2 := Lib.hid (HS1.out.drew.step hbv hg2 hb2); clear hg2 hb2)
          all_goals (go_wp2_with fail; go_meet; exact ⟨rfl, rfl, HS2.out⟩)
        case rest =>
          obtain ⟨rfl, rfl, hs2⟩ := hcut
          have HS2 := Lib.hid hs2
          have hv0 := hs2.var i hiN
          have hc0 := cell_of_one hv0
          have hf0 := free_of_one hv0
          clear hs2 hv0 hn2 hm2 C36
          cases wb with
          | false =>
            go_wp2
            go_ret
            exact SerPost.mk_ HE.out (by rw [E1.out]; exact rfl) HS2.out
          | true =>
            go_wp2
            go_roundg (N - (i + 1))
            case measure => omega
            case rel => exact ⟨i + 1, nt, vs ++ [nv], by simp [HL.out], by omega, rfl, by go_num, by have := HS2.out.store hbv (by rw [HL.out]; exact hiN) nv; rwa [HL.out] at this, by rw [HE.out, E1.out]; simp⟩
      · have C35 : Calls Tryd.prog 35 #[.pointer (some ⟨b, 0, none⟩), .string (Utf8.encode (c.toNat : Int))] wr (TxtPost b wr (.int .u8 (sgV ti ⟨#[c]⟩)) (.bool (sgB ti ⟨#[c]⟩)) (sgT ti ⟨#[c]⟩)) := by
          rw [enc_ascii c h2']; exact sign_any b ti ⟨#[c]⟩ wr HS.out.txt
        have hne : (((c.toNat : Int)) == 32) = false := by
          apply beq_eq_false_iff_ne.2
          intro h; apply hc32
          apply UInt8.toNat_inj.1
          have : (32 : UInt8).toNat = 32 := rfl
          omega
        have hne2 : (((c.toNat : Int)) != 32) = true := by rw [bne, hne]; rfl
        by_cases hsgb : sgB ti ⟨#[c]⟩ = true
        · have E1 : Hid (ser ((c, n, m) :: l.drop (i + 1)) ti = if wB (sgT ti ⟨#[c]⟩) n m then ((ser (l.drop (i + 1)) (nT (sgT ti ⟨#[c]⟩) n)).1, (ser (l.drop (i + 1)) (nT (sgT ti ⟨#[c]⟩) n)).2.1, nV (sgT ti ⟨#[c]⟩) n :: (ser (l.drop (i + 1)) (nT (sgT ti ⟨#[c]⟩) n)).2.2) else (false, nT (sgT ti ⟨#[c]⟩) n, [])) := by
            show ser _ _ = _
            rw [ser, if_neg hc32, if_pos hsgb]
          rw [hsgb] at C35
          clear hsgb hc32
          generalize sgT ti ⟨#[c]⟩ = t1 at C35 E1
          generalize sgV ti ⟨#[c]⟩ = sv at C35
          go_upto_region 9 with (go_at_call 35; refine C35.mono ?_; rintro e w1 ⟨rfl, hg1, hb1⟩; have HS1 := Lib.hid (HS.out.step hbv hg1 hb1); clear hg1 hb1; have hn2 := HS1.out.cell hbv (a := ⟨nb, i, none⟩) hnb HN0.out; have hm2 := HS1.out.cell hbv (a := ⟨mb, i, none⟩) hmb HM0.out)
          have C36 := within_any b t1 n m w1.drew HS1.out.txt h3'
          generalize nV t1 n = nv at C36 E1
          generalize nT t1 n = nt at C36 E1
          generalize wB t1 n m = wb at C36 E1
          go_cut [16, 17] (fun a b' wc => a = .int .i64 nv ∧ b' = .bool wb ∧ SerW b v N w wc nt vs)
          case first =>
            go_region_with (go_at_call 36; refine C36.mono ?_; rintro e w2 ⟨rfl, hg2, hb2⟩; have HS2 := Lib.hid (HS1.out.drew.step hbv hg2 hb2); clear hg2 hb2)
            all_goals (go_wp2_with fail; go_meet; exact ⟨rfl, rfl, HS2.out⟩)
          case rest =>
            obtain ⟨rfl, rfl, hs2⟩ := hcut
            have HS2 := Lib.hid hs2
            have hv0 := hs2.var i hiN
            have hc0 := cell_of_one hv0
            have hf0 := free_of_one hv0
            clear hs2 hv0 hn2 hm2 C36
            cases wb with
            | false =>
              go_wp2
              go_ret
              exact SerPost.mk_ HE.out (by rw [E1.out]; exact rfl) HS2.out
            | true =>
              go_wp2
              go_roundg (N - (i + 1))
              case measure => omega
              case rel => exact ⟨i + 1, nt, vs ++ [nv], by simp [HL.out], by omega, rfl, by go_num, by have := HS2.out.store hbv (by rw [HL.out]; exact hiN) nv; rwa [HL.out] at this, by rw [HE.out, E1.out]; simp⟩
        · have hsgb : sgB ti ⟨#[c]⟩ = false := by simpa using hsgb
          have E1 : Hid (ser ((c, n, m) :: l.drop (i + 1)) ti = (false, ti, [])) := by
            show ser _ _ = _
            rw [ser, if_neg hc32, if_neg (by rw [hsgb]; simp)]
          have ht : sgT ti ⟨#[c]⟩ = ti := by unfold sgT; rw [hsgb]; rfl
          rw [hsgb, ht] at C35
          clear hsgb hc32 ht
          generalize sgV ti ⟨#[c]⟩ = sv at C35
          go_wp2_with (go_at_call 35; refine C35.mono ?_; rintro e w1 ⟨rfl, hg1, hb1⟩; have HS1 := Lib.hid (HS.out.step hbv hg1 hb1); clear hg1 hb1)
          go_ret
          exact SerPost.mk_ HE.out E1.out HS1.out
    · have e : i = N := by omega
      have hz : l.drop i = [] := List.drop_of_length_le (by omega)
      rw [hz] at he
      have HE := Lib.hid he
      have HS := Lib.hid hs
      clear he hs hp hn hm hsc hz
      subst e
      go_wp2
      go_ret
      exact SerPost.mk_yes HE.out HS.out

end Go.Proofs.YtfcmdameiabjmaaDoor.Txt
