/- The law AtomForeign, walked by hand. Printed by wip/A15/genforeign.py. -/
import Derived.Test.YtcplaafmelcndaaGreatDoorBd4
import Derived.Deep.LoopGhost
set_option linter.unusedVariables false
set_option linter.unusedSimpArgs false
set_option maxRecDepth 20000
namespace Go.Proofs.YtcplaafmelcndaaGreatDoorW.PrintWords
open Go.RowKit
section
variable {P : Program}
theorem cut_to (t e : TypeId) (kh : IntKind) {i : TypeInfo} (ht : P.underlying t = some (.slice e)) (hi : P.info? e = some i) (A : Option Addr) (n c : Nat) (j : Int) (h0 : 0 ≤ j) (hm : j ≤ n) (hc : n ≤ c) :
    ∀ W : World, (Instr.slice t (.slice A n c) none (some (.int kh j)) none).run P W = .ok (.slice A j.toNat c) W := by
  intro W
  have hel : P.elem t = e := by simp [Program.elem, ht]
  have hu : P.underlying t = some (.slice (P.elem t)) := by rw [hel]; exact ht
  have ha : (A.map fun x => x.add 0) = A := by cases A <;> simp [Addr.add]
  rw [run_slice_h W t A n c hu kh j h0 (by omega), hel]
  simp [sizeOf, typeInfo, hi, sliced, Result.andThen, ha]
theorem cut_from (t e : TypeId) (kl : IntKind) {i : TypeInfo} (ht : P.underlying t = some (.slice e)) (hi : P.info? e = some i) (size : Nat) (hsz : i.size = size) (A : Option Addr) (n c : Nat) (j : Int) (h0 : 0 ≤ j) (hm : j ≤ n) :
    ∀ W : World, (Instr.slice t (.slice A n c) (some (.int kl j)) none none).run P W = .ok (.slice (if c = j.toNat then A else A.map (·.add (j.toNat * size))) (n - j.toNat) (c - j.toNat)) W := by
  intro W
  have hel : P.elem t = e := by simp [Program.elem, ht]
  have hu : P.underlying t = some (.slice (P.elem t)) := by rw [hel]; exact ht
  rw [run_slice_l W t A n c hu kl j h0 hm, hel]
  simp [sizeOf, typeInfo, hi, hsz, sliced, Result.andThen]
end
namespace Kd
section
variable {α : Type} {k : Kd α} {w : World} {A : Option Addr} {xs : List α} {m c : Nat}
theorem C_take (h : k.C w A xs.length xs) (hm : m ≤ xs.length) : k.C w A (xs.take m).length (xs.take m) := by
  have hl : (xs.take m).length = m := by rw [List.length_take]; omega
  refine ⟨rfl, by rw [hl]; have := h.2.1; omega, fun hp => ?_⟩
  obtain ⟨ad, e, hc⟩ := h.2.2 (by omega)
  refine ⟨ad, e, fun j p hj => hc j p ?_⟩
  rw [List.getElem?_take] at hj
  split at hj
  · exact hj
  · cases hj
theorem C_drop (h : k.C w A xs.length xs) (hm : m ≤ xs.length) (hc : xs.length ≤ c) : k.C w (if c = m then A else A.map (·.add (m * k.sz))) (xs.drop m).length (xs.drop m) := by
  have hl : (xs.drop m).length = xs.length - m := List.length_drop
  refine ⟨rfl, by rw [hl]; have := h.2.1; omega, fun hp => ?_⟩
  rw [hl] at hp
  obtain ⟨ad, rfl, hcell⟩ := h.2.2 (by omega)
  rw [if_neg (by omega)]
  refine ⟨ad.add (m * k.sz), rfl, fun j p hj => ?_⟩
  rw [List.getElem?_drop] at hj
  obtain ⟨cs, h1, h2, h3⟩ := hcell (m + j) p hj
  refine ⟨cs, h1, h2, fun i u hu => ?_⟩
  rw [add_add, show m * k.sz + (j * k.sz + i) = (m + j) * k.sz + i by rw [Nat.add_mul]; omega]
  exact h3 i u hu
end
end Kd
end Go.Proofs.YtcplaafmelcndaaGreatDoorW.PrintWords
namespace Go.Proofs.YtcplaafmelcndaaGreatDoor.At
open Go.RowKit Go.Lib Go.Proofs.YtcplaafmelcndaaGreatDoor.Pr Go.Proofs.YtcplaafmelcndaaGreatDoor.Opg Go.Proofs.YtcplaafmelcndaaGreatDoorW.PrintWords Go.Proofs.YtcplaafmelcndaaGreatDoorW.PrintLast Go.Proofs.YtcplaafmelcndaaGreatDoorW.PrintMore
/-- A node that is none of Atom, without parts. -/
def leafP (k : Int) (s1 s2 s5 : ByteArray) : Pm := ⟨⟨k, s1, s2, [], [], s5⟩, ⟨k, s1, s2, none, 0, 0, none, 0, 0, s5⟩, rfl, rfl, rfl, rfl, rfl, rfl⟩
def Frg (k : Int) (s1 s2 s5 : ByteArray) : Prop := (∀ name, isV ⟨k, s1, s2, [], [], s5⟩ atomB name = false) ∧ Sm ⟨k, s1, s2, [], [], s5⟩
theorem frg0 : Frg 0 ⟨#[104, 116, 116, 112, 58, 47, 47, 120]⟩ ⟨#[116, 105, 116, 108, 101]⟩ ⟨#[]⟩ := ⟨fun name => by rw [isV_eq, show ((⟨#[104, 116, 116, 112, 58, 47, 47, 120]⟩ : ByteArray).data.toList == atomB.data.toList) = false by decide]; simp, sm_leaf _ ⟨#[104, 116, 116, 112, 58, 47, 47, 120]⟩ ⟨#[116, 105, 116, 108, 101]⟩ ⟨#[]⟩ (by decide) (by decide) (by decide)⟩
theorem frg1 : Frg 2 ⟨#[]⟩ ⟨#[]⟩ ⟨#[105, 100]⟩ := ⟨fun name => by rw [isV_eq]; rfl, sm_leaf _ ⟨#[]⟩ ⟨#[]⟩ ⟨#[105, 100]⟩ (by decide) (by decide) (by decide)⟩
theorem frg2 : Frg 1 ⟨#[]⟩ ⟨#[]⟩ ⟨#[116, 101, 120, 116]⟩ := ⟨fun name => by rw [isV_eq]; rfl, sm_leaf _ ⟨#[]⟩ ⟨#[]⟩ ⟨#[116, 101, 120, 116]⟩ (by decide) (by decide) (by decide)⟩
theorem leaf_K (k : Int) (s1 s2 s5 : ByteArray) (W : World) : k25.K W (leafP k s1 s2 s5).x (leafP k s1 s2 s5).c.enc := k25_mk W ⟨k, s1, s2, [], [], s5⟩ (c3 := 0) (c4 := 0) (A3 := none) (A4 := none) (Nat.le_refl _) (Kd.C_nil _ _) (Nat.le_refl _) (Kd.C_nil _ _)
set_option maxHeartbeats 8000000 in
theorem foreign_c (l : List S36) (A : Option Addr) (c0 : Nat) (x : S25) (A3 : Option Addr) (n3 c3 : Nat) (A4 : Option Addr) (n4 c4 : Nat) (pick : Bool) (at_ wt : Int) (w : World) (hG : LaidW w) (hC : Kd.C k36 w A l.length l) (hc : l.length ≤ c0) (hB : Bits l) (hK : k25.K w x [.int .i64 x.f0, .string x.f1, .string x.f2, .slice A3 n3 c3, .slice A4 n4 c4, .string x.f5]) (hg : Good25 x) (ha0 : 0 ≤ at_) (ha1 : at_ ≤ 255) :
    Calls Tryz.prog 6 #[.slice A l.length c0, .agg #[.int .i64 x.f0, .string x.f1, .string x.f2, .slice A3 n3 c3, .slice A4 n4 c4, .string x.f5], .bool pick, .int .u8 at_, .int .u8 wt] w fun e w' => e = .returned (.bool true) ∧ Below w.heap.size w w' := by
  have HG := Lib.hid hG
  have HA := Lib.hid (And.intro hC (And.intro hc hB))
  have HK := Lib.hid (And.intro hK hg)
  have HAT := Lib.hid (And.intro ha0 ha1)
  clear hG hC hc hB hK hg ha0 ha1
  go_enter Tryz.func6, Tryz.ntmps6
  go_wp2_with (first | ((with_reducible refine gate_dst (N := 6) rfl ?_); refine box_event ?hg (N := 6) ?hd (cs := #[.int .i64 x.f0, .string x.f1, .string x.f2, .slice A3 n3 c3, .slice A4 n4 c4, .string x.f5]) (t := 25) ?hr ?_; (case hd => rfl); (case hg => rfl); (case hr => first | (go_simp; done) | (go_simp; rfl)); intro g4 hg_g4 w1 hx_g4 hb_g4; have H4 := Lib.hid (And.intro hx_g4 (And.intro hg_g4 hb_g4)); clear hx_g4 hg_g4 hb_g4))
  with_reducible refine (awake_e _ (HG.out.step H4.out.2.2)).mono ?_
  rintro e w2 ⟨rfl, hb2⟩
  have HB2 := Lib.hid hb2
  clear hb2
  go_wp2_with fail
  have HM1 := Lib.hid (H4.out.2.2.trans (HB2.out.mono H4.out.2.2.size))
  with_reducible refine (made_c l A c0 false _ (Kd.C_below HA.out.1 HM1.out) HA.out.2.1 HA.out.2.2).mono ?_
  rintro e w3 ⟨xk, B3, m3, d3, B4, m4, d4, rfl, hfk, hsm, hb3⟩
  have HM := Lib.hid (And.intro hfk (And.intro hsm hb3))
  clear hfk hsm hb3
  go_upto_if 21 with (first | ((with_reducible refine gate_dst (N := 12) rfl ?_); refine box_event ?hg (N := 12) ?hd (cs := #[.int .i64 0, .string ⟨#[]⟩, .string ⟨#[]⟩, .slice none 0 0, .slice none 0 0, .string ⟨#[]⟩]) (t := 25) ?hr ?_; (case hd => rfl); (case hg => rfl); (case hr => first | (go_simp; done) | (go_simp; rfl)); intro g8 hg_g8 w4 hx_g8 hb_g8; have HK0 := Lib.hid (And.intro hx_g8 (And.intro hg_g8 hb_g8)); obtain ⟨z0, z1, z2, z3, z4, z5⟩ := box6 hx_g8; have y0 := blk_frozen hx_g8 0; have y1 := blk_frozen hx_g8 1; have y2 := blk_frozen hx_g8 2; have y3 := blk_frozen hx_g8 3; have y4 := blk_frozen hx_g8 4; have y5 := blk_frozen hx_g8 5; clear hx_g8 hg_g8 hb_g8))
  clear z0 z1 z2 z3 z4 z5
  have HW : Hid (Below w3.heap.size w3 ((((((w4.setCell ⟨g8, 0, none⟩ (.int .i64 xk.f0)).setCell ⟨g8, 1, none⟩ (.string xk.f1)).setCell ⟨g8, 2, none⟩ (.string xk.f2)).setCell ⟨g8, 3, none⟩ (.slice B3 m3 d3)).setCell ⟨g8, 4, none⟩ (.slice B4 m4 d4)).setCell ⟨g8, 5, none⟩ (.string xk.f5)) ∧ ((((((w4.setCell ⟨g8, 0, none⟩ (.int .i64 xk.f0)).setCell ⟨g8, 1, none⟩ (.string xk.f1)).setCell ⟨g8, 2, none⟩ (.string xk.f2)).setCell ⟨g8, 3, none⟩ (.slice B3 m3 d3)).setCell ⟨g8, 4, none⟩ (.slice B4 m4 d4)).setCell ⟨g8, 5, none⟩ (.string xk.f5)).heap[g8]? = some (.cells #[.int .i64 xk.f0, .string xk.f1, .string xk.f2, .slice B3 m3 d3, .slice B4 m4 d4, .string xk.f5] 25 (0, 0)) ∧ g8 = w3.heap.size) := Lib.hid ⟨below_set (below_set (below_set (below_set (below_set (below_set HK0.out.2.2 (by rw [HK0.out.2.1]; exact Nat.le_refl _)) (by rw [HK0.out.2.1]; exact Nat.le_refl _)) (by rw [HK0.out.2.1]; exact Nat.le_refl _)) (by rw [HK0.out.2.1]; exact Nat.le_refl _)) (by rw [HK0.out.2.1]; exact Nat.le_refl _)) (by rw [HK0.out.2.1]; exact Nat.le_refl _), blk_put (blk_put (blk_put (blk_put (blk_put (blk_put HK0.out.1 0 _ rfl) 1 _ rfl) 2 _ rfl) 3 _ rfl) 4 _ rfl) 5 _ rfl, HK0.out.2.1⟩
  clear HK0 y0 y1 y2 y3 y4 y5
  generalize ((((((w4.setCell ⟨g8, 0, none⟩ (.int .i64 xk.f0)).setCell ⟨g8, 1, none⟩ (.string xk.f1)).setCell ⟨g8, 2, none⟩ (.string xk.f2)).setCell ⟨g8, 3, none⟩ (.slice B3 m3 d3)).setCell ⟨g8, 4, none⟩ (.slice B4 m4 d4)).setCell ⟨g8, 5, none⟩ (.string xk.f5)) = w5 at HW ⊢
  have HB5 := Lib.hid ((HM1.out.trans (HM.out.2.2.mono HM1.out.size)).trans (HW.out.1.mono (Nat.le_trans HM1.out.size HM.out.2.2.size)))
  go_cut [] (fun wc => ∃ y c, MN w wc g8 y c)
  case first =>
    cases pick
    case false =>
      go_wp2_with fail
      go_meet
      case rel => exact mn_of HB5.out (Kd.FK_now HM.out.1) HW.out.1 HW.out.2.1 (sm_good HM.out.2.1)
    case true =>
      have q4 := blk_below H4.out.1 (HB2.out.trans ((HM.out.2.2.trans (HW.out.1.mono HM.out.2.2.size)).mono HB2.out.size))
      obtain ⟨z0, z1, z2, z3, z4, z5⟩ := box6 q4
      obtain ⟨t0, t1, t2, t3, t4, t5⟩ := box6 HW.out.2.1
      have y0 := blk_frozen HW.out.2.1 0
      have y1 := blk_frozen HW.out.2.1 1
      have y2 := blk_frozen HW.out.2.1 2
      have y3 := blk_frozen HW.out.2.1 3
      have y4 := blk_frozen HW.out.2.1 4
      have y5 := blk_frozen HW.out.2.1 5
      clear q4
      have hge : w.heap.size ≤ g8 := by rw [HW.out.2.2]; exact Nat.le_trans HM1.out.size HM.out.2.2.size
      have HGE := Lib.hid hge
      clear hge
      go_wp2_with fail
      go_meet
      case rel => exact mn_of (below_set (below_set (below_set (below_set (below_set (below_set HB5.out HGE.out) HGE.out) HGE.out) HGE.out) HGE.out) HGE.out) HK.out.1 (below_set (below_set (below_set (below_set (below_set (below_set HB5.out HGE.out) HGE.out) HGE.out) HGE.out) HGE.out) HGE.out) (blk_put (blk_put (blk_put (blk_put (blk_put (blk_put HW.out.2.1 0 _ rfl) 1 _ rfl) 2 _ rfl) 3 _ rfl) 4 _ rfl) 5 _ rfl) HK.out.2
  case rest =>
    clear HW HB5 HM HM1 HB2 HK HA
    obtain ⟨y, c, hz⟩ := hcut
    have HN := Lib.hid hz
    have HY := Lib.hid hz.2.2.2.2
    clear hz
    obtain ⟨z0, z1, z2, z3, z4, z5⟩ := box6 HN.out.2.1
    go_wp2_with fail
    have HKY : Hid (k25.K wc y [.int .i64 y.f0, .string y.f1, .string y.f2, .slice c.A3 c.n3 c.c3, .slice c.A4 c.n4 c.c4, .string y.f5]) := by
      have h := HN.out.2.2.1
      obtain ⟨h0, h1, h2, h3, h4, h5⟩ := HY.out
      rw [← h0, ← h1, ← h2, ← h5]
      exact h
    have HSZ := Lib.hid (size_c y c.A3 c.n3 c.c3 c.A4 c.n4 c.c4 wc HN.out.2.2.2.1 HKY.out)
    have HSZ2 : Hid (Calls Tryz.prog 8 #[.agg #[.int .i64 c.f0, .string c.f1, .string c.f2, .slice c.A3 c.n3 c.c3, .slice c.A4 c.n4 c.c4, .string c.f5], .int .i64 3000] wc fun e w' => ∃ t : Int, e = .returned (.int .i64 t) ∧ (t ≤ 3000 → Sm y ∧ y.f4.length ≤ 2999) ∧ Below wc.heap.size wc w') := by
      have h := HSZ.out
      obtain ⟨h0, h1, h2, h3, h4, h5⟩ := HY.out
      rw [← h0, ← h1, ← h2, ← h5] at h
      exact h
    clear HSZ
    refine HSZ2.out.mono ?_
    rintro e w6 ⟨t, rfl, hs, hb6⟩
    have HS := Lib.hid hs
    clear hs HSZ2 z0 z1 z2 z3 z4 z5 HKY
    have HN := Lib.hid (HN.out.step hb6)
    have HG6 := Lib.hid (HG.out.step HN.out.1)
    clear hb6
    by_cases ht : 3000 < t
    case pos =>
      have d1 : decide (3000 < t) = true := decide_eq_true ht
      clear ht
      go_wp2_with fail
      go_ret
      exact ⟨rfl, HN.out.1⟩
    have d1 : decide (3000 < t) = false := decide_eq_false ht
    have HSM := Lib.hid (HS.out (by omega)).1
    have HLN := Lib.hid (HS.out (by omega)).2
    clear ht HS
    obtain ⟨z0, z1, z2, z3, z4, z5⟩ := box6 HN.out.2.1
    go_upto_if 30 with (first | ((with_reducible refine gate_dst (N := 13) rfl ?_); refine box_event ?hg (N := 13) ?hd (cs := #[.int .i64 0, .string ⟨#[]⟩, .string ⟨#[]⟩, .slice none 0 0, .slice none 0 0, .string ⟨#[]⟩]) (t := 25) ?hr ?_; (case hd => rfl); (case hg => rfl); (case hr => first | (go_simp; done) | (go_simp; rfl)); intro g13 hg_g13 w7 hx_g13 hb_g13; have HK0 := Lib.hid (And.intro hx_g13 (And.intro hg_g13 hb_g13)); obtain ⟨t0, t1, t2, t3, t4, t5⟩ := box6 hx_g13; have y0 := blk_frozen hx_g13 0; have y1 := blk_frozen hx_g13 1; have y2 := blk_frozen hx_g13 2; have y3 := blk_frozen hx_g13 3; have y4 := blk_frozen hx_g13 4; have y5 := blk_frozen hx_g13 5; clear hx_g13 hg_g13 hb_g13))
    have HGE : Hid (w6.heap.size ≤ g13) := by rw [HK0.out.2.1]; exact Nat.le_refl _
    have HM : Hid (Below w6.heap.size w6 ((((((w7.setCell ⟨g13, 0, none⟩ (.int .i64 0)).setCell ⟨g13, 1, none⟩ (.string ⟨#[104, 116, 116, 112, 58, 47, 47, 120]⟩)).setCell ⟨g13, 2, none⟩ (.string ⟨#[116, 105, 116, 108, 101]⟩)).setCell ⟨g13, 3, none⟩ (.slice none 0 0)).setCell ⟨g13, 4, none⟩ (.slice none 0 0)).setCell ⟨g13, 5, none⟩ (.string ⟨#[]⟩)) ∧ ((((((w7.setCell ⟨g13, 0, none⟩ (.int .i64 0)).setCell ⟨g13, 1, none⟩ (.string ⟨#[104, 116, 116, 112, 58, 47, 47, 120]⟩)).setCell ⟨g13, 2, none⟩ (.string ⟨#[116, 105, 116, 108, 101]⟩)).setCell ⟨g13, 3, none⟩ (.slice none 0 0)).setCell ⟨g13, 4, none⟩ (.slice none 0 0)).setCell ⟨g13, 5, none⟩ (.string ⟨#[]⟩)).heap[g13]? = some (.cells #[.int .i64 0, .string ⟨#[104, 116, 116, 112, 58, 47, 47, 120]⟩, .string ⟨#[116, 105, 116, 108, 101]⟩, .slice none 0 0, .slice none 0 0, .string ⟨#[]⟩] 25 (0, 0))) := Lib.hid ⟨below_set (below_set (below_set (below_set (below_set (below_set HK0.out.2.2 HGE.out) HGE.out) HGE.out) HGE.out) HGE.out) HGE.out, blk_put (blk_put (blk_put (blk_put (blk_put (blk_put HK0.out.1 0 _ rfl) 1 _ rfl) 2 _ rfl) 3 _ rfl) 4 _ rfl) 5 _ rfl⟩
    clear HK0 z0 z1 z2 z3 z4 z5 t0 t1 t2 t3 t4 t5 y0 y1 y2 y3 y4 y5 d1
    generalize ((((((w7.setCell ⟨g13, 0, none⟩ (.int .i64 0)).setCell ⟨g13, 1, none⟩ (.string ⟨#[104, 116, 116, 112, 58, 47, 47, 120]⟩)).setCell ⟨g13, 2, none⟩ (.string ⟨#[116, 105, 116, 108, 101]⟩)).setCell ⟨g13, 3, none⟩ (.slice none 0 0)).setCell ⟨g13, 4, none⟩ (.slice none 0 0)).setCell ⟨g13, 5, none⟩ (.string ⟨#[]⟩)) = w8 at HM ⊢
    cases h1 : (Int.tmod wt 3 == 1)
    case' true =>
      obtain ⟨t0, t1, t2, t3, t4, t5⟩ := box6 HM.out.2
      have y0 := blk_frozen HM.out.2 0
      have y1 := blk_frozen HM.out.2 1
      have y2 := blk_frozen HM.out.2 2
      have y3 := blk_frozen HM.out.2 3
      have y4 := blk_frozen HM.out.2 4
      have y5 := blk_frozen HM.out.2 5
      go_upto_region 15 with fail
      clear t0 t1 t2 t3 t4 t5 y0 y1 y2 y3 y4 y5
      have HM2 : Hid (Below w6.heap.size w6 ((((((w8.setCell ⟨g13, 0, none⟩ (.int .i64 2)).setCell ⟨g13, 1, none⟩ (.string ⟨#[]⟩)).setCell ⟨g13, 2, none⟩ (.string ⟨#[]⟩)).setCell ⟨g13, 3, none⟩ (.slice none 0 0)).setCell ⟨g13, 4, none⟩ (.slice none 0 0)).setCell ⟨g13, 5, none⟩ (.string ⟨#[105, 100]⟩)) ∧ ((((((w8.setCell ⟨g13, 0, none⟩ (.int .i64 2)).setCell ⟨g13, 1, none⟩ (.string ⟨#[]⟩)).setCell ⟨g13, 2, none⟩ (.string ⟨#[]⟩)).setCell ⟨g13, 3, none⟩ (.slice none 0 0)).setCell ⟨g13, 4, none⟩ (.slice none 0 0)).setCell ⟨g13, 5, none⟩ (.string ⟨#[105, 100]⟩)).heap[g13]? = some (.cells #[.int .i64 2, .string ⟨#[]⟩, .string ⟨#[]⟩, .slice none 0 0, .slice none 0 0, .string ⟨#[105, 100]⟩] 25 (0, 0))) := Lib.hid ⟨below_set (below_set (below_set (below_set (below_set (below_set HM.out.1 HGE.out) HGE.out) HGE.out) HGE.out) HGE.out) HGE.out, blk_put (blk_put (blk_put (blk_put (blk_put (blk_put HM.out.2 0 _ rfl) 1 _ rfl) 2 _ rfl) 3 _ rfl) 4 _ rfl) 5 _ rfl⟩
      generalize ((((((w8.setCell ⟨g13, 0, none⟩ (.int .i64 2)).setCell ⟨g13, 1, none⟩ (.string ⟨#[]⟩)).setCell ⟨g13, 2, none⟩ (.string ⟨#[]⟩)).setCell ⟨g13, 3, none⟩ (.slice none 0 0)).setCell ⟨g13, 4, none⟩ (.slice none 0 0)).setCell ⟨g13, 5, none⟩ (.string ⟨#[105, 100]⟩)) = w9 at HM2 ⊢
      have HF : ∃ k s1 s2 s5, Frg k s1 s2 s5 ∧ Below w6.heap.size w6 w9 ∧ w9.heap[g13]? = some (.cells #[.int .i64 k, .string s1, .string s2, .slice none 0 0, .slice none 0 0, .string s5] 25 (0, 0)) := ⟨_, _, _, _, frg1, HM2.out.1, HM2.out.2⟩
      clear HM HM2
    case' false =>
      cases h2 : (Int.tmod wt 3 == 2)
      case' true =>
        obtain ⟨t0, t1, t2, t3, t4, t5⟩ := box6 HM.out.2
        have y0 := blk_frozen HM.out.2 0
        have y1 := blk_frozen HM.out.2 1
        have y2 := blk_frozen HM.out.2 2
        have y3 := blk_frozen HM.out.2 3
        have y4 := blk_frozen HM.out.2 4
        have y5 := blk_frozen HM.out.2 5
        go_upto_region 15 with fail
        clear t0 t1 t2 t3 t4 t5 y0 y1 y2 y3 y4 y5
        have HM2 : Hid (Below w6.heap.size w6 ((((((w8.setCell ⟨g13, 0, none⟩ (.int .i64 1)).setCell ⟨g13, 1, none⟩ (.string ⟨#[]⟩)).setCell ⟨g13, 2, none⟩ (.string ⟨#[]⟩)).setCell ⟨g13, 3, none⟩ (.slice none 0 0)).setCell ⟨g13, 4, none⟩ (.slice none 0 0)).setCell ⟨g13, 5, none⟩ (.string ⟨#[116, 101, 120, 116]⟩)) ∧ ((((((w8.setCell ⟨g13, 0, none⟩ (.int .i64 1)).setCell ⟨g13, 1, none⟩ (.string ⟨#[]⟩)).setCell ⟨g13, 2, none⟩ (.string ⟨#[]⟩)).setCell ⟨g13, 3, none⟩ (.slice none 0 0)).setCell ⟨g13, 4, none⟩ (.slice none 0 0)).setCell ⟨g13, 5, none⟩ (.string ⟨#[116, 101, 120, 116]⟩)).heap[g13]? = some (.cells #[.int .i64 1, .string ⟨#[]⟩, .string ⟨#[]⟩, .slice none 0 0, .slice none 0 0, .string ⟨#[116, 101, 120, 116]⟩] 25 (0, 0))) := Lib.hid ⟨below_set (below_set (below_set (below_set (below_set (below_set HM.out.1 HGE.out) HGE.out) HGE.out) HGE.out) HGE.out) HGE.out, blk_put (blk_put (blk_put (blk_put (blk_put (blk_put HM.out.2 0 _ rfl) 1 _ rfl) 2 _ rfl) 3 _ rfl) 4 _ rfl) 5 _ rfl⟩
        generalize ((((((w8.setCell ⟨g13, 0, none⟩ (.int .i64 1)).setCell ⟨g13, 1, none⟩ (.string ⟨#[]⟩)).setCell ⟨g13, 2, none⟩ (.string ⟨#[]⟩)).setCell ⟨g13, 3, none⟩ (.slice none 0 0)).setCell ⟨g13, 4, none⟩ (.slice none 0 0)).setCell ⟨g13, 5, none⟩ (.string ⟨#[116, 101, 120, 116]⟩)) = w9 at HM2 ⊢
        have HF : ∃ k s1 s2 s5, Frg k s1 s2 s5 ∧ Below w6.heap.size w6 w9 ∧ w9.heap[g13]? = some (.cells #[.int .i64 k, .string s1, .string s2, .slice none 0 0, .slice none 0 0, .string s5] 25 (0, 0)) := ⟨_, _, _, _, frg2, HM2.out.1, HM2.out.2⟩
        clear HM HM2
      case' false =>
        go_upto_region 15 with fail
        have HF : ∃ k s1 s2 s5, Frg k s1 s2 s5 ∧ Below w6.heap.size w6 w8 ∧ w8.heap[g13]? = some (.cells #[.int .i64 k, .string s1, .string s2, .slice none 0 0, .slice none 0 0, .string s5] 25 (0, 0)) := ⟨_, _, _, _, frg0, HM.out.1, HM.out.2⟩
        clear HM
        generalize w8 = w9 at HF ⊢
    all_goals
      obtain ⟨fk, s1, s2, s5, hF, hbF, hcF⟩ := HF
      have HF := Lib.hid (And.intro hF hcF)
      have HN := Lib.hid (HN.out.step hbF)
      have HG9 := Lib.hid (HG6.out.step hbF)
      clear hF hbF hcF
      obtain ⟨Z, hZ1, hZ2, hZ3⟩ := kids_of (z := ⟨y, c, HY.out.1, HY.out.2.1, HY.out.2.2.1, HY.out.2.2.2.1, HY.out.2.2.2.2.1, HY.out.2.2.2.2.2⟩) HN.out.2.2.1
      have HZ := Lib.hid (And.intro hZ1 (And.intro hZ2 hZ3))
      have HZ4 : Hid (c.n4 = Z.length) := hZ3
      have HZL : Hid (Z.length ≤ 3000) := by rw [← HZ4.out, HY.out.2.2.2.2.1]; exact HSM.out.len
      clear hZ1 hZ2 hZ3
      have hn4 : c.n4 ≤ 3000 := by rw [HZ4.out]; exact HZL.out
      have ha0 : 0 ≤ at_ := HAT.out.1
      have ha1 : at_ ≤ 255 := HAT.out.2
      obtain ⟨z0, z1, z2, z3, z4, z5⟩ := box6 HN.out.2.1
      go_upto_region 16 with fail
      clear z0 z1 z2 z3 z4 z5
      obtain ⟨kk, hk1, hk2⟩ : ∃ kk : Nat, at_ % ((c.n4 : Int) + 1) = (kk : Int) ∧ kk ≤ c.n4 := by
        have e1 := Int.emod_nonneg at_ (show ((c.n4 : Int) + 1) ≠ 0 by omega)
        have e2 := Int.emod_lt_of_pos at_ (show 0 < ((c.n4 : Int) + 1) by omega)
        exact ⟨(at_ % ((c.n4 : Int) + 1)).toNat, (Int.toNat_of_nonneg e1).symm, by omega⟩
      rw [hk1]
      clear hk1 ha0 ha1
      obtain ⟨l3, g3, l4, g4'⟩ := pm_rows ⟨y, c, HY.out.1, HY.out.2.1, HY.out.2.2.1, HY.out.2.2.2.1, HY.out.2.2.2.2.1, HY.out.2.2.2.2.2⟩ HN.out.2.2.1
      have hroom : c.n4 ≤ c.c4 := by rw [HY.out.2.2.2.2.1]; exact l4
      clear l3 g3 l4 g4'
      obtain ⟨i0, hi0, _, hsz, _⟩ := info_parts info25
      have hcut1 : ∀ W : World, (Instr.slice 23 (.slice c.A4 c.n4 c.c4) none (some (.int .i64 (kk : Int))) none).run Tryz.prog W = .ok (.slice c.A4 kk c.c4) W := fun W => by
        have := cut_to (P := Tryz.prog) 23 25 .i64 Tryz.underlying23 hi0 c.A4 c.n4 c.c4 (kk : Int) (by omega) (by omega) hroom W
        rwa [Int.toNat_natCast] at this
      obtain ⟨A7, hA7⟩ : ∃ A7, A7 = (if c.c4 = kk then c.A4 else c.A4.map (·.add (kk * 6))) := ⟨_, rfl⟩
      have hcut2 : ∀ W : World, (Instr.slice 23 (.slice c.A4 c.n4 c.c4) (some (.int .i64 (kk : Int))) none none).run Tryz.prog W = .ok (.slice A7 (c.n4 - kk) (c.c4 - kk)) W := fun W => by
        have := cut_from (P := Tryz.prog) 23 25 .i64 Tryz.underlying23 hi0 6 hsz c.A4 c.n4 c.c4 (kk : Int) (by omega) (by omega) W
        rwa [Int.toNat_natCast, ← hA7] at this
      have hlz : (Z.map (·.c)).length = Z.length := List.length_map ..
      have hcz : Kd.C kCel w9 c.A4 (Z.map (·.c)).length (Z.map (·.c)) := by rw [hlz]; exact HZ.out.2.1.cels
      have HC1 : Hid (Kd.C kCel w9 c.A4 kk ((Z.take kk).map (·.c))) := by
        have := Kd.C_take (m := kk) hcz (by have := HZ4.out; omega)
        rw [← List.map_take, List.length_map, List.length_take, show min kk Z.length = kk by have := HZ4.out; omega] at this
        exact this
      have HC2 : Hid (Kd.C kCel w9 A7 (c.n4 - kk) ((Z.drop kk).map (·.c))) := by
        have := Kd.C_drop (m := kk) (c := c.c4) hcz (by have := HZ4.out; omega) (by have := HZ4.out; omega)
        rw [← List.map_drop, List.length_map, List.length_drop, ← HZ4.out] at this
        rw [hA7]
        exact this
      have HKN : Hid (kk ≤ c.n4) := hk2
      have HCUT1 := Lib.hid hcut1
      have HCUT2 := Lib.hid hcut2
      clear hcut1 hcut2 hA7 hlz hcz hi0 hsz hroom hk2 hn4
      obtain ⟨z0, z1, z2, z3, z4, z5⟩ := box6 HN.out.2.1
      go_upto_region 18 with (first | ((with_reducible refine gate_dst (N := 15) rfl ?_); refine box_event ?hg (N := 15) ?hd (cs := #[.int .i64 0, .string ⟨#[]⟩, .string ⟨#[]⟩, .slice none 0 0, .slice none 0 0, .string ⟨#[]⟩]) (t := 25) ?hr ?_; (case hd => rfl); (case hg => rfl); (case hr => first | (go_simp; done) | (go_simp; rfl)); intro g15 hg_g15 w10 hx_g15 hb_g15; have HK0 := Lib.hid (And.intro hx_g15 (And.intro hg_g15 hb_g15)); obtain ⟨t0, t1, t2, t3, t4, t5⟩ := box6 hx_g15; have y0 := blk_frozen hx_g15 0; have y1 := blk_frozen hx_g15 1; have y2 := blk_frozen hx_g15 2; have y3 := blk_frozen hx_g15 3; have y4 := blk_frozen hx_g15 4; have y5 := blk_frozen hx_g15 5; clear hx_g15 hg_g15 hb_g15))
      have HK := Lib.hid (MO.start (c := c) HN.out.2.1 HK0.out.1 HK0.out.2.1 HK0.out.2.2)
      clear HK0 z0 z1 z2 z3 z4 z5 t0 t1 t2 t3 t4 t5 y0 y1 y2 y3 y4 y5
      generalize (((((((w10.setCell ⟨g15, 0, none⟩ (.int .i64 c.f0)).setCell ⟨g15, 1, none⟩ (.string c.f1)).setCell ⟨g15, 2, none⟩ (.string c.f2)).setCell ⟨g15, 3, none⟩ (.slice c.A3 c.n3 c.c3)).setCell ⟨g15, 4, none⟩ (.slice c.A4 c.n4 c.c4)).setCell ⟨g15, 5, none⟩ (.string c.f5)).setCell ⟨g15, 4, none⟩ (.slice none 0 0)) = w11 at HK ⊢
      have hcut := HCUT1.out
      go_wp2_with fail
      have HK := Lib.hid (HK.out.step (below_drew (Below.refl _ _)))
      refine start_ (n := 9) (S := fun w' => w'.cell? ⟨g15, 4, none⟩ = some (.slice none 0 0) ∧ w'.cell? ⟨g8, 4, none⟩ = some (.slice c.A4 c.n4 c.c4)) (ds := [8]) #[false, false, false, false, false, false, false, false, false] (by kernel_rfl) rfl rfl ⟨HK.out.c4.1, HK.out.k4⟩ (fun hHeld => ?_)
      generalize hwd_ : World.drew _ = w12 at HK hHeld ⊢
      clear hwd_
      refine pure_ (i := 0) (N := some 45) (v := ?_) (a' := ?_) #[true, false, false, false, false, false, false, false, false] rfl rfl (by kernel_rfl) (fun _ _ _ h => h) (Or.inl ⟨by rfl, ?_⟩) ?_ ?_
      rotate_left
      · intro w'
        go_simp
        with_reducible rfl
      rotate_left
      · simp only [Act.put, List.setIfInBounds_toArray, List.set_cons_zero, List.set_cons_succ, i64_w, i32_w]
        rfl
      refine pure_ (i := 2) (N := some 47) (v := ?_) (a' := ?_) #[true, false, true, false, false, false, false, false, false] rfl rfl (by kernel_rfl) (fun _ _ _ h => h) (Or.inl ⟨by rfl, ?_⟩) ?_ ?_
      rotate_left
      · intro w'
        go_simp
        with_reducible rfl
      rotate_left
      · simp only [Act.put, List.setIfInBounds_toArray, List.set_cons_zero, List.set_cons_succ, i64_w, i32_w]
        rfl
      refine pure_ (i := 4) (N := some 49) (v := ?_) (a' := ?_) #[true, false, true, false, true, false, false, false, false] rfl rfl (by kernel_rfl) (fun _ _ _ h => h) (Or.inl ⟨by rfl, ?_⟩) ?_ ?_
      rotate_left
      · intro w'
        go_simp
        with_reducible rfl
      rotate_left
      · simp only [Act.put, List.setIfInBounds_toArray, List.set_cons_zero, List.set_cons_succ, i64_w, i32_w]
        rfl
      refine take_ (i := 1) (N := some 46) (v := ?_) (a' := ?_) #[true, true, true, false, true, false, false, false, false] rfl rfl (by kernel_rfl) (fun _ _ _ h => h) (Or.inl ⟨by rfl, ?_⟩) hHeld ?_ ?_
      rotate_left
      · rintro w' ⟨s0, s1⟩
        go_simp
        with_reducible rfl
      rotate_left
      · simp only [Act.put, List.setIfInBounds_toArray, List.set_cons_zero, List.set_cons_succ, i64_w, i32_w]
        rfl
      refine take_ (i := 3) (N := some 48) (v := ?_) (a' := ?_) #[true, true, true, true, true, false, false, false, false] rfl rfl (by kernel_rfl) (fun _ _ _ h => h) (Or.inl ⟨by rfl, ?_⟩) hHeld ?_ ?_
      rotate_left
      · rintro w' ⟨s0, s1⟩
        go_simp
        with_reducible rfl
      rotate_left
      · simp only [Act.put, List.setIfInBounds_toArray, List.set_cons_zero, List.set_cons_succ, i64_w, i32_w]
        rfl
      refine pure_ (i := 5) (N := some 50) (v := ?_) (a' := ?_) #[true, true, true, true, true, true, false, false, false] rfl rfl (by kernel_rfl) (fun _ _ _ h => h) (Or.inl ⟨by rfl, ?_⟩) ?_ ?_
      rotate_left
      · intro w'
        go_simp
        with_reducible rfl
      rotate_left
      · simp only [Act.put, List.setIfInBounds_toArray, List.set_cons_zero, List.set_cons_succ, i64_w, i32_w]
        rfl
      refine one_ (i := 6) (N := some 51) #[true, true, true, true, true, true, true, false, false] rfl rfl (by kernel_rfl) (by decide) (fun K hK => ?_)
      clear hcut
      refine MO.app_step (s := .tmp 46) (y := .tmp 50) (k' := c.c4) (N := 51) (Z' := Z.take kk) HK.out ?hw ?hd ?ho ?hs ?hx (Kd.C_below HC1.out HK.out.bw) (by have := HKN.out; have := HZ4.out; have := HZL.out; show 0 + kk ≤ _; omega) ?_
      (case hw => rfl)
      (case hd => rfl)
      (case ho => rfl)
      (case hs => rfl)
      (case hx => rfl)
      intro A1 m1 k1 w13 hc4 hf4 hb22 hg8 hk
      have hk4 : w13.cell? ⟨g8, 4, none⟩ = some (.slice c.A4 c.n4 c.c4) := (blk_cell (hg8.trans HK.out.b8) 4).trans rfl
      clear HK
      have HK := Lib.hid hk
      clear hk hg8
      refine hK.out _ _ ⟨hc4, hk4⟩ (fun hHeld => ?_)
      clear hK K
      refine norm_ (a' := ?_) ?_ ?_
      rotate_left
      · show Act.put _ (some 51) _ = _
        simp only [Act.put, List.setIfInBounds_toArray, List.set_cons_zero, List.set_cons_succ, i64_w, i32_w]
        rfl
      refine pure_ (i := 7) (N := some 52) (v := ?_) (a' := ?_) #[true, true, true, true, true, true, true, true, false] rfl rfl (by kernel_rfl) (fun _ _ _ h => h) (Or.inl ⟨by rfl, ?_⟩) ?_ ?_
      rotate_left
      · intro w'
        go_simp
        with_reducible rfl
      rotate_left
      · simp only [Act.put, List.setIfInBounds_toArray, List.set_cons_zero, List.set_cons_succ, i64_w, i32_w]
        rfl
      refine last_ (i := 8) (N := none) #[true, true, true, true, true, true, true, true, true] rfl rfl (by kernel_rfl) (by decide) (fun K hK => ?_)
      refine skip_ (w1 := ?_) (by rfl) rfl ?_ ?_
      rotate_left
      · go_simp
        rfl
      refine hK.out _ _ ?_
      clear hK K
      refine done_ (by kernel_rfl) ?_
      generalize (w13.setCell ⟨g15, 4, none⟩ (.slice A1 m1 k1)) = w13x at HK ⊢
      clear hc4 hf4 hb22 hk4 hHeld
      obtain ⟨t4, y4⟩ := HK.out.c4
      obtain ⟨z0, z1, z2, z3, z4, z5⟩ := box6 (blk_below HF.out.2 HK.out.bw)
      go_upto_region 20 with (first | ((with_reducible refine gate_dst (N := 56) rfl ?_); refine MO.lit1 (z := leafP fk s1 s2 s5) (N := 56) HK.out ?hg ?hd ?hr ?_; (case hg => rfl); (case hd => rfl); (case hr => first | (go_simp; done) | (go_simp; rfl)); intro A56 k56 w14 hk hf; clear HK; have HK := Lib.hid hk; have HFL := Lib.hid hf; clear hk hf t4 y4 z0 z1 z2 z3 z4 z5) | ((with_reducible refine gate_dst (N := 57) rfl ?_); refine MO.app (s := .tmp 54) (y := .tmp 56) (k' := k56) (N := 57) (Z' := [leafP fk s1 s2 s5]) HK.out ?hg ?hd ?ho ?hs ?hx HFL.out (by have := HKN.out; have := HZ4.out; have := HZL.out; rw [List.length_append, List.length_take]; show _ + 1 ≤ _; simp only [List.length_nil]; omega) ?_; (case hg => rfl); (case hd => rfl); (case ho => rfl); (case hs => rfl); (case hx => rfl); intro A57 m57 k57 w15 hc4 hf4 hk; clear HK; have HK := Lib.hid hk; clear hk HFL))
      generalize (w15.setCell ⟨g15, 4, none⟩ (.slice A57 m57 k57)) = w16 at HK ⊢
      clear hc4 hf4
      have hcut := HCUT2.out
      go_wp2_with fail
      have HK := Lib.hid (HK.out.step (below_drew (Below.refl _ _)))
      refine start_ (n := 9) (S := fun w' => w'.cell? ⟨g15, 4, none⟩ = some (.slice A57 m57 k57) ∧ w'.cell? ⟨g8, 4, none⟩ = some (.slice c.A4 c.n4 c.c4)) (ds := [8]) #[false, false, false, false, false, false, false, false, false] (by kernel_rfl) rfl rfl ⟨HK.out.c4.1, HK.out.k4⟩ (fun hHeld => ?_)
      generalize hwd_ : World.drew _ = w17 at HK hHeld ⊢
      clear hwd_
      refine pure_ (i := 0) (N := some 59) (v := ?_) (a' := ?_) #[true, false, false, false, false, false, false, false, false] rfl rfl (by kernel_rfl) (fun _ _ _ h => h) (Or.inl ⟨by rfl, ?_⟩) ?_ ?_
      rotate_left
      · intro w'
        go_simp
        with_reducible rfl
      rotate_left
      · simp only [Act.put, List.setIfInBounds_toArray, List.set_cons_zero, List.set_cons_succ, i64_w, i32_w]
        rfl
      refine pure_ (i := 2) (N := some 61) (v := ?_) (a' := ?_) #[true, false, true, false, false, false, false, false, false] rfl rfl (by kernel_rfl) (fun _ _ _ h => h) (Or.inl ⟨by rfl, ?_⟩) ?_ ?_
      rotate_left
      · intro w'
        go_simp
        with_reducible rfl
      rotate_left
      · simp only [Act.put, List.setIfInBounds_toArray, List.set_cons_zero, List.set_cons_succ, i64_w, i32_w]
        rfl
      refine pure_ (i := 4) (N := some 63) (v := ?_) (a' := ?_) #[true, false, true, false, true, false, false, false, false] rfl rfl (by kernel_rfl) (fun _ _ _ h => h) (Or.inl ⟨by rfl, ?_⟩) ?_ ?_
      rotate_left
      · intro w'
        go_simp
        with_reducible rfl
      rotate_left
      · simp only [Act.put, List.setIfInBounds_toArray, List.set_cons_zero, List.set_cons_succ, i64_w, i32_w]
        rfl
      refine take_ (i := 1) (N := some 60) (v := ?_) (a' := ?_) #[true, true, true, false, true, false, false, false, false] rfl rfl (by kernel_rfl) (fun _ _ _ h => h) (Or.inl ⟨by rfl, ?_⟩) hHeld ?_ ?_
      rotate_left
      · rintro w' ⟨s0, s1⟩
        go_simp
        with_reducible rfl
      rotate_left
      · simp only [Act.put, List.setIfInBounds_toArray, List.set_cons_zero, List.set_cons_succ, i64_w, i32_w]
        rfl
      refine take_ (i := 3) (N := some 62) (v := ?_) (a' := ?_) #[true, true, true, true, true, false, false, false, false] rfl rfl (by kernel_rfl) (fun _ _ _ h => h) (Or.inl ⟨by rfl, ?_⟩) hHeld ?_ ?_
      rotate_left
      · rintro w' ⟨s0, s1⟩
        go_simp
        with_reducible rfl
      rotate_left
      · simp only [Act.put, List.setIfInBounds_toArray, List.set_cons_zero, List.set_cons_succ, i64_w, i32_w]
        rfl
      refine pure_ (i := 5) (N := some 64) (v := ?_) (a' := ?_) #[true, true, true, true, true, true, false, false, false] rfl rfl (by kernel_rfl) (fun _ _ _ h => h) (Or.inl ⟨by rfl, ?_⟩) ?_ ?_
      rotate_left
      · intro w'
        go_simp
        with_reducible rfl
      rotate_left
      · simp only [Act.put, List.setIfInBounds_toArray, List.set_cons_zero, List.set_cons_succ, i64_w, i32_w]
        rfl
      refine one_ (i := 6) (N := some 65) #[true, true, true, true, true, true, true, false, false] rfl rfl (by kernel_rfl) (by decide) (fun K hK => ?_)
      clear hcut
      refine MO.app_step (s := .tmp 60) (y := .tmp 64) (k' := c.c4 - kk) (N := 65) (Z' := Z.drop kk) HK.out ?hw ?hd ?ho ?hs ?hx (Kd.C_below HC2.out HK.out.bw) (by have := HKN.out; have := HZ4.out; have := HZL.out; rw [List.length_append, List.length_append, List.length_take]; simp only [List.length_nil, List.length_cons]; omega) ?_
      (case hw => rfl)
      (case hd => rfl)
      (case ho => rfl)
      (case hs => rfl)
      (case hx => rfl)
      intro A2 m2 k2 w18 hc4 hf4 hb22 hg8 hk
      have hk4 : w18.cell? ⟨g8, 4, none⟩ = some (.slice c.A4 c.n4 c.c4) := (blk_cell (hg8.trans HK.out.b8) 4).trans rfl
      clear HK
      have HK := Lib.hid hk
      clear hk hg8
      refine hK.out _ _ ⟨hc4, hk4⟩ (fun hHeld => ?_)
      clear hK K
      refine norm_ (a' := ?_) ?_ ?_
      rotate_left
      · show Act.put _ (some 65) _ = _
        simp only [Act.put, List.setIfInBounds_toArray, List.set_cons_zero, List.set_cons_succ, i64_w, i32_w]
        rfl
      refine pure_ (i := 7) (N := some 66) (v := ?_) (a' := ?_) #[true, true, true, true, true, true, true, true, false] rfl rfl (by kernel_rfl) (fun _ _ _ h => h) (Or.inl ⟨by rfl, ?_⟩) ?_ ?_
      rotate_left
      · intro w'
        go_simp
        with_reducible rfl
      rotate_left
      · simp only [Act.put, List.setIfInBounds_toArray, List.set_cons_zero, List.set_cons_succ, i64_w, i32_w]
        rfl
      refine last_ (i := 8) (N := none) #[true, true, true, true, true, true, true, true, true] rfl rfl (by kernel_rfl) (by decide) (fun K hK => ?_)
      refine skip_ (w1 := ?_) (by rfl) rfl ?_ ?_
      rotate_left
      · go_simp
        rfl
      refine hK.out _ _ ?_
      clear hK K
      refine done_ (by kernel_rfl) ?_
      generalize (w18.setCell ⟨g15, 4, none⟩ (.slice A2 m2 k2)) = w18x at HK ⊢
      clear hc4 hf4 hb22 hk4 hHeld
      have HL : Hid (List.map (fun z : Pm => z.x) ((([] ++ Z.take kk) ++ [leafP fk s1 s2 s5]) ++ Z.drop kk) = y.f4.take kk ++ (leafP fk s1 s2 s5).x :: y.f4.drop kk) := by
        have e : Z.map (·.x) = y.f4 := HZ.out.1
        rw [← e, ← List.map_take, ← List.map_drop]
        show List.map _ _ = _
        simp only [List.nil_append, List.map_append, List.map_cons, List.map_nil, List.append_assoc, List.singleton_append]
        try exact rfl
      have HNK := Lib.hid HN.out.2.2.1
      have HND : Hid (∀ z ∈ ((([] ++ Z.take kk) ++ [leafP fk s1 s2 s5]) ++ Z.drop kk), k25.K w9 z.x z.c.enc) := fun z hz => by
        rcases List.mem_append.1 hz with hz | hz
        · rcases List.mem_append.1 hz with hz | hz
          · exact HZ.out.2.1.node z (List.mem_of_mem_take (by simpa using hz))
          · rw [List.mem_singleton.1 hz]
            exact leaf_K fk s1 s2 s5 w9
        · exact HZ.out.2.1.node z (List.mem_of_mem_drop hz)
      have HSC : Hid (Sm (copyN y (y.f4.take kk ++ (leafP fk s1 s2 s5).x :: y.f4.drop kk))) := copy_sm HSM.out _ (by rw [List.length_append, List.length_take, List.length_cons, List.length_drop]; have := HLN.out; have := HKN.out; omega) (fun z hz => by
        rcases List.mem_append.1 hz with hz | hz
        · exact HSM.out.kids z (List.mem_of_mem_take hz)
        · rcases List.mem_cons.1 hz with rfl | hz
          · exact HF.out.1.2
          · exact HSM.out.kids z (List.mem_of_mem_drop hz))
      have HW9 := Lib.hid HN.out.1
      obtain ⟨a, ha⟩ : ∃ a, checkX y false = a := ⟨_, rfl⟩
      obtain ⟨b, hb⟩ : ∃ b, checkX y true = b := ⟨_, rfl⟩
      have hc1 : checkX (copyN y (y.f4.take kk ++ (leafP fk s1 s2 s5).x :: y.f4.drop kk)) false = a := by rw [← ha]; exact checkN_foreign testsV y (copyN y (y.f4.take kk ++ (leafP fk s1 s2 s5).x :: y.f4.drop kk)) rfl rfl rfl kk (leafP fk s1 s2 s5).x HF.out.1.1 rfl false
      have hc2 : checkX (copyN y (y.f4.take kk ++ (leafP fk s1 s2 s5).x :: y.f4.drop kk)) true = b := by rw [← hb]; exact checkN_foreign testsV y (copyN y (y.f4.take kk ++ (leafP fk s1 s2 s5).x :: y.f4.drop kk)) rfl rfl rfl kk (leafP fk s1 s2 s5).x HF.out.1.1 rfl true
      have HCK := Lib.hid (And.intro ha (And.intro hb (And.intro hc1 hc2)))
      clear ha hb hc1 hc2 HN
      go_wp2_with fail
      have HK := Lib.hid (HK.out.step (below_drew (Below.refl _ _)))
      refine start_ (n := 16) (S := fun w' => w'.cell? ⟨g8, 0, none⟩ = some (.int .i64 c.f0) ∧ w'.cell? ⟨g8, 1, none⟩ = some (.string c.f1) ∧ w'.cell? ⟨g8, 2, none⟩ = some (.string c.f2) ∧ w'.cell? ⟨g8, 3, none⟩ = some (.slice c.A3 c.n3 c.c3) ∧ w'.cell? ⟨g8, 4, none⟩ = some (.slice c.A4 c.n4 c.c4) ∧ w'.cell? ⟨g8, 5, none⟩ = some (.string c.f5) ∧ w'.cell? ⟨g15, 0, none⟩ = some (.int .i64 c.f0) ∧ w'.cell? ⟨g15, 1, none⟩ = some (.string c.f1) ∧ w'.cell? ⟨g15, 2, none⟩ = some (.string c.f2) ∧ w'.cell? ⟨g15, 3, none⟩ = some (.slice c.A3 c.n3 c.c3) ∧ w'.cell? ⟨g15, 4, none⟩ = some (.slice A2 m2 k2) ∧ w'.cell? ⟨g15, 5, none⟩ = some (.string c.f5)) (ds := []) #[false, false, false, false, false, false, false, false, false, false, false, false, false, false, false, false] (by kernel_rfl) rfl rfl ⟨(box6 HK.out.b8).1, (box6 HK.out.b8).2.1, (box6 HK.out.b8).2.2.1, (box6 HK.out.b8).2.2.2.1, (box6 HK.out.b8).2.2.2.2.1, (box6 HK.out.b8).2.2.2.2.2, (box6 HK.out.b9).1, (box6 HK.out.b9).2.1, (box6 HK.out.b9).2.2.1, (box6 HK.out.b9).2.2.2.1, (box6 HK.out.b9).2.2.2.2.1, (box6 HK.out.b9).2.2.2.2.2⟩ (fun hHeld => ?_)
      generalize hwd_ : World.drew _ = w30 at HK hHeld ⊢
      clear hwd_
      refine pure_ (i := 0) (N := some 67) (v := ?_) (a' := ?_) #[true, false, false, false, false, false, false, false, false, false, false, false, false, false, false, false] rfl rfl (by kernel_rfl) (fun _ _ _ h => h) (Or.inl ⟨by rfl, ?_⟩) ?_ ?_
      rotate_left
      · intro w'
        go_simp
        with_reducible rfl
      rotate_left
      · simp only [Act.put, List.setIfInBounds_toArray, List.set_cons_zero, List.set_cons_succ, i64_w, i32_w]
        rfl
      refine pure_ (i := 1) (N := some 68) (v := ?_) (a' := ?_) #[true, true, false, false, false, false, false, false, false, false, false, false, false, false, false, false] rfl rfl (by kernel_rfl) (fun _ _ _ h => h) (Or.inl ⟨by rfl, ?_⟩) ?_ ?_
      rotate_left
      · intro w'
        go_simp
        with_reducible rfl
      rotate_left
      · simp only [Act.put, List.setIfInBounds_toArray, List.set_cons_zero, List.set_cons_succ, i64_w, i32_w]
        rfl
      refine take_ (i := 2) (N := some 69) (v := ?_) (a' := ?_) #[true, true, true, false, false, false, false, false, false, false, false, false, false, false, false, false] rfl rfl (by kernel_rfl) (fun _ _ _ h => h) (Or.inl ⟨by rfl, ?_⟩) hHeld ?_ ?_
      rotate_left
      · rintro w' ⟨s0, s1, s2, s3, s4, s5, s6, s7, s8, s9, s10, s11⟩
        go_simp
        with_reducible rfl
      rotate_left
      · simp only [Act.put, List.setIfInBounds_toArray, List.set_cons_zero, List.set_cons_succ, i64_w, i32_w]
        rfl
      refine take_ (i := 4) (N := some 71) (v := ?_) (a' := ?_) #[true, true, true, false, true, false, false, false, false, false, false, false, false, false, false, false] rfl rfl (by kernel_rfl) (fun _ _ _ h => h) (Or.inl ⟨by rfl, ?_⟩) hHeld ?_ ?_
      rotate_left
      · rintro w' ⟨s0, s1, s2, s3, s4, s5, s6, s7, s8, s9, s10, s11⟩
        go_simp
        with_reducible rfl
      rotate_left
      · simp only [Act.put, List.setIfInBounds_toArray, List.set_cons_zero, List.set_cons_succ, i64_w, i32_w]
        rfl
      refine one_ (i := 3) (N := some 70) #[true, true, true, true, true, false, false, false, false, false, false, false, false, false, false, false] rfl rfl (by kernel_rfl) (by decide) (fun K hK => ?_)
      refine goes_ Tryz.func10 (by kernel_rfl) rfl #[.agg #[.int .i64 c.f0, .string c.f1, .string c.f2, .slice c.A3 c.n3 c.c3, .slice c.A4 c.n4 c.c4, .string c.f5], .bool false] (by rfl) rfl rfl (by (try simp only [List.map_toArray, List.map_cons, List.map_nil]); first | done | rfl) ?_
      with_reducible refine (check_mn HY.out HSM.out false a HCK.out.1 _ (HG9.out.step HK.out.bw) (k25.K_below HK.out.bw HNK.out)).mono ?_
      rintro e w31 ⟨rfl, hb⟩
      refine ⟨_, rfl, ?_⟩
      have HK := Lib.hid (HK.out.step hb)
      clear hb
      refine hK.out _ _ ⟨(box6 HK.out.b8).1, (box6 HK.out.b8).2.1, (box6 HK.out.b8).2.2.1, (box6 HK.out.b8).2.2.2.1, (box6 HK.out.b8).2.2.2.2.1, (box6 HK.out.b8).2.2.2.2.2, (box6 HK.out.b9).1, (box6 HK.out.b9).2.1, (box6 HK.out.b9).2.2.1, (box6 HK.out.b9).2.2.2.1, (box6 HK.out.b9).2.2.2.2.1, (box6 HK.out.b9).2.2.2.2.2⟩ (fun hHeld => ?_)
      clear hK K
      refine norm_ (a' := ?_) ?_ ?_
      rotate_left
      · show Act.put _ (some 70) _ = _
        simp only [Act.put, List.setIfInBounds_toArray, List.set_cons_zero, List.set_cons_succ, i64_w, i32_w]
        rfl
      refine one_ (i := 5) (N := some 72) #[true, true, true, true, true, true, false, false, false, false, false, false, false, false, false, false] rfl rfl (by kernel_rfl) (by decide) (fun K hK => ?_)
      refine goes_ Tryz.func10 (by kernel_rfl) rfl #[.agg #[.int .i64 c.f0, .string c.f1, .string c.f2, .slice c.A3 c.n3 c.c3, .slice A2 m2 k2, .string c.f5], .bool false] (by rfl) rfl rfl (by (try simp only [List.map_toArray, List.map_cons, List.map_nil]); first | done | rfl) ?_
      with_reducible refine (check_mo HL.out HK.out HNK.out HY.out HND.out HSC.out false a HCK.out.2.2.1 (HG9.out.step HK.out.bw)).mono ?_
      rintro e w32 ⟨rfl, hb⟩
      refine ⟨_, rfl, ?_⟩
      have HK := Lib.hid (HK.out.step hb)
      clear hb
      refine hK.out _ _ ⟨(box6 HK.out.b8).1, (box6 HK.out.b8).2.1, (box6 HK.out.b8).2.2.1, (box6 HK.out.b8).2.2.2.1, (box6 HK.out.b8).2.2.2.2.1, (box6 HK.out.b8).2.2.2.2.2, (box6 HK.out.b9).1, (box6 HK.out.b9).2.1, (box6 HK.out.b9).2.2.1, (box6 HK.out.b9).2.2.2.1, (box6 HK.out.b9).2.2.2.2.1, (box6 HK.out.b9).2.2.2.2.2⟩ (fun hHeld => ?_)
      clear hK K
      refine norm_ (a' := ?_) ?_ ?_
      rotate_left
      · show Act.put _ (some 72) _ = _
        simp only [Act.put, List.setIfInBounds_toArray, List.set_cons_zero, List.set_cons_succ, i64_w, i32_w]
        rfl
      refine pure_ (i := 6) (N := some 73) (v := ?_) (a' := ?_) #[true, true, true, true, true, true, true, false, false, false, false, false, false, false, false, false] rfl rfl (by kernel_rfl) (fun _ _ _ h => h) (Or.inl ⟨by rfl, ?_⟩) ?_ ?_
      rotate_left
      · intro w'
        go_simp
        with_reducible rfl
      rotate_left
      · simp only [Act.put, List.setIfInBounds_toArray, List.set_cons_zero, List.set_cons_succ, i64_w, i32_w]
        rfl
      refine pure_ (i := 7) (N := some 74) (v := ?_) (a' := ?_) #[true, true, true, true, true, true, true, true, false, false, false, false, false, false, false, false] rfl rfl (by kernel_rfl) (fun _ _ _ h => h) (Or.inl ⟨by rfl, ?_⟩) ?_ ?_
      rotate_left
      · intro w'
        go_simp
        with_reducible rfl
      rotate_left
      · simp only [Act.put, List.setIfInBounds_toArray, List.set_cons_zero, List.set_cons_succ, i64_w, i32_w]
        rfl
      refine pure_ (i := 8) (N := some 75) (v := ?_) (a' := ?_) #[true, true, true, true, true, true, true, true, true, false, false, false, false, false, false, false] rfl rfl (by kernel_rfl) (fun _ _ _ h => h) (Or.inl ⟨by rfl, ?_⟩) ?_ ?_
      rotate_left
      · intro w'
        go_simp
        with_reducible rfl
      rotate_left
      · simp only [Act.put, List.setIfInBounds_toArray, List.set_cons_zero, List.set_cons_succ, i64_w, i32_w]
        rfl
      refine take_ (i := 9) (N := some 76) (v := ?_) (a' := ?_) #[true, true, true, true, true, true, true, true, true, true, false, false, false, false, false, false] rfl rfl (by kernel_rfl) (fun _ _ _ h => h) (Or.inl ⟨by rfl, ?_⟩) hHeld ?_ ?_
      rotate_left
      · rintro w' ⟨s0, s1, s2, s3, s4, s5, s6, s7, s8, s9, s10, s11⟩
        go_simp
        with_reducible rfl
      rotate_left
      · simp only [Act.put, List.setIfInBounds_toArray, List.set_cons_zero, List.set_cons_succ, i64_w, i32_w]
        rfl
      refine take_ (i := 11) (N := some 78) (v := ?_) (a' := ?_) #[true, true, true, true, true, true, true, true, true, true, false, true, false, false, false, false] rfl rfl (by kernel_rfl) (fun _ _ _ h => h) (Or.inl ⟨by rfl, ?_⟩) hHeld ?_ ?_
      rotate_left
      · rintro w' ⟨s0, s1, s2, s3, s4, s5, s6, s7, s8, s9, s10, s11⟩
        go_simp
        with_reducible rfl
      rotate_left
      · simp only [Act.put, List.setIfInBounds_toArray, List.set_cons_zero, List.set_cons_succ, i64_w, i32_w]
        rfl
      refine one_ (i := 10) (N := some 77) #[true, true, true, true, true, true, true, true, true, true, true, true, false, false, false, false] rfl rfl (by kernel_rfl) (by decide) (fun K hK => ?_)
      refine goes_ Tryz.func10 (by kernel_rfl) rfl #[.agg #[.int .i64 c.f0, .string c.f1, .string c.f2, .slice c.A3 c.n3 c.c3, .slice c.A4 c.n4 c.c4, .string c.f5], .bool true] (by rfl) rfl rfl (by (try simp only [List.map_toArray, List.map_cons, List.map_nil]); first | done | rfl) ?_
      with_reducible refine (check_mn HY.out HSM.out true b HCK.out.2.1 _ (HG9.out.step HK.out.bw) (k25.K_below HK.out.bw HNK.out)).mono ?_
      rintro e w33 ⟨rfl, hb⟩
      refine ⟨_, rfl, ?_⟩
      have HK := Lib.hid (HK.out.step hb)
      clear hb
      refine hK.out _ _ ⟨(box6 HK.out.b8).1, (box6 HK.out.b8).2.1, (box6 HK.out.b8).2.2.1, (box6 HK.out.b8).2.2.2.1, (box6 HK.out.b8).2.2.2.2.1, (box6 HK.out.b8).2.2.2.2.2, (box6 HK.out.b9).1, (box6 HK.out.b9).2.1, (box6 HK.out.b9).2.2.1, (box6 HK.out.b9).2.2.2.1, (box6 HK.out.b9).2.2.2.2.1, (box6 HK.out.b9).2.2.2.2.2⟩ (fun hHeld => ?_)
      clear hK K
      refine norm_ (a' := ?_) ?_ ?_
      rotate_left
      · show Act.put _ (some 77) _ = _
        simp only [Act.put, List.setIfInBounds_toArray, List.set_cons_zero, List.set_cons_succ, i64_w, i32_w]
        rfl
      refine one_ (i := 12) (N := some 79) #[true, true, true, true, true, true, true, true, true, true, true, true, true, false, false, false] rfl rfl (by kernel_rfl) (by decide) (fun K hK => ?_)
      refine goes_ Tryz.func10 (by kernel_rfl) rfl #[.agg #[.int .i64 c.f0, .string c.f1, .string c.f2, .slice c.A3 c.n3 c.c3, .slice A2 m2 k2, .string c.f5], .bool true] (by rfl) rfl rfl (by (try simp only [List.map_toArray, List.map_cons, List.map_nil]); first | done | rfl) ?_
      with_reducible refine (check_mo HL.out HK.out HNK.out HY.out HND.out HSC.out true b HCK.out.2.2.2 (HG9.out.step HK.out.bw)).mono ?_
      rintro e w34 ⟨rfl, hb⟩
      refine ⟨_, rfl, ?_⟩
      have HK := Lib.hid (HK.out.step hb)
      clear hb
      refine hK.out _ _ ⟨(box6 HK.out.b8).1, (box6 HK.out.b8).2.1, (box6 HK.out.b8).2.2.1, (box6 HK.out.b8).2.2.2.1, (box6 HK.out.b8).2.2.2.2.1, (box6 HK.out.b8).2.2.2.2.2, (box6 HK.out.b9).1, (box6 HK.out.b9).2.1, (box6 HK.out.b9).2.2.1, (box6 HK.out.b9).2.2.2.1, (box6 HK.out.b9).2.2.2.2.1, (box6 HK.out.b9).2.2.2.2.2⟩ (fun hHeld => ?_)
      clear hK K
      refine norm_ (a' := ?_) ?_ ?_
      rotate_left
      · show Act.put _ (some 79) _ = _
        simp only [Act.put, List.setIfInBounds_toArray, List.set_cons_zero, List.set_cons_succ, i64_w, i32_w]
        rfl
      refine pure_ (i := 13) (N := some 80) (v := ?_) (a' := ?_) #[true, true, true, true, true, true, true, true, true, true, true, true, true, true, false, false] rfl rfl (by kernel_rfl) (fun _ _ _ h => h) (Or.inl ⟨by rfl, ?_⟩) ?_ ?_
      rotate_left
      · intro w'
        go_simp
        with_reducible rfl
      rotate_left
      · simp only [Act.put, List.setIfInBounds_toArray, List.set_cons_zero, List.set_cons_succ, i64_w, i32_w]
        rfl
      refine pure_ (i := 14) (N := some 81) (v := ?_) (a' := ?_) #[true, true, true, true, true, true, true, true, true, true, true, true, true, true, true, false] rfl rfl (by kernel_rfl) (fun _ _ _ h => h) (Or.inl ⟨by rfl, ?_⟩) ?_ ?_
      rotate_left
      · intro w'
        go_simp
        with_reducible rfl
      rotate_left
      · simp only [Act.put, List.setIfInBounds_toArray, List.set_cons_zero, List.set_cons_succ, i64_w, i32_w]
        rfl
      refine pure_ (i := 15) (N := some 10) (v := ?_) (a' := ?_) #[true, true, true, true, true, true, true, true, true, true, true, true, true, true, true, true] rfl rfl (by kernel_rfl) (fun _ _ _ h => h) (Or.inl ⟨by rfl, ?_⟩) ?_ ?_
      rotate_left
      · intro w'
        go_simp
        with_reducible rfl
      rotate_left
      · simp only [Act.put, List.setIfInBounds_toArray, List.set_cons_zero, List.set_cons_succ, i64_w, i32_w]
        rfl
      refine done_ (by kernel_rfl) ?_
      clear hHeld
      go_wp2_with fail
      go_ret
      exact ⟨rfl, HW9.out.trans (HK.out.bw.mono HW9.out.size)⟩
end Go.Proofs.YtcplaafmelcndaaGreatDoor.At
