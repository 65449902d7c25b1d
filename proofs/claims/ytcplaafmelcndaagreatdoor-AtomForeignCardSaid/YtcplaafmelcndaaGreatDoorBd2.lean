/- 9 texts in one file: Mad, Txt, Txt2, Txt3, Txt4, Txt5, Txt6, Txt7, Dpa. -/
import Derived.Test.YtcplaafmelcndaaGreatDoorKid
import Derived.Deep.LoopGhost
import Derived.Test.YtcplaafmelcndaaGreatDoorProg
import Derived.Test.YtcplaafmelcndaaGreatDoorBd1
import Derived.WalkKit
import Derived.WalkSpells
import Derived.WalkLawsBesides
import Derived.OneCell
import Derived.Lib.Hide
import Derived.Lib.Strings
import Derived.Laws.RangeAny
import Derived.LoopTactic
import Derived.StillTailTactics
import Derived.Deep.RegionWith
import Derived.Deep.DeepCutAuto
import Derived.Laws.ResultCell
import Derived.Deep.QuietTactic
import Derived.BigQuiet
import Derived.IntWalk
section
/- Made, an entry of kids of numbers, by hand: some node none of whose parts is great. Printed by wip/A15/genmad.py. -/
set_option linter.unusedVariables false
set_option linter.unusedSimpArgs false
set_option maxRecDepth 20000
namespace Go.Proofs.YtcplaafmelcndaaGreatDoor.At
open Go.RowKit Go.Lib Go.Proofs.YtcplaafmelcndaaGreatDoor.Pr Go.Proofs.YtcplaafmelcndaaGreatDoorW.PrintWords Go.Proofs.YtcplaafmelcndaaGreatDoorW.PrintLast Go.Proofs.YtcplaafmelcndaaGreatDoorW.PrintMore
/-- What is known of a node that has been made. -/
def MadeP (w : World) (e : Ending) (w' : World) : Prop := ∃ x A3 n3 c3 A4 n4 c4, e = .returned (.agg #[.int .i64 x.f0, .string x.f1, .string x.f2, .slice A3 n3 c3, .slice A4 n4 c4, .string x.f5]) ∧ Kd.FK k25 w' (fun k => w.heap.size ≤ k) x [.int .i64 x.f0, .string x.f1, .string x.f2, .slice A3 n3 c3, .slice A4 n4 c4, .string x.f5] ∧ Sm x ∧ Below w.heap.size w w'
/-- A bit's numbers are small. -/
def Bits (l : List S36) : Prop := ∀ z ∈ l, (0 ≤ z.f0 ∧ z.f0 ≤ 255) ∧ (0 ≤ z.f1 ∧ z.f1 ≤ 255) ∧ (0 ≤ z.f2 ∧ z.f2 ≤ 255)
theorem bits_at {l : List S36} (h : Bits l) {z : Int} (h0 : 0 ≤ z) (h1 : z < (l.length : Int)) : (0 ≤ (rd_T36 l z).f0 ∧ (rd_T36 l z).f0 ≤ 255) ∧ (0 ≤ (rd_T36 l z).f1 ∧ (rd_T36 l z).f1 ≤ 255) ∧ (0 ≤ (rd_T36 l z).f2 ∧ (rd_T36 l z).f2 ≤ 255) := by
  refine h _ ?_
  unfold rd_T36
  rw [List.getD_eq_getElem?_getD, List.getElem?_eq_getElem (show z.toNat < l.length by omega)]
  exact List.getElem_mem _
set_option maxHeartbeats 4000000 in
theorem made_c (l : List S36) (A : Option Addr) (c : Nat) (bare : Bool) (w : World) (hC : Kd.C k36 w A l.length l) (hc : l.length ≤ c) (hB : Bits l) : Calls Tryz.prog 14 #[.slice A l.length c, .bool bare] w (MadeP w) := by
  have HC := Lib.hid hC
  have HCC := Lib.hid hc
  have HBT := Lib.hid hB
  clear hC hc hB
  go_enter Tryz.func14, Tryz.ntmps14
  go_wp2_with (first | ((with_reducible refine gate_dst (N := 4) rfl ?_); refine box_event ?hg (N := 4) ?hd (cs := #[.int .i64 0, .string ⟨#[]⟩, .string ⟨#[]⟩, .slice none 0 0, .slice none 0 0, .string ⟨#[]⟩]) (t := 25) ?hr ?_; (case hd => rfl); (case hg => rfl); (case hr => first | (go_simp; done) | (go_simp; rfl)); intro g2 hg_g2 w1 hx_g2 hb1; have HX1 := Lib.hid (And.intro hx_g2 hb1); have HG1 := Lib.hid hg_g2; clear hx_g2 hb1 hg_g2))
  with_reducible refine (plain_e ⟨#[116]⟩ _ (by decide) (by rw [ByteArray.toList_eq]; decide)).mono ?_
  rintro e w2 ⟨v4, rfl, h4, hb2⟩
  obtain ⟨A4, n4, c4, rfl⟩ := N_any h4
  have H2 := Lib.hid (And.intro h4 hb2)
  clear h4 hb2
  go_upto_if 8 with (first | ((with_reducible refine gate_dst (N := 5) rfl ?_); refine box_event ?hg (N := 5) ?hd (cs := #[.int .i64 0, .string ⟨#[]⟩, .string ⟨#[]⟩, .slice none 0 0, .slice none 0 0, .string ⟨#[]⟩]) (t := 25) ?hr ?_; (case hd => rfl); (case hg => rfl); (case hr => first | (go_simp; done) | (go_simp; rfl)); intro g4 hg_g4 w3 hx_g4 hb3; have HK0 := Lib.hid (And.intro hx_g4 (And.intro hg_g4 hb3)); obtain ⟨z0, z1, z2, z3, z4, z5⟩ := box6 hx_g4; have y0 := blk_frozen hx_g4 0; have y1 := blk_frozen hx_g4 1; have y2 := blk_frozen hx_g4 2; have y3 := blk_frozen hx_g4 3; have y4 := blk_frozen hx_g4 4; have y5 := blk_frozen hx_g4 5; clear hx_g4 hg_g4 hb3))
  have HK : Hid (MI #[.int .i64 0, .string ⟨#[]⟩, .string ⟨#[]⟩, .slice none 0 0, .slice none 0 0, .string ⟨#[]⟩] w ((((((w3.setCell ⟨g4, 0, none⟩ (.int .i64 0)).setCell ⟨g4, 1, none⟩ (.string atomB)).setCell ⟨g4, 2, none⟩ (.string entryB)).setCell ⟨g4, 3, none⟩ (.slice none 0 0)).setCell ⟨g4, 4, none⟩ (.slice A4 n4 c4)).setCell ⟨g4, 5, none⟩ (.string ⟨#[]⟩)) g2 g4 2 (plainN ⟨#[116]⟩) (.slice none 0 0) (.slice A4 n4 c4)) := Lib.hid (MI.start (x := plainN ⟨#[116]⟩) (m := 2) HX1.out.2 HX1.out.1 H2.out.2 (Kd.N_nil _ _ _ _ _) (Kd.N_mono H2.out.1 (fun k hk => ⟨hk, by simp [Value.ownBlock]⟩)) (plain_ksm _ (by decide)) HK0.out.1 HK0.out.2.1 HK0.out.2.2)
  have HGE : Hid (w.heap.size ≤ g2) := by rw [HG1.out]; exact Nat.le_refl _
  clear HX1 HG1 H2 HK0 z0 z1 z2 z3 z4 z5 y0 y1 y2 y3 y4 y5
  generalize ((((((w3.setCell ⟨g4, 0, none⟩ (.int .i64 0)).setCell ⟨g4, 1, none⟩ (.string atomB)).setCell ⟨g4, 2, none⟩ (.string entryB)).setCell ⟨g4, 3, none⟩ (.slice none 0 0)).setCell ⟨g4, 4, none⟩ (.slice A4 n4 c4)).setCell ⟨g4, 5, none⟩ (.string ⟨#[]⟩)) = w4 at HK ⊢
  obtain ⟨x, hx⟩ : ∃ x, x = plainN ⟨#[116]⟩ := ⟨_, rfl⟩
  rw [← hx] at HK
  clear hx
  go_cut [] (fun wc => ∃ y A n c', MI #[.int .i64 0, .string ⟨#[]⟩, .string ⟨#[]⟩, .slice none 0 0, .slice none 0 0, .string ⟨#[]⟩] w wc g2 g4 2 y (.slice none 0 0) (.slice A n c'))
  case first =>
    cases bare
    case false =>
      go_wp2_with fail
      go_meet
      case rel => exact ⟨_, _, _, _, HK.out⟩
    case true =>
      obtain ⟨z4, y4⟩ := HK.out.c4
      have hp4 := MI.put4 (W1 := w4) HK.out (Kd.N_nil _ _ _ _ _) HK.out.bw (fun _ _ _ => rfl) (HK.out.sm.put4 _ 2 (Nat.le_refl _) (Nat.zero_le _) (fun y hy => by simp at hy))
      have HP := Lib.hid hp4.2
      clear hp4
      go_wp2_with fail
      go_meet
      case rel => exact ⟨_, _, _, _, HP.out⟩
  case rest =>
    clear HK
    obtain ⟨y, A6, n6, c6, hk⟩ := hcut
    rename_i wb
    have HK := Lib.hid hk
    clear hk
    go_wp2_with fail
    go_loopg [6] 12 (fun kx s6 wr => ∃ (z : Int) (y : S25) (A6 : Option Addr) (n6 c6 : Nat), s6 = .int .i64 z ∧ 0 ≤ z ∧ z ≤ 12 ∧ 12 - z.toNat ≤ kx ∧ Hid (MI #[.int .i64 0, .string ⟨#[]⟩, .string ⟨#[]⟩, .slice none 0 0, .slice none 0 0, .string ⟨#[]⟩] w wr g2 g4 (2 + z.toNat) y (.slice none 0 0) (.slice A6 n6 c6)))
    case atStart => exact ⟨0, y, A6, n6, c6, rfl, by decide, by decide, by decide, HK⟩
    case round =>
      clear HK
      obtain ⟨z, y, A6, n6, c6, rfl, hz0, hz1, hkx, HK⟩ := hrel
      have HKX := Lib.hid hkx
      clear hkx
      by_cases h1 : z < (l.length : Int)
      case neg =>
        have d1 : decide (z < (l.length : Int)) = false := decide_eq_false h1
        clear h1
        obtain ⟨z0, z1, z2, z3, z4, z5⟩ := HK.out.cells
        obtain ⟨y0, y1, y2, y3, y4, y5⟩ := box6 HK.out.b2
        have f0 := blk_frozen HK.out.b2 0
        have f1 := blk_frozen HK.out.b2 1
        have f2 := blk_frozen HK.out.b2 2
        have f3 := blk_frozen HK.out.b2 3
        have f4 := blk_frozen HK.out.b2 4
        have f5 := blk_frozen HK.out.b2 5
        go_wp2_with fail
        refine bodyPost_ret (results_cell_row rfl _ _ g2 25 _ (0, 0) _ rfl HK.out.blk2 Tryz.underlying25 rfl (by kernel_rfl)) rfl ?_
        exact ⟨_, _, _, _, _, _, _, rfl, (HK.out.done HGE.out).1, HK.out.sm.sm (by omega), (HK.out.done HGE.out).2⟩
      have HLT := Lib.hid h1
      have d1 : decide (z < (l.length : Int)) = true := decide_eq_true h1
      by_cases h2 : z < 12
      case neg =>
        have d2 : decide (z < 12) = false := decide_eq_false h2
        clear h1 h2
        obtain ⟨z0, z1, z2, z3, z4, z5⟩ := HK.out.cells
        obtain ⟨y0, y1, y2, y3, y4, y5⟩ := box6 HK.out.b2
        have f0 := blk_frozen HK.out.b2 0
        have f1 := blk_frozen HK.out.b2 1
        have f2 := blk_frozen HK.out.b2 2
        have f3 := blk_frozen HK.out.b2 3
        have f4 := blk_frozen HK.out.b2 4
        have f5 := blk_frozen HK.out.b2 5
        go_wp2_with fail
        refine bodyPost_ret (results_cell_row rfl _ _ g2 25 _ (0, 0) _ rfl HK.out.blk2 Tryz.underlying25 rfl (by kernel_rfl)) rfl ?_
        exact ⟨_, _, _, _, _, _, _, rfl, (HK.out.done HGE.out).1, HK.out.sm.sm (by omega), (HK.out.done HGE.out).2⟩
      have HBA := Lib.hid (bits_at HBT.out hz0 h1)
      obtain ⟨ad, hA, hx0, hx1, hx2⟩ := at_T36 HC.out z hz0 h1
      obtain ⟨q0, hq0⟩ : ∃ q, q = (rd_T36 l z).f0 := ⟨_, rfl⟩
      obtain ⟨q1, hq1⟩ : ∃ q, q = (rd_T36 l z).f1 := ⟨_, rfl⟩
      obtain ⟨q2, hq2⟩ : ∃ q, q = (rd_T36 l z).f2 := ⟨_, rfl⟩
      rw [← hq0, ← hq1, ← hq2] at HBA
      rw [← hq0] at hx0
      rw [← hq1] at hx1
      rw [← hq2] at hx2
      clear hq0 hq1 hq2
      have HX := Lib.hid (And.intro hx0 (And.intro hx1 hx2))
      clear hx0 hx1 hx2
      subst hA
      have d2 : decide (z < 12) = true := decide_eq_true h2
      have e1 := eq_true hz0
      have e2 := eq_true h1
      go_wp2_with fail
      have HK := Lib.hid (HK.out.step (below_drew (Below.refl _ _)))
      refine start_ (n := 11) (S := fun w' => w'.cell? ⟨g4, 4, none⟩ = some (.slice A6 n6 c6) ∧ w'.cell? (ad.add (z.toNat * 3)) = some (.int .u8 q0) ∧ w'.cell? ⟨(ad.add (z.toNat * 3)).block, (ad.add (z.toNat * 3)).off + 1, none⟩ = some (.int .u8 q1) ∧ w'.cell? ⟨(ad.add (z.toNat * 3)).block, (ad.add (z.toNat * 3)).off + 2, none⟩ = some (.int .u8 q2)) (ds := [10]) #[false, false, false, false, false, false, false, false, false, false, false] (by kernel_rfl) rfl rfl ⟨HK.out.c4.1, cellKeep HK.out.bw HX.out.1, cellKeep HK.out.bw HX.out.2.1, cellKeep HK.out.bw HX.out.2.2⟩ (fun hHeld => ?_)
      generalize hwd_ : World.drew _ = w20 at HK hHeld ⊢
      clear hwd_
      refine pure_ (i := 0) (N := some 20) (v := ?_) (a' := ?_) #[true, false, false, false, false, false, false, false, false, false, false] rfl rfl (by kernel_rfl) (fun _ _ _ h => h) (Or.inl ⟨by rfl, ?_⟩) ?_ ?_
      rotate_left
      · intro w'
        go_simp
        with_reducible rfl
      rotate_left
      · simp only [Act.put, List.setIfInBounds_toArray, List.set_cons_zero, List.set_cons_succ, i64_w, i32_w]
        rfl
      refine pure_ (i := 2) (N := some 22) (v := ?_) (a' := ?_) #[true, false, true, false, false, false, false, false, false, false, false] rfl rfl (by kernel_rfl) (fun _ _ _ h => h) (Or.inl ⟨by rfl, ?_⟩) ?_ ?_
      rotate_left
      · intro w'
        go_simp
        with_reducible rfl
      rotate_left
      · simp only [Act.put, List.setIfInBounds_toArray, List.set_cons_zero, List.set_cons_succ, i64_w, i32_w]
        rfl
      refine pure_ (i := 3) (N := some 23) (v := ?_) (a' := ?_) #[true, false, true, true, false, false, false, false, false, false, false] rfl rfl (by kernel_rfl) (fun _ _ _ h => h) (Or.inl ⟨by rfl, ?_⟩) ?_ ?_
      rotate_left
      · intro w'
        go_simp
        with_reducible rfl
      rotate_left
      · simp only [Act.put, List.setIfInBounds_toArray, List.set_cons_zero, List.set_cons_succ, i64_w, i32_w]
        rfl
      refine pure_ (i := 4) (N := some 24) (v := ?_) (a' := ?_) #[true, false, true, true, true, false, false, false, false, false, false] rfl rfl (by kernel_rfl) (fun _ _ _ h => h) (Or.inl ⟨by rfl, ?_⟩) ?_ ?_
      rotate_left
      · intro w'
        go_simp
        with_reducible rfl
      rotate_left
      · simp only [Act.put, List.setIfInBounds_toArray, List.set_cons_zero, List.set_cons_succ, i64_w, i32_w]
        rfl
      refine take_ (i := 1) (N := some 21) (v := ?_) (a' := ?_) #[true, true, true, true, true, false, false, false, false, false, false] rfl rfl (by kernel_rfl) (fun _ _ _ h => h) (Or.inl ⟨by rfl, ?_⟩) hHeld ?_ ?_
      rotate_left
      · rintro w' ⟨s0, s1, s2, s3⟩
        go_simp
        with_reducible rfl
      rotate_left
      · simp only [Act.put, List.setIfInBounds_toArray, List.set_cons_zero, List.set_cons_succ, i64_w, i32_w]
        rfl
      refine take_ (i := 5) (N := some 25) (v := ?_) (a' := ?_) #[true, true, true, true, true, true, false, false, false, false, false] rfl rfl (by kernel_rfl) (fun _ _ _ h => h) (Or.inl ⟨by rfl, ?_⟩) hHeld ?_ ?_
      rotate_left
      · rintro w' ⟨s0, s1, s2, s3⟩
        go_simp
        with_reducible rfl
      rotate_left
      · simp only [Act.put, List.setIfInBounds_toArray, List.set_cons_zero, List.set_cons_succ, i64_w, i32_w]
        rfl
      refine one_ (i := 6) (N := some 26) #[true, true, true, true, true, true, true, false, false, false, false] rfl rfl (by kernel_rfl) (by decide) (fun K hK => ?_)
      refine goes_ Tryz.func34 (by kernel_rfl) rfl #[.agg #[.int .u8 q0, .int .u8 q1, .int .u8 q2]] (by rfl) rfl rfl (by (try simp only [List.map_toArray, List.map_cons, List.map_nil]); first | done | rfl) ?_
      with_reducible refine (kid_c q0 q1 q2 _ HBA.out.1.1 HBA.out.1.2 HBA.out.2.1.1 HBA.out.2.1.2 HBA.out.2.2.1 HBA.out.2.2.2).mono ?_
      rintro e w26 ⟨xk, B3, m3, e3, B4, m4, e4, rfl, hfk, hsk, hb⟩
      refine ⟨_, rfl, ?_⟩
      have HFK := Lib.hid hfk
      have HSK := Lib.hid hsk
      have HFR := Lib.hid HK.out.fresh
      have HK := Lib.hid (HK.out.step hb)
      clear hfk hsk hb
      refine hK.out _ _ ⟨HK.out.c4.1, cellKeep HK.out.bw HX.out.1, cellKeep HK.out.bw HX.out.2.1, cellKeep HK.out.bw HX.out.2.2⟩ (fun hHeld => ?_)
      clear hK K
      refine norm_ (a' := ?_) ?_ ?_
      rotate_left
      · show Act.put _ (some 26) _ = _
        simp only [Act.put, List.setIfInBounds_toArray, List.set_cons_zero, List.set_cons_succ, i64_w, i32_w]
        rfl
      refine one_ (i := 7) (N := some 27) #[true, true, true, true, true, true, true, true, false, false, false] rfl rfl (by kernel_rfl) (by decide) (fun K hK => ?_)
      refine MI.nlit1_step HK.out HFK.out HFR.out ?hw (N := 27) ?hd ?hr ?_
      (case hw => rfl)
      (case hd => rfl)
      (case hr => first | (go_simp; done) | (go_simp; rfl))
      intro A27 k27 w27 hk hf
      clear HK
      have HK := Lib.hid hk
      have HF := Lib.hid hf
      clear hk hf HFK HFR
      refine hK.out _ _ ⟨HK.out.c4.1, cellKeep HK.out.bw HX.out.1, cellKeep HK.out.bw HX.out.2.1, cellKeep HK.out.bw HX.out.2.2⟩ (fun hHeld => ?_)
      clear hK K
      refine norm_ (a' := ?_) ?_ ?_
      rotate_left
      · show Act.put _ (some 27) _ = _
        simp only [Act.put, List.setIfInBounds_toArray, List.set_cons_zero, List.set_cons_succ, i64_w, i32_w]
        rfl
      refine one_ (i := 8) (N := some 28) #[true, true, true, true, true, true, true, true, true, false, false] rfl rfl (by kernel_rfl) (by decide) (fun K hK => ?_)
      refine MI.app_step (s := .tmp 21) (y := .tmp 27) (k' := k27) (N := 28) HK.out ?hw ?hd ?ho ?hs ?hx HF.out (fun z hz => by rw [List.mem_singleton.1 hz]; exact HSK.out) (m' := 2 + z.toNat + 1) (Nat.le_succ _) (by have := HK.out.sm.n4; show _ + 1 ≤ _; omega) (by decide) (by omega) ?_
      (case hw => rfl)
      (case hd => rfl)
      (case ho => rfl)
      (case hs => rfl)
      (case hx => rfl)
      intro A28 m28 k28 w28 hc4 hf4 hb28 hk
      clear HK
      have HK := Lib.hid hk
      clear hk HF HSK
      refine hK.out _ _ ⟨hc4, cellKeep hb28 HX.out.1, cellKeep hb28 HX.out.2.1, cellKeep hb28 HX.out.2.2⟩ (fun hHeld => ?_)
      clear hK K
      refine norm_ (a' := ?_) ?_ ?_
      rotate_left
      · show Act.put _ (some 28) _ = _
        simp only [Act.put, List.setIfInBounds_toArray, List.set_cons_zero, List.set_cons_succ, i64_w, i32_w]
        rfl
      refine pure_ (i := 9) (N := some 29) (v := ?_) (a' := ?_) #[true, true, true, true, true, true, true, true, true, true, false] rfl rfl (by kernel_rfl) (fun _ _ _ h => h) (Or.inl ⟨by rfl, ?_⟩) ?_ ?_
      rotate_left
      · intro w'
        go_simp
        with_reducible rfl
      rotate_left
      · simp only [Act.put, List.setIfInBounds_toArray, List.set_cons_zero, List.set_cons_succ, i64_w, i32_w]
        rfl
      refine last_ (i := 10) (N := none) #[true, true, true, true, true, true, true, true, true, true, true] rfl rfl (by kernel_rfl) (by decide) (fun K hK => ?_)
      refine skip_ (w1 := ?_) (by rfl) rfl ?_ ?_
      rotate_left
      · go_simp
        rfl
      refine hK.out _ _ ?_
      clear hK K
      refine done_ (by kernel_rfl) ?_
      generalize (w28.setCell ⟨g4, 4, none⟩ (.slice A28 m28 k28)) = w29 at HK ⊢
      clear hc4 hf4 hb28 hHeld HX HBA
      have hz2 : z + 1 ≤ 12 := by omega
      go_wp2_with fail
      go_roundg (12 - (z + 1).toNat)
      case measure => have := HKX.out; omega
      case rel => exact ⟨z + 1, _, A28, m28, k28, rfl, by omega, hz2, Nat.le_refl _, by rw [show 2 + (z + 1).toNat = 2 + z.toNat + 1 by omega]; exact HK⟩
end Go.Proofs.YtcplaafmelcndaaGreatDoor.At
end
section
/- The contracts of the methods of date.text: how many digits, a sign, a number within bounds. -/
namespace Go.Proofs.YtcplaafmelcndaaGreatDoor.Txt
open Go.RowKit
theorem grown_set (W : World) (b : Nat) (v : Value) : W.grownBy (W.setCell ⟨b, 0, none⟩ v) (some b) :=
  ⟨rfl, rfl, rfl, by simp [World.setCell], fun k _ hk => Below.heap_setCell _ _ _ _ (fun e => hk (by rw [e]))⟩
/-- The digits' value. -/
def val (l : List UInt8) : Nat := l.foldl (fun k c => k * 10 + (c.toNat - 48)) 0
def isDig (c : UInt8) : Bool := 48 ≤ c.toNat && c.toNat ≤ 57
def allDig (l : List UInt8) : Bool := l.all isDig
theorem val_snoc (l : List UInt8) (c : UInt8) : val (l ++ [c]) = val l * 10 + (c.toNat - 48) := by
  simp [val, List.foldl_append]
theorem isDig_iff (c : UInt8) : isDig c = true ↔ 48 ≤ c.toNat ∧ c.toNat ≤ 57 := by simp [isDig]
/-- What a method of text leaves: its two results, the text that is left; all else as it was. -/
def TxtPost (b : Nat) (w : World) (v1 v2 : Value) (t : ByteArray) (e : Ending) (w' : World) : Prop :=
  e = .returned (.tuple #[v1, v2]) ∧ w.grownBy w' (some b) ∧ w'.heap[b]? = some (.cells #[.string t] 94 (0, 0))
theorem take_snoc (s : ByteArray) (k : Nat) (h : k < s.size) : s.data.toList.take (k + 1) = s.data.toList.take k ++ [s[k]] := by
  rw [List.take_succ_eq_append_getElem (by simpa using h)]; rfl
theorem val_lt_aux (l : List UInt8) (h : allDig l = true) (a : Nat) : l.foldl (fun k c => k * 10 + (c.toNat - 48)) a < (a + 1) * 10 ^ l.length := by
  induction l generalizing a with
  | nil => simp
  | cons c l ih =>
    simp only [allDig, List.all_cons, Bool.and_eq_true] at h
    have hc := (isDig_iff c).1 h.1
    have := ih h.2 (a * 10 + (c.toNat - 48))
    rw [List.foldl_cons, List.length_cons, Nat.pow_succ]
    refine Nat.lt_of_lt_of_le this ?_
    rw [Nat.mul_comm (10 ^ l.length), ← Nat.mul_assoc]
    exact Nat.mul_le_mul_right _ (by omega)
theorem val_lt (l : List UInt8) (h : allDig l = true) : val l < 10 ^ l.length := by
  have := val_lt_aux l h 0
  simpa [val] using this
/-- Of the first bytes u of a text: the number, and what is left. -/
def dV (u : ByteArray) : Nat := if allDig u.data.toList then val u.data.toList else 0
def dB (u : ByteArray) : Bool := allDig u.data.toList
def dT (t u : ByteArray) (n : Nat) : ByteArray := if allDig u.data.toList then t.extract n t.size else t
theorem take_ge (u : ByteArray) (k : Nat) (h : ¬ k < u.size) : u.data.toList.take k = u.data.toList := List.take_of_length_le (by have : u.data.toList.length = u.size := rfl; omega)
theorem dB_yes {u : ByteArray} {k : Nat} (h : ¬ k < u.size) (hd : allDig (u.data.toList.take k) = true) : dB u = true := by rw [take_ge u k h] at hd; exact hd
theorem allDig_snoc {l : List UInt8} {c : UInt8} (h : allDig l = true) (hc : 48 ≤ c.toNat) (h9 : c.toNat ≤ 57) : allDig (l ++ [c]) = true := by
  simp only [allDig, List.all_append, List.all_cons, List.all_nil, Bool.and_true, Bool.and_eq_true]
  exact ⟨h, (isDig_iff c).2 ⟨hc, h9⟩⟩
theorem dB_no {u : ByteArray} {k : Nat} (h : k < u.size) (hc : ¬ (48 ≤ (u[k]'h).toNat ∧ (u[k]'h).toNat ≤ 57)) : dB u = false := by
  unfold dB allDig
  rw [List.all_eq_false]
  exact ⟨u[k], by show u.data[k] ∈ _; exact Array.getElem_mem_toList h, fun hx => hc ((isDig_iff _).1 hx)⟩
theorem txt_no {b n : Nat} {w w' : World} {t u : ByteArray} {e : Ending} (h : dB u = false) (k : TxtPost b w (.int .i64 0) (.bool false) t e w') : TxtPost b w (.int .i64 (dV u)) (.bool (dB u)) (dT t u n) e w' := by
  unfold dB at h
  unfold dV dB dT
  rw [h]; exact k
theorem txt_yes {b n : Nat} {w w' : World} {t u : ByteArray} {e : Ending} (h : dB u = true) (k : TxtPost b w (.int .i64 (val u.data.toList : Nat)) (.bool true) (t.extract n t.size) e w') : TxtPost b w (.int .i64 (dV u)) (.bool (dB u)) (dT t u n) e w' := by
  unfold dB at h
  unfold dV dB dT
  rw [h]; exact k
theorem number_short (b : Nat) (t : ByteArray) (n : Nat) (w : World) (hb : w.heap[b]? = some (.cells #[.string t] 94 (0, 0))) (hn : t.size < n) :
    Calls Tryz.prog 99 #[.pointer (some ⟨b, 0, none⟩), .int .i64 n] w (TxtPost b w (.int .i64 0) (.bool false) t) := by
  have hc := cell_of_one hb
  go_enter Tryz.func99, Tryz.ntmps99
  go_wp2
  go_ret2
  exact ⟨rfl, World.grownBy.refl _ _, hb⟩
set_option maxHeartbeats 1000000 in
theorem number_long (b : Nat) (t u : ByteArray) (n : Nat) (w : World) (hb : w.heap[b]? = some (.cells #[.string t] 94 (0, 0))) (hn : n ≤ t.size) (h4 : n ≤ 9) (hu : t.extract 0 n = u) :
    Calls Tryz.prog 99 #[.pointer (some ⟨b, 0, none⟩), .int .i64 n] w (TxtPost b w (.int .i64 (dV u)) (.bool (dB u)) (dT t u n)) := by
  have hc := cell_of_one hb
  have hf := free_of_one hb
  have hlt := lt_of_block hb
  have HU : Hid (t.extract 0 n = u) := hu
  clear hu
  have hd : decide ((t.size : Int) < (n : Int)) = false := decide_eq_false (by omega)
  have hd2 : decide (t.size < n) = false := decide_eq_false (by omega)
  go_enter Tryz.func99, Tryz.ntmps99
  go_wp2
  rw [HU.out]
  go_loopw [6] (fun v w' => ∃ k : Nat, k ≤ u.size ∧ allDig (u.data.toList.take k) = true ∧ w' = w.iter u k ∧ v = .int .i64 (val (u.data.toList.take k) : Nat)) (fun _ w' => u.size - w'.iterPos w.heap.size)
  case atStart => exact ⟨0, Nat.zero_le _, rfl, rfl, rfl⟩
  case round =>
    obtain ⟨k, hk, hda, rfl, rfl⟩ := hrel
    have hv := val_lt _ hda
    by_cases hp : k < u.size
    · by_cases hdg : 48 ≤ (u[k]'hp).toNat ∧ (u[k]'hp).toNat ≤ 57
      · have hnx : ∀ ty, (Instr.next (.pointer (some ⟨w.heap.size, 0, none⟩)) true ty).run Tryz.prog (w.iter u k) = _ := fun ty => run_next_ascii w u k ty hp (by omega)
        obtain ⟨c, hcc⟩ : ∃ c, u[k]'hp = c := ⟨_, rfl⟩
        have hlen : (u.data.toList.take k).length ≤ k := List.length_take_le _ _
        have hus : u.size ≤ n := by rw [← HU.out, ByteArray.size_extract]; omega
        have hvb : val (u.data.toList.take k) ≤ 999999999 := by
          have : 10 ^ (u.data.toList.take k).length ≤ 10 ^ 9 := Nat.pow_le_pow_right (by omega) (by omega)
          omega
        have hsn : u.data.toList.take (k + 1) = u.data.toList.take k ++ [c] := by rw [take_snoc u k hp, hcc]
        have hda' : allDig (u.data.toList.take (k + 1)) = true := by rw [hsn]; exact allDig_snoc hda (by rw [← hcc]; omega) (by rw [← hcc]; omega)
        have hva' : val (u.data.toList.take (k + 1)) = val (u.data.toList.take k) * 10 + (c.toNat - 48) := by rw [hsn, val_snoc]
        rw [hcc] at hnx hdg
        have HA := Lib.hid hda'
        have HV := Lib.hid hva'
        have HDA := Lib.hid hda
        clear hda hda' hva' hsn hcc hv hlen
        obtain ⟨h48, h57⟩ := hdg
        generalize hq : val (u.data.toList.take k) = q at hvb HV
        have HQ := Lib.hid hq
        clear hq
        go_wp2
        go_roundw
        case rel => exact ⟨k + 1, by omega, HA.out, rfl, by rw [HV.out]; go_num⟩
        case measure => simp; omega
      · have hnx : ∀ ty, (Instr.next (.pointer (some ⟨w.heap.size, 0, none⟩)) true ty).run Tryz.prog (w.iter u k) = _ := fun ty => run_next_any w u k ty hp
        have hno := dB_no hp hdg
        have HNO := Lib.hid hno
        have hdec : (Utf8.decode u k).1 < 48 ∨ 57 < (Utf8.decode u k).1 := by
          by_cases ha : (u[k]'hp).toNat < 128
          · rw [decode_ascii u k hp ha]; simp; omega
          · have := (decode_high u k hp (by omega)).1; omega
        clear hno hda hv hdg
        generalize (Utf8.decode u k).1 = q at hnx hdec
        rcases hdec with hq | hq
        all_goals
          go_wp2
          go_ret2
          exact txt_no HNO.out ⟨rfl, World.grownBy_alloc _ _ _, (Below.heap_alloc _ _ _ hlt).trans hb⟩
    · have hnx : ∀ ty, (Instr.next (.pointer (some ⟨w.heap.size, 0, none⟩)) true ty).run Tryz.prog (w.iter u k) = _ := fun ty => run_next_end w u k ty hp
      have HY := Lib.hid (dB_yes hp hda)
      have ht := take_ge u k hp
      rw [ht]
      have hbi : (w.iter u k).heap[b]? = some (.cells #[.string t] 94 (0, 0)) := (Below.heap_alloc _ _ _ hlt).trans hb
      have hci := cell_of_one hbi
      have hfi := free_of_one hbi
      have HB := Lib.hid hbi
      clear hda hv ht hbi
      go_wp2
      go_ret2
      exact txt_yes HY.out ⟨rfl, (World.grownBy_alloc _ _ _).trans (grown_set _ _ _), one_setCell HB.out⟩
/-- The method's answers. -/
def nV (t : ByteArray) (n : Nat) : Int := if decide (t.size < n) then 0 else (dV (t.extract 0 n) : Nat)
def nB (t : ByteArray) (n : Nat) : Bool := if decide (t.size < n) then false else dB (t.extract 0 n)
def nT (t : ByteArray) (n : Nat) : ByteArray := if decide (t.size < n) then t else dT t (t.extract 0 n) n
/-- The next byte is one of some signs. -/
def sgB (t l : ByteArray) : Bool := match t.data.toList with
  | [] => false
  | c :: _ => decide (0 ≤ Lib.indexByte l.data.toList c)
def sgV (t l : ByteArray) : Int := if sgB t l then (t.get! 0).toNat else 0
def sgT (t l : ByteArray) : ByteArray := if sgB t l then t.extract 1 t.size else t
theorem sign_empty (b : Nat) (t l : ByteArray) (w : World) (hb : w.heap[b]? = some (.cells #[.string t] 94 (0, 0))) (ht : t.toList = []) :
    Calls Tryz.prog 96 #[.pointer (some ⟨b, 0, none⟩), .string l] w (TxtPost b w (.int .u8 0) (.bool false) t) := by
  have hc := cell_of_one hb
  go_enter Tryz.func96, Tryz.ntmps96
  go_wp2
  go_ret2
  exact ⟨rfl, World.grownBy.refl _ _, hb⟩
theorem u8_back (c : UInt8) : ((c.toNat : Int).toNat).toUInt8 = c := by simp
theorem sign_no (b : Nat) (t l : ByteArray) (w : World) (hb : w.heap[b]? = some (.cells #[.string t] 94 (0, 0))) (h0 : 0 < t.size) (hne : ¬ t.toList = []) (q : Int) (hi : Lib.indexByte l.data.toList (t[0]'h0) = q) (hq : q < 0) :
    Calls Tryz.prog 96 #[.pointer (some ⟨b, 0, none⟩), .string l] w (TxtPost b w (.int .u8 0) (.bool false) t) := by
  have hc := cell_of_one hb
  have C := fun w => Tryz.strings_IndexByte l (t[0]'h0).toNat w
  rw [u8_back, hi] at C
  clear hi
  go_enter Tryz.func96, Tryz.ntmps96
  go_wp2_with (go_at_call 108; refine (C _).mono ?_; rintro e w' ⟨rfl, rfl⟩)
  go_ret2
  exact ⟨rfl, World.grownBy.refl _ _, hb⟩
theorem sign_yes (b : Nat) (t l : ByteArray) (w : World) (hb : w.heap[b]? = some (.cells #[.string t] 94 (0, 0))) (h0 : 0 < t.size) (hne : ¬ t.toList = []) (q : Int) (hi : Lib.indexByte l.data.toList (t[0]'h0) = q) (hq : 0 ≤ q) :
    Calls Tryz.prog 96 #[.pointer (some ⟨b, 0, none⟩), .string l] w (TxtPost b w (.int .u8 (t[0]'h0).toNat) (.bool true) (t.extract 1 t.size)) := by
  have hc := cell_of_one hb
  have hf := free_of_one hb
  have C := fun w => Tryz.strings_IndexByte l (t[0]'h0).toNat w
  rw [u8_back, hi] at C
  clear hi
  have hq' : decide (q < 0) = false := decide_eq_false (by omega)
  have hne' : t.toList.isEmpty = false := by cases h : t.toList with | nil => exact absurd h hne | cons _ _ => rfl
  clear hq hne
  go_enter Tryz.func96, Tryz.ntmps96
  go_wp2_with (go_at_call 108; refine (C _).mono ?_; rintro e w' ⟨rfl, rfl⟩)
  go_ret2
  exact ⟨rfl, grown_set _ _ _, one_setCell hb⟩
theorem sign_any (b : Nat) (t l : ByteArray) (w : World) (hb : w.heap[b]? = some (.cells #[.string t] 94 (0, 0))) :
    Calls Tryz.prog 96 #[.pointer (some ⟨b, 0, none⟩), .string l] w (TxtPost b w (.int .u8 (sgV t l)) (.bool (sgB t l)) (sgT t l)) := by
  rcases Nat.eq_zero_or_pos t.size with hz | h0
  · have ht : t.data.toList = [] := List.eq_nil_of_length_eq_zero hz
    have ht2 : t.toList = [] := by rw [ByteArray.toList_eq]; exact ht
    have e : sgB t l = false := by unfold sgB; rw [ht]
    unfold sgV sgT
    rw [e]
    exact sign_empty b t l w hb ht2
  · have hne : ¬ t.toList = [] := by
      intro h
      rw [ByteArray.toList_eq] at h
      have : t.data.toList.length = t.size := rfl
      rw [h] at this; simp at this; omega
    have hd : ∃ r, t.data.toList = t[0]'h0 :: r := by
      have : t.data.toList.length = t.size := rfl
      cases h : t.data.toList with
      | nil => rw [h] at this; simp at this; omega
      | cons c r =>
        have : t[0]'h0 = t.data.toList[0]'(by rw [this]; exact h0) := rfl
        rw [this]; simp [h]
    have hg : t.get! 0 = t[0]'h0 := by have := get_at t 0 h0; simpa using this
    obtain ⟨r, hr⟩ := hd
    have e : sgB t l = decide (0 ≤ Lib.indexByte l.data.toList (t[0]'h0)) := by unfold sgB; rw [hr]; rfl
    by_cases hq : 0 ≤ Lib.indexByte l.data.toList (t[0]'h0)
    · rw [decide_eq_true hq] at e
      unfold sgV sgT
      rw [e, hg]
      exact sign_yes b t l w hb h0 hne _ rfl hq
    · rw [decide_eq_false hq] at e
      unfold sgV sgT
      rw [e]
      exact sign_no b t l w hb h0 hne _ rfl (by omega)
theorem number_any (b : Nat) (t : ByteArray) (n : Nat) (w : World) (hb : w.heap[b]? = some (.cells #[.string t] 94 (0, 0))) (h4 : n ≤ 9) :
    Calls Tryz.prog 99 #[.pointer (some ⟨b, 0, none⟩), .int .i64 n] w (TxtPost b w (.int .i64 (nV t n)) (.bool (nB t n)) (nT t n)) := by
  unfold nV nB nT
  by_cases h : t.size < n
  · rw [decide_eq_true h]
    exact number_short b t n w hb h
  · rw [decide_eq_false h]
    exact number_long b t _ n w hb (by omega) h4 rfl
theorem nV_ge (t : ByteArray) (n : Nat) : 0 ≤ nV t n := by unfold nV; split <;> omega
/-- So many digits, that are a number up to a greatest one. -/
def wB (t : ByteArray) (n : Nat) (m : Int) : Bool := nB t n && decide (nV t n ≤ m)
theorem within_any (b : Nat) (t : ByteArray) (n : Nat) (m : Int) (w : World) (hb : w.heap[b]? = some (.cells #[.string t] 94 (0, 0))) (h4 : n ≤ 9) :
    Calls Tryz.prog 97 #[.pointer (some ⟨b, 0, none⟩), .int .i64 n, .int .i64 0, .int .i64 m] w (TxtPost b w (.int .i64 (nV t n)) (.bool (wB t n m)) (nT t n)) := by
  have C := number_any b t n w hb h4
  have hv := nV_ge t n
  unfold wB
  generalize nV t n = v at C hv ⊢
  generalize nT t n = t' at C ⊢
  generalize nB t n = p at C ⊢
  have hv' : decide (0 ≤ v) = true := decide_eq_true hv
  cases p with
  | false =>
    rw [Bool.false_and]
    go_enter Tryz.func97, Tryz.ntmps97
    go_wp2_with (go_at_call 99; refine C.mono ?_; rintro e w' ⟨rfl, hg, hb'⟩; have HG := Lib.hid hg; have HB := Lib.hid hb'; clear hg hb')
    go_ret2
    exact ⟨rfl, HG.out, HB.out⟩
  | true =>
    rw [Bool.true_and]
    by_cases hm : v ≤ m
    · have hm' : decide (v ≤ m) = true := decide_eq_true hm
      rw [hm']
      go_enter Tryz.func97, Tryz.ntmps97
      go_wp2_with (go_at_call 99; refine C.mono ?_; rintro e w' ⟨rfl, hg, hb'⟩; have HG := Lib.hid hg; have HB := Lib.hid hb'; clear hg hb')
      go_ret2
      exact ⟨rfl, HG.out, HB.out⟩
    · have hm' : decide (v ≤ m) = false := decide_eq_false hm
      rw [hm']
      go_enter Tryz.func97, Tryz.ntmps97
      go_wp2_with (go_at_call 99; refine C.mono ?_; rintro e w' ⟨rfl, hg, hb'⟩; have HG := Lib.hid hg; have HB := Lib.hid hb'; clear hg hb')
      go_ret2
      exact ⟨rfl, HG.out, HB.out⟩
/-- How many digits stand at the head. -/
def dgs (l : List UInt8) : Nat := (l.takeWhile isDig).length
theorem dgs_le (l : List UInt8) : dgs l ≤ l.length := by
  unfold dgs
  induction l with
  | nil => simp
  | cons c l ih => rw [List.takeWhile_cons]; split <;> simp <;> omega
theorem dgs_yes {l : List UInt8} {i : Nat} (h : i < dgs l) : ∃ c, l[i]? = some c ∧ isDig c = true := by
  induction l generalizing i with
  | nil => simp [dgs] at h
  | cons c l ih =>
    unfold dgs at h
    rw [List.takeWhile_cons] at h
    split at h
    · rename_i hc
      cases i with
      | zero => exact ⟨c, rfl, hc⟩
      | succ i => exact ih (by simp at h; exact h)
    · simp at h
theorem dgs_no {l : List UInt8} {c : UInt8} (h : l[dgs l]? = some c) : isDig c = false := by
  induction l with
  | nil => simp [dgs] at h
  | cons d l ih =>
    unfold dgs at h
    rw [List.takeWhile_cons] at h
    split at h
    · exact ih (by unfold dgs; simpa using h)
    · rename_i hc
      simp at h
      rw [← h]; simpa using hc
theorem ext_list (t : ByteArray) (i : Nat) : (t.extract i t.size).data.toList = t.data.toList.drop i := by
  rw [ByteArray.data_extract, Array.toList_extract, List.extract_eq_take_drop]
  apply List.take_of_length_le
  simp
theorem ext_ext (t : ByteArray) (i : Nat) : (t.extract i t.size).extract 1 (t.extract i t.size).size = t.extract (i + 1) t.size := by
  apply ByteArray.ext
  apply Array.ext'
  have e1 := ext_list (t.extract i t.size) 1
  have e2 := ext_list t i
  have e3 := ext_list t (i + 1)
  rw [e1, e2, e3, List.drop_drop]
theorem ext_zero (t : ByteArray) : t.extract 0 t.size = t := by
  apply ByteArray.ext
  apply Array.ext'
  rw [ext_list]; rfl
theorem one_size (t : ByteArray) : (t.extract 0 1).data.toList = t.data.toList.take 1 := by
  rw [ByteArray.data_extract, Array.toList_extract, List.extract_eq_take_drop]
  rfl
theorem nB_one {t : ByteArray} : nB t 1 = (match t.data.toList with | [] => false | c :: _ => isDig c) := by
  unfold nB
  have hl : t.data.toList.length = t.size := rfl
  have e := one_size t
  cases h : t.data.toList with
  | nil => rw [h] at hl; simp at hl; rw [decide_eq_true (by omega)]; rfl
  | cons c r =>
    rw [h] at hl e; simp at hl
    rw [decide_eq_false (by omega)]
    unfold dB allDig
    rw [e]; simp
theorem nV_one {t : ByteArray} {c : UInt8} {r : List UInt8} (h : t.data.toList = c :: r) (hc : isDig c = true) : nV t 1 = ((c.toNat - 48 : Nat) : Int) := by
  unfold nV
  have hl : t.data.toList.length = t.size := rfl
  have e := one_size t
  rw [h] at hl e; simp at hl
  rw [decide_eq_false (by omega)]
  unfold dV allDig
  rw [e]; simp [hc, val]
theorem nT_one {t : ByteArray} (h : nB t 1 = true) : nT t 1 = t.extract 1 t.size := by
  unfold nB at h
  unfold nT
  split at h
  · simp at h
  · rename_i hs
    have hs' : decide (t.size < 1) = false := by simpa using hs
    rw [hs']
    unfold dB at h
    unfold dT
    rw [h]; rfl
theorem nT_one_no {t : ByteArray} (h : nB t 1 = false) : nT t 1 = t := by
  unfold nB at h
  unfold nT
  split
  · rfl
  · rename_i hs
    have hs' : decide (t.size < 1) = false := by simpa using hs
    rw [hs'] at h
    have h' : dB (t.extract 0 1) = false := h
    unfold dB at h'
    unfold dT
    rw [h']; rfl
theorem drop_cons {l : List UInt8} {i : Nat} {c : UInt8} (h : l[i]? = some c) : l.drop i = c :: l.drop (i + 1) := by
  obtain ⟨hi, he⟩ := List.getElem?_eq_some_iff.1 h
  rw [List.drop_eq_getElem_cons hi, he]
theorem nB_at {t : ByteArray} {i : Nat} (h : i ≤ dgs t.data.toList) : nB (t.extract i t.size) 1 = decide (i < dgs t.data.toList) := by
  rw [nB_one, ext_list]
  by_cases hi : i < dgs t.data.toList
  · obtain ⟨c, hc, hd⟩ := dgs_yes hi
    rw [drop_cons hc, decide_eq_true hi]; exact hd
  · have e : i = dgs t.data.toList := by omega
    rw [decide_eq_false hi]
    cases hq : t.data.toList[i]? with
    | none =>
      have := List.getElem?_eq_none_iff.1 hq
      rw [List.drop_of_length_le this]
    | some c =>
      rw [drop_cons hq]
      exact dgs_no (by rw [← e]; exact hq)
/-- Behind the sign of a fraction: its first nine digits, as billionths. -/
def frK (l : List UInt8) (i : Nat) : Nat := val (l.take (min i 9))
def frN (l : List UInt8) : Nat := frK l (dgs l) * 10 ^ (9 - dgs l)
theorem frK_lt {l : List UInt8} {i : Nat} (h : i ≤ dgs l) : frK l i < 10 ^ (min i 9) := by
  unfold frK
  have hall : allDig (l.take (min i 9)) = true := by
    unfold allDig
    rw [List.all_eq_true]
    intro c hc
    obtain ⟨j, hj, e⟩ := List.getElem_of_mem hc
    rw [List.length_take] at hj
    rw [List.getElem_take] at e
    obtain ⟨c', h1, h2⟩ := dgs_yes (l := l) (i := j) (by omega)
    have := (List.getElem?_eq_some_iff.1 h1).2
    rw [← e, this]; exact h2
  have h1 := val_lt _ hall
  refine Nat.lt_of_lt_of_le h1 (Nat.pow_le_pow_right (by omega) ?_)
  rw [List.length_take]; omega
theorem frK_succ {l : List UInt8} {i : Nat} {c : UInt8} (h : l[i]? = some c) (h9 : i < 9) : frK l (i + 1) = frK l i * 10 + (c.toNat - 48) := by
  unfold frK
  have e1 : min (i + 1) 9 = i + 1 := by omega
  have e2 : min i 9 = i := by omega
  obtain ⟨hi, he⟩ := List.getElem?_eq_some_iff.1 h
  rw [e1, e2, List.take_succ_eq_append_getElem hi, he, val_snoc]
theorem frK_stay {l : List UInt8} {i : Nat} (h9 : ¬ i < 9) : frK l (i + 1) = frK l i := by
  unfold frK
  rw [show min (i + 1) 9 = 9 by omega, show min i 9 = 9 by omega]
end Go.Proofs.YtcplaafmelcndaaGreatDoor.Txt
end
section
/- The contracts of date.text's fraction, zone and series. -/
namespace Go.Proofs.YtcplaafmelcndaaGreatDoor.Txt
open Go.RowKit
/-- A fraction: what it is, whether it may be, what is left. -/
def frB (t : ByteArray) : Bool := sgB t ⟨#[46]⟩
def frV (t : ByteArray) : Int := if frB t then (frN (t.extract 1 t.size).data.toList : Nat) else 0
def frOk (t : ByteArray) : Bool := if frB t then decide (0 < dgs (t.extract 1 t.size).data.toList) else true
def frT (t : ByteArray) : ByteArray := if frB t then (t.extract 1 t.size).extract (dgs (t.extract 1 t.size).data.toList) (t.extract 1 t.size).size else t
theorem fraction_none (b : Nat) (t : ByteArray) (w : World) (hb : w.heap[b]? = some (.cells #[.string t] 94 (0, 0))) (hn : sgB t ⟨#[46]⟩ = false) :
    Calls Tryz.prog 72 #[.pointer (some ⟨b, 0, none⟩)] w (TxtPost b w (.int .i64 0) (.bool true) t) := by
  have C := sign_any b t ⟨#[46]⟩ w hb
  have ht : sgT t ⟨#[46]⟩ = t := by unfold sgT; rw [hn]; rfl
  rw [hn, ht] at C
  clear hn ht
  generalize sgV t ⟨#[46]⟩ = v at C
  go_enter Tryz.func72, Tryz.ntmps72
  go_wp2_with (go_at_call 96; refine C.mono ?_; rintro e w' ⟨rfl, hg, hb'⟩; have HG := Lib.hid hg; have HB := Lib.hid hb'; clear hg hb')
  go_ret2
  exact ⟨rfl, HG.out, HB.out⟩
set_option maxHeartbeats 1000000 in
theorem fraction_some (b : Nat) (t u : ByteArray) (w : World) (hb : w.heap[b]? = some (.cells #[.string t] 94 (0, 0))) (hn : sgB t ⟨#[46]⟩ = true) (hu : t.extract 1 t.size = u) (hts : u.size ≤ 9223372036854775806) :
    Calls Tryz.prog 72 #[.pointer (some ⟨b, 0, none⟩)] w (TxtPost b w (.int .i64 (frN u.data.toList : Nat)) (.bool (decide (0 < dgs u.data.toList))) (u.extract (dgs u.data.toList) u.size)) := by
  have C := sign_any b t ⟨#[46]⟩ w hb
  have ht : sgT t ⟨#[46]⟩ = u := by unfold sgT; rw [hn]; exact hu
  rw [hn, ht] at C
  clear hn ht hu
  generalize sgV t ⟨#[46]⟩ = v at C
  have hD := dgs_le u.data.toList
  have hDs : u.data.toList.length = u.size := rfl
  rw [hDs] at hD
  clear hDs
  go_enter Tryz.func72, Tryz.ntmps72
  go_wp2_with (go_at_call 96; refine C.mono ?_; rintro e w1 ⟨rfl, hg, hb'⟩; have HG := Lib.hid hg; have HB := Lib.hid hb'; clear hg hb')
  go_loopw [6, 7] (fun n k wr => ∃ i : Nat, i ≤ dgs u.data.toList ∧ n = .int .i64 (frK u.data.toList i : Nat) ∧ k = .int .i64 i ∧ w.grownBy wr (some b) ∧ wr.heap[b]? = some (.cells #[.string (u.extract i u.size)] 94 (0, 0))) (fun _ k _ => u.size + 1 - (intOf k).toNat)
  case atStart => exact ⟨0, Nat.zero_le _, rfl, rfl, HG.out, by rw [ext_zero]; exact HB.out⟩
  case round =>
    clear HG HB C
    obtain ⟨i, hi, rfl, rfl, hg, hbr⟩ := hrel
    have HG := Lib.hid hg
    clear hg
    have C1 : Calls Tryz.prog 99 _ _ _ := number_any b (u.extract i u.size) 1 wr hbr (by omega)
    have hlt := frK_lt hi
    by_cases hiD : i < dgs u.data.toList
    · obtain ⟨c, hc, hcd⟩ := dgs_yes hiD
      have e1 : nB (u.extract i u.size) 1 = true := by rw [nB_at hi]; exact decide_eq_true hiD
      have e2 : nT (u.extract i u.size) 1 = u.extract (i + 1) u.size := by rw [nT_one e1, ext_ext]
      have e3 : nV (u.extract i u.size) 1 = ((c.toNat - 48 : Nat) : Int) := nV_one (by rw [ext_list]; exact drop_cons hc) hcd
      rw [e1, e2, e3] at C1
      have hc9 := ((isDig_iff c).1 hcd)
      have hdgb : c.toNat - 48 ≤ 9 := by omega
      have HI : Hid (i + 1 ≤ dgs u.data.toList) := hiD
      by_cases h9 : i < 9
      · have HS := Lib.hid (frK_succ hc h9)
        have hqb : frK u.data.toList i ≤ 999999999 := by
          have : 10 ^ (min i 9) ≤ 10 ^ 9 := Nat.pow_le_pow_right (by omega) (by omega)
          omega
        clear hlt e1 e2 e3 hc hcd hc9 hi hiD
        generalize c.toNat - 48 = d at C1 hdgb HS
        generalize hq : frK u.data.toList i = q at hqb HS
        clear hq
        have h9' : decide ((i : Int) < 9) = true := decide_eq_true (by omega)
        go_wp2_with (go_at_call 99; refine C1.mono ?_; rintro e w2 ⟨rfl, hg, hb'⟩; have HG2 := Lib.hid hg; have HB2 := Lib.hid hb'; clear hg hb')
        go_roundw
        case rel => exact ⟨i + 1, HI.out, by rw [HS.out]; go_num, by go_num, HG.out.trans HG2.out, HB2.out⟩
        case measure => have := HI.out; simp [intOf]; omega
      · have HS := Lib.hid (frK_stay (l := u.data.toList) h9)
        have hil : i ≤ 9223372036854775806 := by omega
        clear hlt e1 e2 e3 hc hcd hc9 hi hiD
        generalize c.toNat - 48 = d at C1 hdgb
        generalize hq : frK u.data.toList i = q at HS
        clear hq
        have h9' : decide ((i : Int) < 9) = false := decide_eq_false (by omega)
        go_wp2_with (go_at_call 99; refine C1.mono ?_; rintro e w2 ⟨rfl, hg, hb'⟩; have HG2 := Lib.hid hg; have HB2 := Lib.hid hb'; clear hg hb')
        go_roundw
        case rel => exact ⟨i + 1, HI.out, by rw [HS.out], by go_num, HG.out.trans HG2.out, HB2.out⟩
        case measure => have := HI.out; simp [intOf]; omega
    · have hie : i = dgs u.data.toList := by omega
      subst hie
      have e1 : nB (u.extract (dgs u.data.toList) u.size) 1 = false := by rw [nB_at hi]; exact decide_eq_false hiD
      have e2 := nT_one_no e1
      rw [e1, e2] at C1
      clear e1 e2 hi hiD
      generalize nV (u.extract (dgs u.data.toList) u.size) 1 = v1 at C1
      have HN : Hid (frN u.data.toList = frK u.data.toList (dgs u.data.toList) * 10 ^ (9 - dgs u.data.toList)) := rfl
      generalize hq : frK u.data.toList (dgs u.data.toList) = q at hlt HN
      clear hq
      generalize dgs u.data.toList = i at *
      generalize frN u.data.toList = r at *
      go_wp2_with (go_at_call 99; refine C1.mono ?_; rintro e w2 ⟨rfl, hg, hb'⟩; have HG2 := Lib.hid hg; have HB2 := Lib.hid hb'; clear hg hb')
      go_loop [6, 10] (fun n j => ∃ k m p : Nat, n = .int .i64 m ∧ j = .int .i64 p ∧ Hid (p = i + k) ∧ Hid (m = q * 10 ^ k) ∧ (9 ≤ i → k = 0) ∧ (i < 9 → i + k ≤ 9)) (fun _ j => (9 - intOf j).toNat)
      case atStart => exact ⟨0, q, i, rfl, rfl, rfl, by show q = q * 10 ^ 0; simp, fun _ => rfl, fun _ => by omega⟩
      case round =>
        obtain ⟨k, m, p, rfl, rfl, hp, hm, h1, h2⟩ := hrel
        have hpp := hp.out
        have HH : Hid ((9 ≤ i → k = 0) ∧ (i < 9 → i + k ≤ 9)) := ⟨h1, h2⟩
        by_cases h9 : p < 9
        · have hb1 : m ≤ 99999999 := by
            have e : m = q * 10 ^ k := hm.out
            have hi9 : min i 9 = i := by omega
            rw [hi9] at hlt
            have h3 : q * 10 ^ k < 10 ^ i * 10 ^ k := Nat.mul_lt_mul_of_pos_right hlt (Nat.pow_pos (by omega))
            rw [← Nat.pow_add] at h3
            have h4 : 10 ^ (i + k) ≤ 10 ^ 8 := Nat.pow_le_pow_right (by omega) (by omega)
            omega
          have h9' : decide ((p : Int) < 9) = true := decide_eq_true (by omega)
          clear h1 h2 hpp
          go_wp2
          go_round
          case rel => exact ⟨k + 1, m * 10, p + 1, by go_num, by go_num, by have := hp.out; show p + 1 = i + (k + 1); omega, by have := hm.out; show m * 10 = q * 10 ^ (k + 1); rw [this, Nat.pow_succ, Nat.mul_assoc], fun h => by have := HH.out.1 h; have := hp.out; omega, fun h => by have := hp.out; omega⟩
          case measure => simp [intOf]; omega
        · have h9' : decide ((p : Int) < 9) = false := decide_eq_false (by omega)
          have HE : Hid (m = r) := by
            show m = r
            rw [HN.out, hm.out]
            have e : k = 9 - i := by
              by_cases hi9 : 9 ≤ i
              · rw [h1 hi9]; omega
              · have := h2 (by omega); omega
            rw [e]
          clear h1 h2 hpp
          by_cases h0 : 0 < i
          · have h0' : decide ((0 : Int) < (i : Int)) = true := decide_eq_true (by omega)
            rw [decide_eq_true h0]
            go_wp2
            go_ret2
            obtain rfl : m = r := HE.out
            exact ⟨rfl, HG.out.trans HG2.out, HB2.out⟩
          · have h0' : decide ((0 : Int) < (i : Int)) = false := decide_eq_false (by omega)
            rw [decide_eq_false h0]
            go_wp2
            go_ret2
            obtain rfl : m = r := HE.out
            exact ⟨rfl, HG.out.trans HG2.out, HB2.out⟩
theorem fraction_any (b : Nat) (t : ByteArray) (w : World) (hb : w.heap[b]? = some (.cells #[.string t] 94 (0, 0))) (hts : t.size ≤ 9223372036854775806) :
    Calls Tryz.prog 72 #[.pointer (some ⟨b, 0, none⟩)] w (TxtPost b w (.int .i64 (frV t)) (.bool (frOk t)) (frT t)) := by
  unfold frV frOk frT frB
  cases h : sgB t ⟨#[46]⟩ with
  | false => exact fraction_none b t w hb h
  | true => exact fraction_some b t _ w hb h rfl (by rw [ByteArray.size_extract]; omega)
end Go.Proofs.YtcplaafmelcndaaGreatDoor.Txt
end
section
/- The contract of date.text's series, zone, and of date.Parse. -/
namespace Go.Proofs.YtcplaafmelcndaaGreatDoor.Txt
open Go.RowKit
/-- A series of numbers, each with a sign ahead (a blank: none): was all there, what is left, what was taken. -/
def ser : List (UInt8 × Nat × Int) → ByteArray → Bool × ByteArray × List Int
  | [], t => (true, t, [])
  | (c, n, m) :: r, t =>
    if c = 32 then
      if wB t n m then ((ser r (nT t n)).1, (ser r (nT t n)).2.1, nV t n :: (ser r (nT t n)).2.2) else (false, nT t n, [])
    else if sgB t ⟨#[c]⟩ then
      if wB (sgT t ⟨#[c]⟩) n m then ((ser r (nT (sgT t ⟨#[c]⟩) n)).1, (ser r (nT (sgT t ⟨#[c]⟩) n)).2.1, nV (sgT t ⟨#[c]⟩) n :: (ser r (nT (sgT t ⟨#[c]⟩) n)).2.2) else (false, nT (sgT t ⟨#[c]⟩) n, [])
    else (false, t, [])
/-- The world behind a series' begin: the text in block b, the numbers from block v on. -/
structure SerW (b v N : Nat) (w w' : World) (t : ByteArray) (vs : List Int) : Prop where
  os : w'.os = w.os
  tape : w'.tape = w.tape
  output : w'.output = w.output
  size : w.heap.size ≤ w'.heap.size
  blk : ∀ j, j < w.heap.size → j ≠ b → (j < v ∨ v + N ≤ j) → w'.heap[j]? = w.heap[j]?
  txt : w'.heap[b]? = some (.cells #[.string t] 94 (0, 0))
  var : ∀ j, j < N → w'.heap[v + j]? = some (.cells #[.int .i64 (vs.getD j 0)] 3 (0, 0))
theorem SerW.step {b v N : Nat} {w w1 w2 : World} {t t' : ByteArray} {vs : List Int} (h : SerW b v N w w1 t vs) (hbv : b < v) (hg : w1.grownBy w2 (some b)) (hb : w2.heap[b]? = some (.cells #[.string t'] 94 (0, 0))) : SerW b v N w w2 t' vs := by
  refine ⟨hg.os.trans h.os, hg.tape.trans h.tape, hg.output.trans h.output, Nat.le_trans h.size hg.size, fun j hj hne hv => ?_, hb, fun j hj => ?_⟩
  · rw [hg.block j (Nat.lt_of_lt_of_le hj h.size) (by simp; omega)]; exact h.blk j hj hne hv
  · rw [hg.block (v + j) (lt_of_block (h.var j hj)) (by simp; omega)]; exact h.var j hj
theorem SerW.store {b v N : Nat} {w w1 : World} {t : ByteArray} {vs : List Int} (h : SerW b v N w w1 t vs) (hbv : b < v) (hk : vs.length < N) (x : Int) : SerW b v N w (w1.setCell ⟨v + vs.length, 0, none⟩ (.int .i64 x)) t (vs ++ [x]) := by
  refine ⟨h.os, h.tape, h.output, by simpa [World.setCell] using h.size, fun j hj hne hv => ?_, ?_, fun j hj => ?_⟩
  · rw [Below.heap_setCell _ _ _ _ (by simp; omega)]; exact h.blk j hj hne hv
  · rw [Below.heap_setCell _ _ _ _ (by simp; omega)]; exact h.txt
  · by_cases e : j = vs.length
    · subst e
      rw [one_setCell (h.var _ hj)]
      simp [List.getD_eq_getElem?_getD]
    · rw [Below.heap_setCell _ _ _ _ (by simp; omega), h.var j hj]
      have : (vs ++ [x]).getD j 0 = vs.getD j 0 := by
        simp only [List.getD_eq_getElem?_getD]
        by_cases hl : j < vs.length
        · rw [List.getElem?_append_left hl]
        · rw [List.getElem?_eq_none (by simp; omega), List.getElem?_eq_none (by omega)]
      rw [this]
theorem SerW.drew {b v N : Nat} {w w1 : World} {t : ByteArray} {vs : List Int} (h : SerW b v N w w1 t vs) : SerW b v N w w1.drew t vs := ⟨h.os, h.tape, h.output, h.size, h.blk, h.txt, h.var⟩
theorem SerW.cell {b v N : Nat} {w w1 : World} {t : ByteArray} {vs : List Int} (h : SerW b v N w w1 t vs) (hbv : b < v) {a : Addr} {x : Value} (ha : v + N ≤ a.block) (hc : w.cell? a = some x) : w1.cell? a = some x := by
  have hlt : a.block < w.heap.size := by
    rcases Nat.lt_or_ge a.block w.heap.size with h' | h'
    · exact h'
    · simp [World.cell?, Array.getElem?_eq_none h'] at hc
  rw [World.cell?_of_block (w := w) (h.blk a.block hlt (by omega) (.inr ha))]; exact hc
theorem drop_cons' {α : Type} {l : List α} {i : Nat} {c : α} (h : l[i]? = some c) : l.drop i = c :: l.drop (i + 1) := by
  obtain ⟨hi, he⟩ := List.getElem?_eq_some_iff.1 h
  rw [List.drop_eq_getElem_cons hi, he]
def SerPost (b v N : Nat) (w : World) (r : Bool × ByteArray × List Int) (e : Ending) (w' : World) : Prop :=
  e = .returned (.bool r.1) ∧ SerW b v N w w' r.2.1 r.2.2
theorem enc_ascii (c : UInt8) (h : c.toNat < 128) : Utf8.encode (c.toNat : Int) = ⟨#[c]⟩ := by
  have hv : Utf8.valid (c.toNat : Int) = true := by unfold Utf8.valid; simp; omega
  unfold Utf8.encode
  simp [hv, h]
theorem SerPost.mk_yes {b v N : Nat} {w w' : World} {r : Bool × ByteArray × List Int} {vs : List Int} {t' : ByteArray} (h : r = ((ser [] t').1, (ser [] t').2.1, vs ++ (ser [] t').2.2)) (hs : SerW b v N w w' t' vs) : SerPost b v N w r (.returned (.bool true)) w' := by
  subst h
  exact ⟨rfl, by simpa [ser] using hs⟩
theorem SerPost.mk_ {b v N : Nat} {w w' : World} {r : Bool × ByteArray × List Int} {p : Bool × ByteArray × List Int} {vs : List Int} {t' : ByteArray} (h : r = (p.1, p.2.1, vs ++ p.2.2)) (h2 : p = (false, t', [])) (hs : SerW b v N w w' t' vs) : SerPost b v N w r (.returned (.bool false)) w' := by
  subst h2
  subst h
  exact ⟨rfl, by simpa using hs⟩
set_option maxHeartbeats 1000000 in
theorem series_any (b v N pb nb mb : Nat) (t sg : ByteArray) (l : List (UInt8 × Nat × Int)) (w : World) (hl : l.length = N)
    (hsg : sg.size = N) (hsc : ∀ (i : Nat) (x : UInt8 × Nat × Int), l[i]? = some x → sg.data.toList[i]? = some x.1 ∧ x.1.toNat < 128 ∧ x.2.1 ≤ 9)
    (hw : SerW b v N w w t []) (hbv : b < v) (hpb : v + N ≤ pb) (hnb : v + N ≤ nb) (hmb : v + N ≤ mb)
    (hp : ∀ i, i < N → w.cell? ⟨pb, i, none⟩ = some (.pointer (some ⟨v + i, 0, none⟩)))
    (hn : ∀ (i : Nat) (x : UInt8 × Nat × Int), l[i]? = some x → w.cell? ⟨nb, i, none⟩ = some (.int .i64 x.2.1))
    (hm : ∀ (i : Nat) (x : UInt8 × Nat × Int), l[i]? = some x → w.cell? ⟨mb, i, none⟩ = some (.int .i64 x.2.2)) (hN : N ≤ 100) :
    Calls Tryz.prog 70 #[.pointer (some ⟨b, 0, none⟩), .string sg, .slice (some ⟨pb, 0, none⟩) N N, .slice (some ⟨nb, 0, none⟩) N N, .slice (some ⟨mb, 0, none⟩) N N] w (SerPost b v N w (ser l t)) := by
  go_enter Tryz.func70, Tryz.ntmps70
  go_wp2
  go_loopg [20] N (fun g k wr => ∃ (i : Nat) (ti : ByteArray) (vs : List Int), vs.length = i ∧ i ≤ N ∧ g = N - i ∧ k = .int .i64 i ∧ SerW b v N w wr ti vs ∧ ser l t = ((ser (l.drop i) ti).1, (ser (l.drop i) ti).2.1, vs ++ (ser (l.drop i) ti).2.2))
  case atStart => exact ⟨0, t, [], rfl, Nat.zero_le _, rfl, rfl, hw, by simp⟩
  case round =>
    obtain ⟨i, ti, vs, hlen, hi, rfl, rfl, hs, he⟩ := hrel
    by_cases hiN : i < N
    · obtain ⟨x, hx⟩ : ∃ x, l[i]? = some x := ⟨_, List.getElem?_eq_getElem (by omega)⟩
      have hp1 := hs.cell hbv (a := ⟨pb, i, none⟩) hpb (hp i hiN)
      obtain ⟨h1, h2, h3⟩ := hsc i x hx
      have hd := drop_cons' hx
      rw [hd] at he
      obtain ⟨c, n, m⟩ := x
      have h2' : c.toNat < 128 := h2
      have h3' : n ≤ 9 := h3
      clear h2 h3
      have hn0 : w.cell? ⟨nb, i, none⟩ = some (.int .i64 n) := hn i _ hx
      have hm0 : w.cell? ⟨mb, i, none⟩ = some (.int .i64 m) := hm i _ hx
      have HE := Lib.hid he
      have HS := Lib.hid hs
      have HL := Lib.hid hlen
      have HN0 := Lib.hid hn0
      have HM0 := Lib.hid hm0
      have hidx : i < sg.size := by omega
      have hgi : sg[i]'hidx = c := by
        have : sg.data.toList[i]? = some (sg[i]'hidx) := by rw [List.getElem?_eq_getElem (by simpa using hidx)]; rfl
        rw [this] at h1; exact Option.some.inj h1
      clear hs he hp hn hm hsc hx hd h1 hn0 hm0 hlen hl hsg
      by_cases hc32 : c = 32
      · have E1 : Hid (ser ((c, n, m) :: l.drop (i + 1)) ti = if wB ti n m then ((ser (l.drop (i + 1)) (nT ti n)).1, (ser (l.drop (i + 1)) (nT ti n)).2.1, nV ti n :: (ser (l.drop (i + 1)) (nT ti n)).2.2) else (false, nT ti n, [])) := by
          show ser _ _ = _
          rw [ser, if_pos hc32]
        subst hc32
        have HS1 := HS
        have hn2 := HS1.out.cell hbv (a := ⟨nb, i, none⟩) hnb HN0.out
        have hm2 := HS1.out.cell hbv (a := ⟨mb, i, none⟩) hmb HM0.out
        have C36 := within_any b ti n m wr.drew HS1.out.txt h3'
        generalize nV ti n = nv at C36 E1
        generalize nT ti n = nt at C36 E1
        generalize wB ti n m = wb at C36 E1
        go_upto_region 9 with (fail)
        go_cut [16, 17] (fun a b' wc => a = .int .i64 nv ∧ b' = .bool wb ∧ SerW b v N w wc nt vs)
        case first =>
          go_region_with (go_at_call 97; refine C36.mono ?_; rintro e w2 ⟨rfl, hg2, hb2⟩; have HS2 := Lib.hid (HS1.out.drew.step hbv hg2 hb2); clear hg2 hb2)
          all_goals (go_wp2_with fail; go_meet; exact ⟨rfl, rfl, HS2.out⟩)
        case rest =>
          obtain ⟨rfl, rfl, hs2⟩ := hcut
          have HS2 := Lib.hid hs2
          have hv0 := hs2.var i hiN
          have hc0 := cell_of_one hv0
          have hf0 := free_of_one hv0
          clear hs2 hv0 hn2 hm2 C36
          cases wb with
          | false =>
            go_wp2
            go_ret
            exact SerPost.mk_ HE.out (by rw [E1.out]; exact rfl) HS2.out
          | true =>
            go_wp2
            go_roundg (N - (i + 1))
            case measure => omega
            case rel => exact ⟨i + 1, nt, vs ++ [nv], by simp [HL.out], by omega, rfl, by go_num, by have := HS2.out.store hbv (by rw [HL.out]; exact hiN) nv; rwa [HL.out] at this, by rw [HE.out, E1.out]; simp⟩
      · have C35 : Calls Tryz.prog 96 #[.pointer (some ⟨b, 0, none⟩), .string (Utf8.encode (c.toNat : Int))] wr (TxtPost b wr (.int .u8 (sgV ti ⟨#[c]⟩)) (.bool (sgB ti ⟨#[c]⟩)) (sgT ti ⟨#[c]⟩)) := by
          rw [enc_ascii c h2']; exact sign_any b ti ⟨#[c]⟩ wr HS.out.txt
        have hne : (((c.toNat : Int)) == 32) = false := by
          apply beq_eq_false_iff_ne.2
          intro h; apply hc32
          apply UInt8.toNat_inj.1
          have : (32 : UInt8).toNat = 32 := rfl
          omega
        have hne2 : (((c.toNat : Int)) != 32) = true := by rw [bne, hne]; rfl
        by_cases hsgb : sgB ti ⟨#[c]⟩ = true
        · have E1 : Hid (ser ((c, n, m) :: l.drop (i + 1)) ti = if wB (sgT ti ⟨#[c]⟩) n m then ((ser (l.drop (i + 1)) (nT (sgT ti ⟨#[c]⟩) n)).1, (ser (l.drop (i + 1)) (nT (sgT ti ⟨#[c]⟩) n)).2.1, nV (sgT ti ⟨#[c]⟩) n :: (ser (l.drop (i + 1)) (nT (sgT ti ⟨#[c]⟩) n)).2.2) else (false, nT (sgT ti ⟨#[c]⟩) n, [])) := by
            show ser _ _ = _
            rw [ser, if_neg hc32, if_pos hsgb]
          rw [hsgb] at C35
          clear hsgb hc32
          generalize sgT ti ⟨#[c]⟩ = t1 at C35 E1
          generalize sgV ti ⟨#[c]⟩ = sv at C35
          go_upto_region 9 with (go_at_call 96; refine C35.mono ?_; rintro e w1 ⟨rfl, hg1, hb1⟩; have HS1 := Lib.hid (HS.out.step hbv hg1 hb1); clear hg1 hb1; have hn2 := HS1.out.cell hbv (a := ⟨nb, i, none⟩) hnb HN0.out; have hm2 := HS1.out.cell hbv (a := ⟨mb, i, none⟩) hmb HM0.out)
          have C36 := within_any b t1 n m w1.drew HS1.out.txt h3'
          generalize nV t1 n = nv at C36 E1
          generalize nT t1 n = nt at C36 E1
          generalize wB t1 n m = wb at C36 E1
          go_cut [16, 17] (fun a b' wc => a = .int .i64 nv ∧ b' = .bool wb ∧ SerW b v N w wc nt vs)
          case first =>
            go_region_with (go_at_call 97; refine C36.mono ?_; rintro e w2 ⟨rfl, hg2, hb2⟩; have HS2 := Lib.hid (HS1.out.drew.step hbv hg2 hb2); clear hg2 hb2)
            all_goals (go_wp2_with fail; go_meet; exact ⟨rfl, rfl, HS2.out⟩)
          case rest =>
            obtain ⟨rfl, rfl, hs2⟩ := hcut
            have HS2 := Lib.hid hs2
            have hv0 := hs2.var i hiN
            have hc0 := cell_of_one hv0
            have hf0 := free_of_one hv0
            clear hs2 hv0 hn2 hm2 C36
            cases wb with
            | false =>
              go_wp2
              go_ret
              exact SerPost.mk_ HE.out (by rw [E1.out]; exact rfl) HS2.out
            | true =>
              go_wp2
              go_roundg (N - (i + 1))
              case measure => omega
              case rel => exact ⟨i + 1, nt, vs ++ [nv], by simp [HL.out], by omega, rfl, by go_num, by have := HS2.out.store hbv (by rw [HL.out]; exact hiN) nv; rwa [HL.out] at this, by rw [HE.out, E1.out]; simp⟩
        · have hsgb : sgB ti ⟨#[c]⟩ = false := by simpa using hsgb
          have E1 : Hid (ser ((c, n, m) :: l.drop (i + 1)) ti = (false, ti, [])) := by
            show ser _ _ = _
            rw [ser, if_neg hc32, if_neg (by rw [hsgb]; simp)]
          have ht : sgT ti ⟨#[c]⟩ = ti := by unfold sgT; rw [hsgb]; rfl
          rw [hsgb, ht] at C35
          clear hsgb hc32 ht
          generalize sgV ti ⟨#[c]⟩ = sv at C35
          go_wp2_with (go_at_call 96; refine C35.mono ?_; rintro e w1 ⟨rfl, hg1, hb1⟩; have HS1 := Lib.hid (HS.out.step hbv hg1 hb1); clear hg1 hb1)
          go_ret
          exact SerPost.mk_ HE.out E1.out HS1.out
    · have e : i = N := by omega
      have hz : l.drop i = [] := List.drop_of_length_le (by omega)
      rw [hz] at he
      have HE := Lib.hid he
      have HS := Lib.hid hs
      clear he hs hp hn hm hsc hz
      subst e
      go_wp2
      go_ret
      exact SerPost.mk_yes HE.out HS.out
end Go.Proofs.YtcplaafmelcndaaGreatDoor.Txt
end
section
/- The contracts of date.text's zone and of date.Parse. -/
namespace Go.Proofs.YtcplaafmelcndaaGreatDoor.Txt
open Go.RowKit
/-- How far a text is ahead of UTC: what it is, whether it may be, what is left. -/
def zSigns : ByteArray := ⟨#[90, 43, 45]⟩
def zL : List (UInt8 × Nat × Int) := [(32, 2, 23), (58, 2, 59)]
def zV (t : ByteArray) : Int :=
  if sgB t zSigns && !(sgV t zSigns == 90) then
    if sgV t zSigns = 45 then -((ser zL (sgT t zSigns)).2.2.getD 0 0) * 3600 - ((ser zL (sgT t zSigns)).2.2.getD 1 0) * 60 else ((ser zL (sgT t zSigns)).2.2.getD 0 0) * 3600 + ((ser zL (sgT t zSigns)).2.2.getD 1 0) * 60
  else 0
def zOk (t : ByteArray) : Bool := if sgB t zSigns && !(sgV t zSigns == 90) then (ser zL (sgT t zSigns)).1 else sgB t zSigns
def zT (t : ByteArray) : ByteArray := if sgB t zSigns && !(sgV t zSigns == 90) then (ser zL (sgT t zSigns)).2.1 else sgT t zSigns
theorem zone_none (b : Nat) (t : ByteArray) (w : World) (hb : w.heap[b]? = some (.cells #[.string t] 94 (0, 0))) (hn : sgB t zSigns = false) :
    Calls Tryz.prog 73 #[.pointer (some ⟨b, 0, none⟩)] w (TxtPost b w (.int .i64 0) (.bool false) (sgT t zSigns)) := by
  have C := sign_any b t zSigns w hb
  rw [hn] at C
  clear hn
  generalize sgT t zSigns = t1 at C ⊢
  unfold zSigns at C
  generalize sgV t _ = v at C
  go_enter Tryz.func73, Tryz.ntmps73
  go_wp2_with (go_at_call 96; refine C.mono ?_; rintro e w' ⟨rfl, hg, hb'⟩; have HG := Lib.hid hg; have HB := Lib.hid hb'; clear hg hb')
  go_ret2
  exact ⟨rfl, HG.out, HB.out⟩
theorem zone_utc (b : Nat) (t : ByteArray) (w : World) (hb : w.heap[b]? = some (.cells #[.string t] 94 (0, 0))) (hn : sgB t zSigns = true) (h90 : sgV t zSigns = 90) :
    Calls Tryz.prog 73 #[.pointer (some ⟨b, 0, none⟩)] w (TxtPost b w (.int .i64 0) (.bool true) (sgT t zSigns)) := by
  have C := sign_any b t zSigns w hb
  rw [hn, h90] at C
  clear hn h90
  generalize sgT t zSigns = t1 at C ⊢
  unfold zSigns at C
  go_enter Tryz.func73, Tryz.ntmps73
  go_wp2_with (go_at_call 96; refine C.mono ?_; rintro e w' ⟨rfl, hg, hb'⟩; have HG := Lib.hid hg; have HB := Lib.hid hb'; clear hg hb')
  go_ret2
  exact ⟨rfl, HG.out, HB.out⟩
theorem heap_alloc (w : World) (o : Obj) (k : Nat) : (w.alloc o).heap[k]? = if k = w.heap.size then some o else w.heap[k]? := by
  show (w.heap.push o)[k]? = _
  rw [Array.getElem?_push]
theorem size_alloc (w : World) (o : Obj) : (w.alloc o).heap.size = w.heap.size + 1 := by
  show (w.heap.push o).size = _
  simp
/-- The world in which the zone's series is called. -/
def zW (W : World) : World :=
  (((((W.alloc (Obj.cells #[Value.int IntKind.i64 0] 3)).alloc (Obj.cells #[Value.int IntKind.i64 0] 3)).alloc
              (Obj.cells #[Value.pointer (some { block := W.heap.size, off := 0 }), Value.pointer (some { block := W.heap.size + 1, off := 0 })] 96)).alloc
          (Obj.cells #[Value.int IntKind.i64 2, Value.int IntKind.i64 2] 3)).alloc
      (Obj.cells #[Value.int IntKind.i64 23, Value.int IntKind.i64 59] 3))
theorem zW_size (W : World) : (zW W).heap.size = W.heap.size + 5 := by simp [zW]
theorem zW_heap (W : World) (k : Nat) : (zW W).heap[k]? = if k = W.heap.size + 4 then some (Obj.cells #[Value.int IntKind.i64 23, Value.int IntKind.i64 59] 3) else
    if k = W.heap.size + 3 then some (Obj.cells #[Value.int IntKind.i64 2, Value.int IntKind.i64 2] 3) else
    if k = W.heap.size + 2 then some (Obj.cells #[Value.pointer (some { block := W.heap.size, off := 0 }), Value.pointer (some { block := W.heap.size + 1, off := 0 })] 96) else
    if k = W.heap.size + 1 then some (Obj.cells #[Value.int IntKind.i64 0] 3) else
    if k = W.heap.size then some (Obj.cells #[Value.int IntKind.i64 0] 3) else W.heap[k]? := by
  unfold zW
  simp only [heap_alloc, size_alloc]
theorem zone_series (b : Nat) (t1 : ByteArray) (W : World) (hb : W.heap[b]? = some (.cells #[.string t1] 94 (0, 0))) :
    Calls Tryz.prog 70 #[Value.pointer (some { block := b, off := 0 }), Value.string { data := #[32, 58] }, Value.slice (some { block := W.heap.size + 1 + 1, off := 0 }) 2 2,
      Value.slice (some { block := W.heap.size + 1 + 1 + 1, off := 0 }) 2 2, Value.slice (some { block := W.heap.size + 1 + 1 + 1 + 1, off := 0 }) 2 2] (zW W) (SerPost b W.heap.size 2 (zW W) (ser zL t1)) := by
  have hlt := lt_of_block hb
  refine series_any b W.heap.size 2 (W.heap.size + 2) (W.heap.size + 3) (W.heap.size + 4) t1 ⟨#[32, 58]⟩ zL (zW W) rfl rfl ?_ ?_ hlt (by omega) (by omega) (by omega) ?_ ?_ ?_ (by omega)
  · intro i x hx
    match i, hx with
    | 0, hx => cases hx; exact ⟨rfl, by decide, by decide⟩
    | 1, hx => cases hx; exact ⟨rfl, by decide, by decide⟩
    | i + 2, hx => simp [zL] at hx
  · refine ⟨rfl, rfl, rfl, Nat.le_refl _, fun _ _ _ _ => rfl, ?_, fun j hj => ?_⟩
    · rw [zW_heap, if_neg (by omega), if_neg (by omega), if_neg (by omega), if_neg (by omega), if_neg (by omega)]; exact hb
    · rw [zW_heap, if_neg (by omega), if_neg (by omega), if_neg (by omega)]
      match j, hj with
      | 0, _ => rw [if_neg (by omega), if_pos (by omega)]; rfl
      | 1, _ => rw [if_pos (by omega)]; rfl
  · intro i hi
    simp only [World.cell?, zW_heap, if_neg (show ¬ W.heap.size + 2 = W.heap.size + 4 by omega), if_neg (show ¬ W.heap.size + 2 = W.heap.size + 3 by omega), if_true]
    match i, hi with
    | 0, _ => rfl
    | 1, _ => rfl
  · intro i x hx
    simp only [World.cell?, zW_heap, if_neg (show ¬ W.heap.size + 3 = W.heap.size + 4 by omega), if_true]
    match i, hx with
    | 0, hx => cases hx; rfl
    | 1, hx => cases hx; rfl
    | i + 2, hx => simp [zL] at hx
  · intro i x hx
    simp only [World.cell?, zW_heap, if_true]
    match i, hx with
    | 0, hx => cases hx; rfl
    | 1, hx => cases hx; rfl
    | i + 2, hx => simp [zL] at hx
/-- What the series leaves to the zone: two numbers in blocks of their own; of what was there the text alone is another. -/
def ZPost (b : Nat) (W : World) (p : Bool) (t2 : ByteArray) (h m : Int) (e : Ending) (w' : World) : Prop :=
  e = .returned (.bool p) ∧ w'.cell? ⟨W.heap.size, 0, none⟩ = some (.int .i64 h) ∧ w'.cell? ⟨W.heap.size + 1, 0, none⟩ = some (.int .i64 m) ∧ W.grownBy w' (some b) ∧ w'.heap[b]? = some (.cells #[.string t2] 94 (0, 0))
theorem zone_series' (b : Nat) (t1 : ByteArray) (W : World) (hb : W.heap[b]? = some (.cells #[.string t1] 94 (0, 0))) (p : Bool) (t2 : ByteArray) (h m : Int) (hp : (ser zL t1).1 = p) (ht2 : (ser zL t1).2.1 = t2) (hh : (ser zL t1).2.2.getD 0 0 = h) (hm : (ser zL t1).2.2.getD 1 0 = m) :
    Calls Tryz.prog 70 #[Value.pointer (some { block := b, off := 0 }), Value.string { data := #[32, 58] }, Value.slice (some { block := W.heap.size + 1 + 1, off := 0 }) 2 2,
      Value.slice (some { block := W.heap.size + 1 + 1 + 1, off := 0 }) 2 2, Value.slice (some { block := W.heap.size + 1 + 1 + 1 + 1, off := 0 }) 2 2] (zW W) (ZPost b W p t2 h m) := by
  have hlt := lt_of_block hb
  refine (zone_series b t1 W hb).mono ?_
  rintro e w' ⟨he, hs⟩
  have h0 := hs.var 0 (by omega)
  have h1 := hs.var 1 (by omega)
  rw [hh] at h0
  rw [hm] at h1
  refine ⟨by rw [he, hp], cell_of_one h0, cell_of_one h1, ⟨hs.os, hs.tape, hs.output, ?_, fun k hk hne => ?_⟩, by rw [← ht2]; exact hs.txt⟩
  · have := hs.size; rw [zW_size] at this; omega
  · rw [hs.blk k (by rw [zW_size]; omega) (by simpa using hne) (.inl hk), zW_heap, if_neg (by omega), if_neg (by omega), if_neg (by omega), if_neg (by omega), if_neg (by omega)]
theorem wB_le {t : ByteArray} {n : Nat} {m : Int} (h : wB t n m = true) : nV t n ≤ m := by
  unfold wB at h
  rw [Bool.and_eq_true] at h
  exact of_decide_eq_true h.2
theorem ser_bound (l : List (UInt8 × Nat × Int)) (M : Int) (h : ∀ x ∈ l, x.2.2 ≤ M) (h0 : 0 ≤ M) : ∀ (t : ByteArray) (j : Nat), 0 ≤ (ser l t).2.2.getD j 0 ∧ (ser l t).2.2.getD j 0 ≤ M := by
  induction l with
  | nil => intro t j; simp [ser]; exact h0
  | cons x l ih =>
    obtain ⟨c, n, m⟩ := x
    have ih' := ih (fun x hx => h x (List.mem_cons_of_mem _ hx))
    have hm : m ≤ M := h _ List.mem_cons_self
    intro t j
    rw [ser]
    split
    · split
      · rename_i hw
        cases j with
        | zero => exact ⟨nV_ge _ _, Int.le_trans (wB_le hw) hm⟩
        | succ j => exact ih' _ j
      · simp; exact h0
    · split
      · split
        · rename_i hw
          cases j with
          | zero => exact ⟨nV_ge _ _, Int.le_trans (wB_le hw) hm⟩
          | succ j => exact ih' _ j
        · simp; exact h0
      · simp; exact h0
theorem zone_num (b : Nat) (t t1 : ByteArray) (w : World) (hb : w.heap[b]? = some (.cells #[.string t] 94 (0, 0))) (hn : sgB t zSigns = true) (c : Int) (hc : sgV t zSigns = c) (h90 : (c == 90) = false) (ht : sgT t zSigns = t1)
    (p : Bool) (t2 : ByteArray) (h m z : Int) (hp : (ser zL t1).1 = p) (ht2 : (ser zL t1).2.1 = t2) (hh : (ser zL t1).2.2.getD 0 0 = h) (hm : (ser zL t1).2.2.getD 1 0 = m) (hz : z = if c = 45 then -h * 3600 - m * 60 else h * 3600 + m * 60) :
    Calls Tryz.prog 73 #[.pointer (some ⟨b, 0, none⟩)] w (TxtPost b w (.int .i64 z) (.bool p) t2) := by
  have C := sign_any b t zSigns w hb
  rw [hn, hc, ht] at C
  clear hn hc ht
  unfold zSigns at C
  have bh : 0 ≤ h ∧ h ≤ 59 := by rw [← hh]; exact ser_bound zL 59 (by decide) (by decide) t1 0
  have bm : 0 ≤ m ∧ m ≤ 59 := by rw [← hm]; exact ser_bound zL 59 (by decide) (by decide) t1 1
  have HH := Lib.hid hh
  have HM := Lib.hid hm
  have HP := Lib.hid hp
  have HT := Lib.hid ht2
  clear hh hm hp ht2
  obtain ⟨bh1, bh2⟩ := bh
  obtain ⟨bm1, bm2⟩ := bm
  by_cases h45 : c = 45
  · have h45' : (c == 45) = true := by rw [h45]; rfl
    rw [if_pos h45] at hz
    have HZ := Lib.hid hz
    clear hz h45
    go_enter Tryz.func73, Tryz.ntmps73
    go_wp2_with (first | (go_at_call 96; refine C.mono ?_; rintro e w1 ⟨rfl, hg, hb'⟩; have HG := Lib.hid hg; have HB := Lib.hid hb'; clear hg hb') | (go_at_call 70; refine (zone_series' b t1 _ HB.out p t2 h m HP.out HT.out HH.out HM.out).mono ?_; rintro e w2 ⟨rfl, hc0, hc1, hg, hb2⟩; have HG2 := Lib.hid hg; have HB2 := Lib.hid hb2; clear hg hb2))
    go_ret2
    refine ⟨?_, HG.out.trans HG2.out, HB2.out⟩
    rw [HZ.out]
    simp
  · have h45' : (c == 45) = false := by simpa using h45
    rw [if_neg h45] at hz
    have HZ := Lib.hid hz
    clear hz h45
    go_enter Tryz.func73, Tryz.ntmps73
    go_wp2_with (first | (go_at_call 96; refine C.mono ?_; rintro e w1 ⟨rfl, hg, hb'⟩; have HG := Lib.hid hg; have HB := Lib.hid hb'; clear hg hb') | (go_at_call 70; refine (zone_series' b t1 _ HB.out p t2 h m HP.out HT.out HH.out HM.out).mono ?_; rintro e w2 ⟨rfl, hc0, hc1, hg, hb2⟩; have HG2 := Lib.hid hg; have HB2 := Lib.hid hb2; clear hg hb2))
    go_ret2
    refine ⟨?_, HG.out.trans HG2.out, HB2.out⟩
    rw [HZ.out]
    simp
theorem zone_any (b : Nat) (t : ByteArray) (w : World) (hb : w.heap[b]? = some (.cells #[.string t] 94 (0, 0))) :
    Calls Tryz.prog 73 #[.pointer (some ⟨b, 0, none⟩)] w (TxtPost b w (.int .i64 (zV t)) (.bool (zOk t)) (zT t)) := by
  unfold zV zOk zT
  cases hs : sgB t zSigns with
  | false => exact zone_none b t w hb hs
  | true =>
    cases h9 : sgV t zSigns == 90 with
    | true => exact zone_utc b t w hb hs (by simpa using h9)
    | false => exact zone_num b t _ w hb hs _ rfl h9 rfl _ _ _ _ _ rfl rfl rfl rfl rfl
end Go.Proofs.YtcplaafmelcndaaGreatDoor.Txt
end
section
/- The contracts of date.leap, date.lastDay and date.day, within the bounds in which date.Parse calls them. -/
namespace Go.Proofs.YtcplaafmelcndaaGreatDoor.Txt
open Go.RowKit
def leapB (y : Int) : Bool := decide (y % 4 = 0) && (!decide (y % 100 = 0) || decide (y % 400 = 0))
def lastD (y m : Int) : Int := if m = 2 then (if leapB y then 29 else 28) else 30 + (m + m / 8) % 2
def dayF (y m d : Int) : Int := if m < 3 then 365 * (y - 1 + 400) + (y - 1 + 400) / 4 - (y - 1 + 400) / 100 + (y - 1 + 400) / 400 + (153 * (m + 12 - 3) + 2) / 5 + d - 1 - 719468 - 146097 else 365 * (y + 400) + (y + 400) / 4 - (y + 400) / 100 + (y + 400) / 400 + (153 * (m - 3) + 2) / 5 + d - 1 - 719468 - 146097
theorem ret_int {k : IntKind} {a b : Int} (h : a = b) : Ending.returned (.int k a) = Ending.returned (.int k b) := by rw [h]
theorem day_any (y m d : Int) (w : World) (hy : 0 ≤ y) (hy' : y ≤ 9999) (hm : 1 ≤ m) (hm' : m ≤ 12) (hd : 0 ≤ d) (hd' : d ≤ 99) :
    Calls Tryz.prog 74 #[.int .i64 y, .int .i64 m, .int .i64 d] w fun e w' => e = .returned (.int .i64 (dayF y m d)) ∧ w = w' := by
  unfold dayF
  by_cases h3 : m < 3
  · rw [if_pos h3]
    go_enter Tryz.func74, Tryz.ntmps74
    go_wp2
    go_ret
    exact ⟨rfl, rfl⟩
  · rw [if_neg h3]
    go_enter Tryz.func74, Tryz.ntmps74
    go_wp2
    go_ret
    exact ⟨rfl, rfl⟩
theorem leap_any (y : Int) (w : World) (hy : 0 ≤ y) (hy' : y ≤ 9999) :
    Calls Tryz.prog 98 #[.int .i64 y] w fun e w' => e = .returned (.bool (leapB y)) ∧ w = w' := by
  unfold leapB
  by_cases h4 : y % 4 = 0
  · by_cases h100 : y % 100 = 0
    · have e1 : (y % 4 == 0) = true := by simpa using h4
      have e2 : (y % 100 != 0) = false := by simpa using h100
      go_enter Tryz.func98, Tryz.ntmps98
      go_wp2
      go_ret
      exact ⟨by simp [h4, h100]; rw [Bool.eq_iff_iff]; simp, rfl⟩
    · have e1 : (y % 4 == 0) = true := by simpa using h4
      have e2 : (y % 100 != 0) = true := by simpa using h100
      go_enter Tryz.func98, Tryz.ntmps98
      go_wp2
      go_ret
      exact ⟨by simp [h4, h100], rfl⟩
  · have e1 : (y % 4 == 0) = false := by simpa using h4
    go_enter Tryz.func98, Tryz.ntmps98
    go_wp2
    go_ret
    exact ⟨by simp [h4], rfl⟩
theorem lastDay_any (y m : Int) (w : World) (hy : 0 ≤ y) (hy' : y ≤ 9999) (hm : 1 ≤ m) (hm' : m ≤ 12) :
    Calls Tryz.prog 71 #[.int .i64 y, .int .i64 m] w fun e w' => e = .returned (.int .i64 (lastD y m)) ∧ w = w' := by
  unfold lastD
  by_cases h2 : m = 2
  · subst h2
    have C := leap_any y w hy hy'
    rw [if_pos rfl]
    generalize leapB y = p at C ⊢
    cases p with
    | false =>
      go_enter Tryz.func71, Tryz.ntmps71
      go_wp2_with (go_at_call 98; refine C.mono ?_; rintro e w' ⟨rfl, rfl⟩)
      go_ret
      exact ⟨rfl, rfl⟩
    | true =>
      go_enter Tryz.func71, Tryz.ntmps71
      go_wp2_with (go_at_call 98; refine C.mono ?_; rintro e w' ⟨rfl, rfl⟩)
      go_ret
      exact ⟨rfl, rfl⟩
  · rw [if_neg h2]
    have hc : m = 1 ∨ m = 3 ∨ m = 4 ∨ m = 5 ∨ m = 6 ∨ m = 7 ∨ m = 8 ∨ m = 9 ∨ m = 10 ∨ m = 11 ∨ m = 12 := by omega
    clear h2 hm hm'
    rcases hc with rfl | rfl | rfl | rfl | rfl | rfl | rfl | rfl | rfl | rfl | rfl
    all_goals
      go_enter Tryz.func71, Tryz.ntmps71
      go_wp2
      go_ret
      exact ⟨ret_int (by decide +kernel), rfl⟩
end Go.Proofs.YtcplaafmelcndaaGreatDoor.Txt
end
section
/- The contract of date.Parse. -/
namespace Go.Proofs.YtcplaafmelcndaaGreatDoor.Txt
open Go.RowKit
/-- The world in which the series of a point of time is called. -/
def pW (s : ByteArray) (w : World) : World :=
    (((((((((((w.alloc (Obj.cells #[Value.int IntKind.i64 0, Value.int IntKind.i64 0] 68)).alloc
                                          (Obj.cells #[Value.string s] 94)).alloc
                                      (Obj.cells #[Value.int IntKind.i64 0] 3)).alloc
                                  (Obj.cells #[Value.int IntKind.i64 0] 3)).alloc
                              (Obj.cells #[Value.int IntKind.i64 0] 3)).alloc
                          (Obj.cells #[Value.int IntKind.i64 0] 3)).alloc
                      (Obj.cells #[Value.int IntKind.i64 0] 3)).alloc
                  (Obj.cells #[Value.int IntKind.i64 0] 3)).alloc
              (Obj.cells
                #[Value.pointer (some { block := w.heap.size + 1 + 1, off := 0 }),
                  Value.pointer (some { block := w.heap.size + 1 + 1 + 1, off := 0 }),
                  Value.pointer (some { block := w.heap.size + 1 + 1 + 1 + 1, off := 0 }),
                  Value.pointer (some { block := w.heap.size + 1 + 1 + 1 + 1 + 1, off := 0 }),
                  Value.pointer (some { block := w.heap.size + 1 + 1 + 1 + 1 + 1 + 1, off := 0 }),
                  Value.pointer (some { block := w.heap.size + 1 + 1 + 1 + 1 + 1 + 1 + 1, off := 0 })]
                96)).alloc
          (Obj.cells
            #[Value.int IntKind.i64 4, Value.int IntKind.i64 2, Value.int IntKind.i64 2, Value.int IntKind.i64 2,
              Value.int IntKind.i64 2, Value.int IntKind.i64 2]
            3)).alloc
      (Obj.cells
        #[Value.int IntKind.i64 9999, Value.int IntKind.i64 12, Value.int IntKind.i64 31, Value.int IntKind.i64 23,
          Value.int IntKind.i64 59, Value.int IntKind.i64 59]
        3))
def pL : List (UInt8 × Nat × Int) := [(32, 4, 9999), (45, 2, 12), (45, 2, 31), (84, 2, 23), (58, 2, 59), (58, 2, 59)]
theorem pW_size (s : ByteArray) (w : World) : (pW s w).heap.size = w.heap.size + 11 := by simp only [pW, size_alloc]
theorem pW_lo (s : ByteArray) (w : World) (k : Nat) (h : k < w.heap.size) : (pW s w).heap[k]? = w.heap[k]? := by
  simp only [pW, heap_alloc, size_alloc]
  repeat rw [if_neg (by omega)]
theorem pW_0 (s : ByteArray) (w : World) : (pW s w).heap[w.heap.size]? = some (.cells #[.int .i64 0, .int .i64 0] 68 (0, 0)) := by
  simp only [pW, heap_alloc, size_alloc]
  rw [if_neg (by omega), if_neg (by omega), if_neg (by omega), if_neg (by omega), if_neg (by omega), if_neg (by omega), if_neg (by omega), if_neg (by omega), if_neg (by omega), if_neg (by omega), if_pos (by first | trivial | omega)]
theorem pW_1 (s : ByteArray) (w : World) : (pW s w).heap[w.heap.size + 1]? = some (.cells #[.string s] 94 (0, 0)) := by
  simp only [pW, heap_alloc, size_alloc]
  rw [if_neg (by omega), if_neg (by omega), if_neg (by omega), if_neg (by omega), if_neg (by omega), if_neg (by omega), if_neg (by omega), if_neg (by omega), if_neg (by omega), if_pos (by first | trivial | omega)]
theorem pW_v (s : ByteArray) (w : World) (k : Nat) (h : w.heap.size + 2 ≤ k) (h2 : k < w.heap.size + 8) : (pW s w).heap[k]? = some (.cells #[.int .i64 0] 3 (0, 0)) := by
  simp only [pW, heap_alloc, size_alloc]
  rw [if_neg (by omega), if_neg (by omega), if_neg (by omega)]
  split
  · rfl
  split
  · rfl
  split
  · rfl
  split
  · rfl
  split
  · rfl
  rw [if_pos (by first | trivial | omega)]
theorem pW_8 (s : ByteArray) (w : World) : (pW s w).heap[w.heap.size + 8]? = some (.cells #[.pointer (some ⟨w.heap.size + 2, 0, none⟩), .pointer (some ⟨w.heap.size + 3, 0, none⟩), .pointer (some ⟨w.heap.size + 4, 0, none⟩), .pointer (some ⟨w.heap.size + 5, 0, none⟩), .pointer (some ⟨w.heap.size + 6, 0, none⟩), .pointer (some ⟨w.heap.size + 7, 0, none⟩)] 96 (0, 0)) := by
  simp only [pW, heap_alloc, size_alloc]
  rw [if_neg (by omega), if_neg (by omega), if_pos (by first | trivial | omega)]
theorem pW_9 (s : ByteArray) (w : World) : (pW s w).heap[w.heap.size + 9]? = some (.cells #[.int .i64 4, .int .i64 2, .int .i64 2, .int .i64 2, .int .i64 2, .int .i64 2] 3 (0, 0)) := by
  simp only [pW, heap_alloc, size_alloc]
  rw [if_neg (by omega), if_pos (by first | trivial | omega)]
theorem pW_10 (s : ByteArray) (w : World) : (pW s w).heap[w.heap.size + 10]? = some (.cells #[.int .i64 9999, .int .i64 12, .int .i64 31, .int .i64 23, .int .i64 59, .int .i64 59] 3 (0, 0)) := by
  simp only [pW, heap_alloc, size_alloc]
  rw [if_pos (by first | trivial | omega)]
/-- What date.Parse has in memory: its result, its text, its six numbers; all else is as it was. -/
structure PSt (w w' : World) (t : ByteArray) (y mo d h mi se : Int) : Prop where
  grow : w.grownBy w' none
  res : w'.heap[w.heap.size]? = some (.cells #[.int .i64 0, .int .i64 0] 68 (0, 0))
  txt : w'.heap[w.heap.size + 1]? = some (.cells #[.string t] 94 (0, 0))
  c5 : w'.cell? ⟨w.heap.size + 1 + 1, 0, none⟩ = some (.int .i64 y)
  c6 : w'.cell? ⟨w.heap.size + 1 + 1 + 1, 0, none⟩ = some (.int .i64 mo)
  c7 : w'.cell? ⟨w.heap.size + 1 + 1 + 1 + 1, 0, none⟩ = some (.int .i64 d)
  c8 : w'.cell? ⟨w.heap.size + 1 + 1 + 1 + 1 + 1, 0, none⟩ = some (.int .i64 h)
  c9 : w'.cell? ⟨w.heap.size + 1 + 1 + 1 + 1 + 1 + 1, 0, none⟩ = some (.int .i64 mi)
  c10 : w'.cell? ⟨w.heap.size + 1 + 1 + 1 + 1 + 1 + 1 + 1, 0, none⟩ = some (.int .i64 se)
theorem PSt.step {w w1 w2 : World} {t t' : ByteArray} {y mo d h mi se : Int} (s : PSt w w1 t y mo d h mi se) (hg : w1.grownBy w2 (some (w.heap.size + 1))) (hb : w2.heap[w.heap.size + 1]? = some (.cells #[.string t'] 94 (0, 0))) : PSt w w2 t' y mo d h mi se := by
  refine ⟨⟨hg.os.trans s.grow.os, hg.tape.trans s.grow.tape, hg.output.trans s.grow.output, Nat.le_trans s.grow.size hg.size, fun k hk _ => ?_⟩, ?_, hb, hg.cell s.c5 (by simp), hg.cell s.c6 (by simp; omega), hg.cell s.c7 (by simp; omega), hg.cell s.c8 (by simp; omega), hg.cell s.c9 (by simp; omega), hg.cell s.c10 (by simp; omega)⟩
  · rw [hg.block k (Nat.lt_of_lt_of_le hk s.grow.size) (by simp; omega)]; exact s.grow.block k hk (by simp)
  · rw [hg.block _ (lt_of_block s.res) (by simp)]; exact s.res
def PSerPost (w : World) (p : Bool) (t : ByteArray) (y mo d h mi se : Int) (e : Ending) (w' : World) : Prop := e = .returned (.bool p) ∧ PSt w w' t y mo d h mi se
set_option maxHeartbeats 100000 in
theorem parse_series (s t : ByteArray) (w : World) (p : Bool) (y mo d h mi se : Int) (hp : (ser pL s).1 = p) (ht : (ser pL s).2.1 = t) (e0 : (ser pL s).2.2.getD 0 0 = y) (e1 : (ser pL s).2.2.getD 1 0 = mo) (e2 : (ser pL s).2.2.getD 2 0 = d) (e3 : (ser pL s).2.2.getD 3 0 = h) (e4 : (ser pL s).2.2.getD 4 0 = mi) (e5 : (ser pL s).2.2.getD 5 0 = se) :
    Calls Tryz.prog 70 #[Value.pointer (some { block := w.heap.size + 1, off := 0 }), Value.string { data := #[32, 45, 45, 84, 58, 58] },
      Value.slice (some { block := w.heap.size + 1 + 1 + 1 + 1 + 1 + 1 + 1 + 1, off := 0 }) 6 6,
      Value.slice (some { block := w.heap.size + 1 + 1 + 1 + 1 + 1 + 1 + 1 + 1 + 1, off := 0 }) 6 6,
      Value.slice (some { block := w.heap.size + 1 + 1 + 1 + 1 + 1 + 1 + 1 + 1 + 1 + 1, off := 0 }) 6 6] (pW s w) (PSerPost w p t y mo d h mi se) := by
  have C := series_any (w.heap.size + 1) (w.heap.size + 2) 6 (w.heap.size + 8) (w.heap.size + 9) (w.heap.size + 10) s ⟨#[32, 45, 45, 84, 58, 58]⟩ pL (pW s w) rfl rfl ?_ ?_ (by omega) (by omega) (by omega) (by omega) ?_ ?_ ?_ (by omega)
  · refine C.mono ?_
    rintro e w' ⟨he, hs⟩
    refine ⟨by rw [he, hp], ⟨hs.os, hs.tape, hs.output, ?_, fun k hk _ => ?_⟩, ?_, by rw [← ht]; exact hs.txt, ?_, ?_, ?_, ?_, ?_, ?_⟩
    · have := hs.size; rw [pW_size] at this; omega
    · rw [hs.blk k (by rw [pW_size]; omega) (by omega) (.inl (by omega)), pW_lo _ _ _ hk]
    · rw [hs.blk _ (by rw [pW_size]; omega) (by omega) (.inl (by omega)), pW_0]
    · rw [← e0]; exact cell_of_one (hs.var 0 (by omega))
    · rw [← e1]; exact cell_of_one (hs.var 1 (by omega))
    · rw [← e2]; exact cell_of_one (hs.var 2 (by omega))
    · rw [← e3]; exact cell_of_one (hs.var 3 (by omega))
    · rw [← e4]; exact cell_of_one (hs.var 4 (by omega))
    · rw [← e5]; exact cell_of_one (hs.var 5 (by omega))
  · intro i x hx
    match i, hx with
    | 0, hx => cases hx; exact ⟨rfl, by decide, by decide⟩
    | 1, hx => cases hx; exact ⟨rfl, by decide, by decide⟩
    | 2, hx => cases hx; exact ⟨rfl, by decide, by decide⟩
    | 3, hx => cases hx; exact ⟨rfl, by decide, by decide⟩
    | 4, hx => cases hx; exact ⟨rfl, by decide, by decide⟩
    | 5, hx => cases hx; exact ⟨rfl, by decide, by decide⟩
    | i + 6, hx => simp [pL] at hx
  · refine ⟨rfl, rfl, rfl, Nat.le_refl _, fun _ _ _ _ => rfl, pW_1 s w, fun j hj => ?_⟩
    rw [pW_v s w _ (by omega) (by omega)]; simp
  · intro i hi
    simp only [World.cell?, pW_8]
    match i, hi with
    | 0, _ => rfl
    | 1, _ => rfl
    | 2, _ => rfl
    | 3, _ => rfl
    | 4, _ => rfl
    | 5, _ => rfl
  · intro i x hx
    simp only [World.cell?, pW_9]
    match i, hx with
    | 0, hx => cases hx; rfl
    | 1, hx => cases hx; rfl
    | 2, hx => cases hx; rfl
    | 3, hx => cases hx; rfl
    | 4, hx => cases hx; rfl
    | 5, hx => cases hx; rfl
    | i + 6, hx => simp [pL] at hx
  · intro i x hx
    simp only [World.cell?, pW_10]
    match i, hx with
    | 0, hx => cases hx; rfl
    | 1, hx => cases hx; rfl
    | 2, hx => cases hx; rfl
    | 3, hx => cases hx; rfl
    | 4, hx => cases hx; rfl
    | 5, hx => cases hx; rfl
    | i + 6, hx => simp [pL] at hx
end Go.Proofs.YtcplaafmelcndaaGreatDoor.Txt
end
section
/- The contract of date.Parse. -/
namespace Go.Proofs.YtcplaafmelcndaaGreatDoor.Txt
open Go.RowKit
def PPost (w : World) (r1 r2 r3 : Int) (e : Ending) (w' : World) : Prop :=
  e = .returned (.tuple #[.agg #[.int .i64 r1, .int .i64 r2], .int .i64 r3]) ∧ Below w.heap.size w w'
/-- The bounds of what a series took. -/
structure PBd (y mo d h mi se : Int) : Prop where
  y0 : 0 ≤ y
  y1 : y ≤ 9999
  mo0 : 0 ≤ mo
  mo1 : mo ≤ 12
  d0 : 0 ≤ d
  d1 : d ≤ 31
  h0 : 0 ≤ h
  h1 : h ≤ 23
  mi0 : 0 ≤ mi
  mi1 : mi ≤ 59
  se0 : 0 ≤ se
  se1 : se ≤ 59
theorem PSt.drewN {w w1 : World} {t : ByteArray} {y mo d h mi se : Int} (s : PSt w w1 t y mo d h mi se) (n : Nat) : PSt w (w1.drewN n) t y mo d h mi se :=
  ⟨⟨s.grow.os, s.grow.tape, s.grow.output, s.grow.size, s.grow.block⟩, s.res, s.txt, s.c5, s.c6, s.c7, s.c8, s.c9, s.c10⟩
theorem two_cell {w : World} {b : Nat} {v u : Value} {t : TypeId} (h : w.heap[b]? = some (.cells #[v, u] t (0, 0))) : w.cell? ⟨b, 0, none⟩ = some v ∧ w.cell? ⟨b, 1, none⟩ = some u ∧ w.frozen? ⟨b, 0, none⟩ = false ∧ w.frozen? ⟨b, 1, none⟩ = false := by
  refine ⟨?_, ?_, ?_, ?_⟩ <;> simp [World.cell?, World.frozen?, h]
theorem two_store {w : World} {b : Nat} {v u : Value} {t : TypeId} (h : w.heap[b]? = some (.cells #[v, u] t (0, 0))) (a c : Value) : ((w.setCell ⟨b, 0, none⟩ a).setCell ⟨b, 1, none⟩ c).heap[b]? = some (.cells #[a, c] t (0, 0)) := by
  have hlt := lt_of_block h
  simp [World.setCell, Array.getElem?_modify, h]
theorem below_two {w w1 : World} {b : Nat} (h : w.grownBy w1 none) (hb : w.heap.size ≤ b) (a c : Value) : Below w.heap.size w ((w1.setCell ⟨b, 0, none⟩ a).setCell ⟨b, 1, none⟩ c) :=
  ((Below.mk h.os h.tape h.output h.size (fun k hk => h.block k hk (by simp)) : Below w.heap.size w w1).setCell (p := ⟨b, 0, none⟩) hb a).setCell (p := ⟨b, 1, none⟩) hb c
/-- May the day be none of a month's? -/
def bad (p : Bool) (y mo d : Int) : Bool := !p || (decide (mo < 1) || (decide (d < 1) || decide (lastD y mo < d)))
def dpR (p : Bool) (y mo d h mi se fv zv : Int) (fo zo : Bool) (t4 : ByteArray) : Int × Int × Int :=
  if bad p y mo d then (0, 0, 110) else
  if fo && zo && t4.toList.isEmpty then (dayF y mo d * 86400 + h * 3600 + mi * 60 + se - zv, fv, 0) else (0, 0, 110)
set_option maxHeartbeats 2000000 in
set_option maxRecDepth 100000 in
theorem parse_x (s t t3 t4 : ByteArray) (fv zv r1 r2 r3 : Int) (fo zo : Bool) (hts : t.size ≤ 140737488351232) (hf : frV t = fv ∧ frOk t = fo ∧ frT t = t3) (hz : zV t3 = zv ∧ zOk t3 = zo ∧ zT t3 = t4) (hfv : 0 ≤ fv ∧ fv ≤ 999999999) (hzv : -86400 ≤ zv ∧ zv ≤ 86400) (w : World) (p : Bool) (y mo d h mi se : Int) (hr : dpR p y mo d h mi se fv zv fo zo t4 = (r1, r2, r3)) (hb : PBd y mo d h mi se)
    (C : Calls Tryz.prog 70 #[Value.pointer (some { block := w.heap.size + 1, off := 0 }), Value.string { data := #[32, 45, 45, 84, 58, 58] },
      Value.slice (some { block := w.heap.size + 1 + 1 + 1 + 1 + 1 + 1 + 1 + 1, off := 0 }) 6 6,
      Value.slice (some { block := w.heap.size + 1 + 1 + 1 + 1 + 1 + 1 + 1 + 1 + 1, off := 0 }) 6 6,
      Value.slice (some { block := w.heap.size + 1 + 1 + 1 + 1 + 1 + 1 + 1 + 1 + 1 + 1, off := 0 }) 6 6] (pW s w) (PSerPost w p t y mo d h mi se)) :
    Calls Tryz.prog 40 #[.string s] w (PPost w r1 r2 r3) := by
  have HR0 := Lib.hid hr
  have HF := Lib.hid hf
  have HZ := Lib.hid hz
  clear hr hf hz
  obtain ⟨hfv1, hfv2⟩ := hfv
  obtain ⟨hzv1, hzv2⟩ := hzv
  unfold pW at C
  obtain ⟨hy0, hy1, hmo0, hmo1, hd0, hd1, hh0, hh1, hmi0, hmi1, hse0, hse1⟩ := hb
  obtain ⟨q, hq⟩ : ∃ q, bad p y mo d = q := ⟨_, rfl⟩
  have HQ := Lib.hid hq
  clear hq
  go_enter Tryz.func40, Tryz.ntmps40
  go_upto_region 4 with (first | (go_at_call 70; refine C.mono ?_; rintro e w1 ⟨rfl, hs⟩; have c5 := hs.c5; have c6 := hs.c6; have c7 := hs.c7; have HS := Lib.hid hs; clear hs))
  go_cut [37] (fun v wc => v = .bool q ∧ ∃ n, wc = w1.drewN n)
  case first =>
    cases p with
    | false =>
      have hq : q = true := by rw [← HQ.out]; rfl
      subst hq
      clear C HS HQ
      go_quiet (fail)
      go_wp2
      go_meet
      case rel => exact ⟨rfl, _, rfl⟩
    | true =>
      by_cases h1 : mo < 1
      · have hq : q = true := by rw [← HQ.out]; unfold bad; rw [decide_eq_true h1]; rfl
        subst hq
        have e1 : decide (mo < 1) = true := decide_eq_true h1
        clear C HS HQ h1
        go_quiet (fail)
        go_wp2
        go_meet
        case rel => exact ⟨rfl, _, rfl⟩
      · have e1 : decide (mo < 1) = false := decide_eq_false h1
        by_cases h2 : d < 1
        · have e2 : decide (d < 1) = true := decide_eq_true h2
          have hq : q = true := by rw [← HQ.out]; unfold bad; rw [e1, e2]; rfl
          subst hq
          clear C HS HQ h1 h2
          go_quiet (fail)
          go_wp2
          go_meet
          case rel => exact ⟨rfl, _, rfl⟩
        · have e2 : decide (d < 1) = false := decide_eq_false h2
          have hmo : 1 ≤ mo := by omega
          have C19 := fun w => (lastDay_any y mo w hy0 hy1 hmo hmo1).mono (fun e w' ⟨h1, h2⟩ => (⟨h1, h2.symm⟩ : _ ∧ w' = w))
          have hq : decide (lastD y mo < d) = q := by rw [← HQ.out]; unfold bad; rw [e1, e2]; rfl
          clear C HS HQ h1 h2
          generalize lastD y mo = ld at C19 hq
          cases q with
          | true =>
            go_quiet ((go_at_call 71; exact Calls.quiet_of_same (C19 _)))
            go_wp2
            go_meet
            case rel => exact ⟨rfl, _, rfl⟩
          | false =>
            go_quiet ((go_at_call 71; exact Calls.quiet_of_same (C19 _)))
            go_wp2
            go_meet
            case rel => exact ⟨rfl, _, rfl⟩
  case rest =>
    obtain ⟨rfl, n, rfl⟩ := hcut
    have hs := HS.out.drewN n
    have hr := hs.res
    clear c5 c6 c7
    cases q with
    | true =>
      obtain ⟨rc0, rc1, rf0, rf1⟩ := two_cell hr
      have HR := Lib.hid hr
      have HS2 := Lib.hid hs
      clear hs hr C HS
      generalize w1.drewN n = w2 at *
      go_wp2
      obtain ⟨q0, q1, _, _⟩ := two_cell (two_store HR.out (.int .i64 0) (.int .i64 0))
      have hr : ((0 : Int), (0 : Int), (110 : Int)) = (r1, r2, r3) := by rw [← HR0.out]; unfold dpR; rw [HQ.out]; rfl
      cases hr
      exact bodyPost_ret (v := .tuple #[.agg #[.int .i64 0, .int .i64 0], .int .i64 110]) (by simp [results, Tryz.results40, go_sem, q0, q1]) rfl ⟨rfl, below_two HS2.out.grow (Nat.le_refl _) _ _⟩
    | false =>
      have C20 := fraction_any (w.heap.size + 1) t (w1.drewN n) hs.txt (by omega)
      rw [HF.out.1, HF.out.2.1, HF.out.2.2] at C20
      clear hr C HS HF hts
      generalize w1.drewN n = w2 at *
      have HS2 := Lib.hid hs
      clear hs
      by_cases hok : fo = true ∧ zo = true ∧ t4.toList.isEmpty = true
      · obtain ⟨rfl, rfl, h4⟩ := hok
        have hrr : (dayF y mo d * 86400 + h * 3600 + mi * 60 + se - zv, fv, (0 : Int)) = (r1, r2, r3) := by rw [← HR0.out]; unfold dpR; rw [HQ.out, h4]; rfl
        cases hrr
        have hmo : 1 ≤ mo := by
          have := HQ.out; unfold bad at this
          simp only [Bool.or_eq_false_iff, decide_eq_false_iff_not] at this; omega
        have hd : 1 ≤ d := by
          have := HQ.out; unfold bad at this
          simp only [Bool.or_eq_false_iff, decide_eq_false_iff_not] at this; omega
        have C22 := fun w => (day_any y mo d w hy0 hy1 hmo hmo1 hd0 (by omega)).mono (fun e w' ⟨h1, h2⟩ => (⟨h1, h2.symm⟩ : _ ∧ w' = w))
        clear HQ HR0
        have hday : -800000 ≤ dayF y mo d ∧ dayF y mo d ≤ 3000000 := by unfold dayF; split <;> omega
        generalize dayF y mo d = dd at *
        obtain ⟨hdd1, hdd2⟩ := hday
        go_upto_region 10 with (first
          | (go_at_call 72; refine C20.mono ?_; rintro e w3 ⟨rfl, hg, hb⟩; have HS3 := Lib.hid (HS2.out.step hg hb); clear hg hb)
          | (go_at_call 73; refine (zone_any (w.heap.size + 1) t3 _ HS3.out.txt).mono ?_; rw [HZ.out.1, HZ.out.2.1, HZ.out.2.2]; rintro e w4 ⟨rfl, hg, hb⟩; have HS4 := Lib.hid (HS3.out.step hg hb); clear hg hb; have ct := cell_of_one HS4.out.txt))
        have c5 := HS4.out.c5
        have c6 := HS4.out.c6
        have c7 := HS4.out.c7
        have c8 := HS4.out.c8
        have c9 := HS4.out.c9
        have c10 := HS4.out.c10
        clear C20 HZ
        have a5 : IntKind.i64.wrap (dd * 86400) = dd * 86400 := IntWalk.i64_in _ (by omega)
        have a6 : IntKind.i64.wrap (h * 3600) = h * 3600 := IntWalk.i64_in _ (by omega)
        have a7 : IntKind.i64.wrap (dd * 86400 + h * 3600) = dd * 86400 + h * 3600 := IntWalk.i64_in _ (by omega)
        have a8 : IntKind.i64.wrap (mi * 60) = mi * 60 := IntWalk.i64_in _ (by omega)
        have a9 : IntKind.i64.wrap (dd * 86400 + h * 3600 + mi * 60) = dd * 86400 + h * 3600 + mi * 60 := IntWalk.i64_in _ (by omega)
        have a10 : IntKind.i64.wrap (dd * 86400 + h * 3600 + mi * 60 + se) = dd * 86400 + h * 3600 + mi * 60 + se := IntWalk.i64_in _ (by omega)
        have a11 : IntKind.i64.wrap (dd * 86400 + h * 3600 + mi * 60 + se - zv) = dd * 86400 + h * 3600 + mi * 60 + se - zv := IntWalk.i64_in _ (by omega)
        go_still_tail 17, (by kernel_rfl)
        still_call (C22 _)
        repeat still_step
        refine wpStill_nil ?_
        change wpList _ _ _ _ _ w4.drew
        have HS5 : Hid (PSt w w4.drew t4 y mo d h mi se) := HS4.out.drewN 1
        generalize w4.drew = w5 at *
        obtain ⟨rc0, rc1, rf0, rf1⟩ := two_cell HS5.out.res
        clear a5 a6 a7 a8 a9 a10 a11
        go_wp2
        obtain ⟨q0, q1, _, _⟩ := two_cell (two_store HS5.out.res (.int .i64 (dd * 86400 + h * 3600 + mi * 60 + se - zv)) (.int .i64 fv))
        exact bodyPost_ret (v := .tuple #[.agg #[.int .i64 (dd * 86400 + h * 3600 + mi * 60 + se - zv), .int .i64 fv], .int .i64 0]) (by simp [results, Tryz.results40, go_sem, q0, q1]) rfl ⟨rfl, below_two HS5.out.grow (Nat.le_refl _) _ _⟩
      · have hrr : ((0 : Int), (0 : Int), (110 : Int)) = (r1, r2, r3) := by
          rw [← HR0.out]; unfold dpR; rw [HQ.out]
          have : (fo && zo && t4.toList.isEmpty) = false := by
            rw [Bool.eq_false_iff]; intro hh
            simp only [Bool.and_eq_true] at hh
            exact hok ⟨hh.1.1, hh.1.2, hh.2⟩
          rw [this]; rfl
        cases hrr
        clear HQ HR0
        by_cases h1 : fo = false
        · subst h1
          clear hok
          go_wp2_with (first
            | (go_at_call 72; refine C20.mono ?_; rintro e w3 ⟨rfl, hg, hb⟩; have HS3 := Lib.hid (HS2.out.step hg hb); clear hg hb)
            | (go_at_call 73; refine (zone_any (w.heap.size + 1) t3 _ HS3.out.txt).mono ?_; rw [HZ.out.1, HZ.out.2.1, HZ.out.2.2]; rintro e w4 ⟨rfl, hg, hb⟩; have HS4 := Lib.hid (HS3.out.step hg hb); clear hg hb; obtain ⟨rc0, rc1, rf0, rf1⟩ := two_cell HS4.out.res))
          obtain ⟨q0, q1, _, _⟩ := two_cell (two_store HS4.out.res (.int .i64 0) (.int .i64 0))
          exact bodyPost_ret (v := .tuple #[.agg #[.int .i64 0, .int .i64 0], .int .i64 110]) (by simp [results, Tryz.results40, go_sem, q0, q1]) rfl ⟨rfl, below_two HS4.out.grow (Nat.le_refl _) _ _⟩
        · have h1 : fo = true := by simpa using h1
          subst h1
          by_cases h2 : zo = false
          · subst h2
            clear hok
            go_wp2_with (first
              | (go_at_call 72; refine C20.mono ?_; rintro e w3 ⟨rfl, hg, hb⟩; have HS3 := Lib.hid (HS2.out.step hg hb); clear hg hb)
              | (go_at_call 73; refine (zone_any (w.heap.size + 1) t3 _ HS3.out.txt).mono ?_; rw [HZ.out.1, HZ.out.2.1, HZ.out.2.2]; rintro e w4 ⟨rfl, hg, hb⟩; have HS4 := Lib.hid (HS3.out.step hg hb); clear hg hb; obtain ⟨rc0, rc1, rf0, rf1⟩ := two_cell HS4.out.res))
            obtain ⟨q0, q1, _, _⟩ := two_cell (two_store HS4.out.res (.int .i64 0) (.int .i64 0))
            exact bodyPost_ret (v := .tuple #[.agg #[.int .i64 0, .int .i64 0], .int .i64 110]) (by simp [results, Tryz.results40, go_sem, q0, q1]) rfl ⟨rfl, below_two HS4.out.grow (Nat.le_refl _) _ _⟩
          · have h2 : zo = true := by simpa using h2
            subst h2
            have h4 : t4.toList.isEmpty = false := by
              rw [Bool.eq_false_iff]; intro hh; exact hok ⟨rfl, rfl, hh⟩
            clear hok
            go_wp2_with (first
              | (go_at_call 72; refine C20.mono ?_; rintro e w3 ⟨rfl, hg, hb⟩; have HS3 := Lib.hid (HS2.out.step hg hb); clear hg hb)
              | (go_at_call 73; refine (zone_any (w.heap.size + 1) t3 _ HS3.out.txt).mono ?_; rw [HZ.out.1, HZ.out.2.1, HZ.out.2.2]; rintro e w4 ⟨rfl, hg, hb⟩; have HS4 := Lib.hid (HS3.out.step hg hb); clear hg hb; have ct := cell_of_one HS4.out.txt; obtain ⟨rc0, rc1, rf0, rf1⟩ := two_cell HS4.out.res))
            obtain ⟨q0, q1, _, _⟩ := two_cell (two_store HS4.out.res (.int .i64 0) (.int .i64 0))
            exact bodyPost_ret (v := .tuple #[.agg #[.int .i64 0, .int .i64 0], .int .i64 110]) (by simp [results, Tryz.results40, go_sem, q0, q1]) rfl ⟨rfl, below_two HS4.out.grow (Nat.le_refl _) _ _⟩
theorem nT_size (t : ByteArray) (n : Nat) : (nT t n).size ≤ t.size := by
  unfold nT; split
  · exact Nat.le_refl _
  · unfold dT; split
    · rw [ByteArray.size_extract]; omega
    · exact Nat.le_refl _
theorem sgT_size (t l : ByteArray) : (sgT t l).size ≤ t.size := by
  unfold sgT; split
  · rw [ByteArray.size_extract]; omega
  · exact Nat.le_refl _
theorem ser_size (l : List (UInt8 × Nat × Int)) : ∀ t : ByteArray, (ser l t).2.1.size ≤ t.size := by
  induction l with
  | nil => intro t; exact Nat.le_refl _
  | cons x l ih =>
    obtain ⟨c, n, m⟩ := x
    intro t
    rw [ser]
    split
    · split
      · exact Nat.le_trans (ih _) (nT_size _ _)
      · exact nT_size _ _
    · split
      · split
        · exact Nat.le_trans (ih _) (Nat.le_trans (nT_size _ _) (sgT_size _ _))
        · exact Nat.le_trans (nT_size _ _) (sgT_size _ _)
      · exact Nat.le_refl _
theorem frN_lt (l : List UInt8) : frN l ≤ 999999999 := by
  unfold frN
  have h := frK_lt (l := l) (i := dgs l) (Nat.le_refl _)
  have h3 : frK l (dgs l) * 10 ^ (9 - dgs l) < 10 ^ min (dgs l) 9 * 10 ^ (9 - dgs l) := Nat.mul_lt_mul_of_pos_right h (Nat.pow_pos (by omega))
  rw [← Nat.pow_add] at h3
  have : min (dgs l) 9 + (9 - dgs l) = 9 := by omega
  rw [this] at h3
  omega
theorem frV_bd (t : ByteArray) : 0 ≤ frV t ∧ frV t ≤ 999999999 := by
  unfold frV; split
  · have := frN_lt (t.extract 1 t.size).data.toList; omega
  · omega
theorem zV_bd (t : ByteArray) : -86400 ≤ zV t ∧ zV t ≤ 86400 := by
  unfold zV
  have h0 : ∀ t, 0 ≤ (ser zL t).2.2.getD 0 0 ∧ (ser zL t).2.2.getD 0 0 ≤ 23 := by
    intro t
    unfold zL
    rw [ser, if_pos rfl]
    split
    · rename_i hw; exact ⟨nV_ge _ _, wB_le hw⟩
    · simp
  have h1 := ser_bound zL 59 (by decide) (by decide) (sgT t zSigns) 1
  have h0' := h0 (sgT t zSigns)
  split
  · split <;> omega
  · omega
theorem ser_pL (t : ByteArray) : PBd ((ser pL t).2.2.getD 0 0) ((ser pL t).2.2.getD 1 0) ((ser pL t).2.2.getD 2 0) ((ser pL t).2.2.getD 3 0) ((ser pL t).2.2.getD 4 0) ((ser pL t).2.2.getD 5 0) := by
  have hb : ∀ (l : List (UInt8 × Nat × Int)) (j : Nat) (M : Int) (t : ByteArray), (∀ x, l[j]? = some x → x.2.2 ≤ M) → 0 ≤ M → 0 ≤ (ser l t).2.2.getD j 0 ∧ (ser l t).2.2.getD j 0 ≤ M := by
    intro l
    induction l with
    | nil => intro j M t _ h0; simp [ser]; exact h0
    | cons x l ih =>
      obtain ⟨c, n, m⟩ := x
      intro j M t hM h0
      have step : ∀ t1 : ByteArray, wB t1 n m = true → 0 ≤ (nV t1 n :: (ser l (nT t1 n)).2.2).getD j 0 ∧ (nV t1 n :: (ser l (nT t1 n)).2.2).getD j 0 ≤ M := by
        intro t1 hw
        cases j with
        | zero => exact ⟨nV_ge _ _, Int.le_trans (wB_le hw) (hM _ rfl)⟩
        | succ j => exact ih j M _ (fun x hx => hM x (by simpa using hx)) h0
      rw [ser]
      split
      · split
        · exact step _ ‹_›
        · simp; exact h0
      · split
        · split
          · exact step _ ‹_›
          · simp; exact h0
        · simp; exact h0
  have b0 := hb pL 0 9999 t (by intro x hx; cases hx; decide) (by decide)
  have b1 := hb pL 1 12 t (by intro x hx; cases hx; decide) (by decide)
  have b2 := hb pL 2 31 t (by intro x hx; cases hx; decide) (by decide)
  have b3 := hb pL 3 23 t (by intro x hx; cases hx; decide) (by decide)
  have b4 := hb pL 4 59 t (by intro x hx; cases hx; decide) (by decide)
  have b5 := hb pL 5 59 t (by intro x hx; cases hx; decide) (by decide)
  exact ⟨b0.1, b0.2, b1.1, b1.2, b2.1, b2.2, b3.1, b3.2, b4.1, b4.2, b5.1, b5.2⟩
/-- What date.Parse answers. -/
def parseR (s : ByteArray) : Int × Int × Int :=
  dpR (ser pL s).1 ((ser pL s).2.2.getD 0 0) ((ser pL s).2.2.getD 1 0) ((ser pL s).2.2.getD 2 0) ((ser pL s).2.2.getD 3 0) ((ser pL s).2.2.getD 4 0) ((ser pL s).2.2.getD 5 0)
    (frV (ser pL s).2.1) (zV (frT (ser pL s).2.1)) (frOk (ser pL s).2.1) (zOk (frT (ser pL s).2.1)) (zT (frT (ser pL s).2.1))
theorem parse_any (s : ByteArray) (w : World) (hs : s.size ≤ 140737488351232) :
    Calls Tryz.prog 40 #[.string s] w (PPost w (parseR s).1 (parseR s).2.1 (parseR s).2.2) :=
  parse_x s (ser pL s).2.1 _ _ _ _ _ _ _ _ _ (Nat.le_trans (ser_size pL s) hs) ⟨rfl, rfl, rfl⟩ ⟨rfl, rfl, rfl⟩ (frV_bd _) (zV_bd _) w _ _ _ _ _ _ _ rfl (ser_pL s) (parse_series s _ w _ _ _ _ _ _ _ rfl rfl rfl rfl rfl rfl rfl rfl)
end Go.Proofs.YtcplaafmelcndaaGreatDoor.Txt
end
section
/- date.Parse in given form. -/
namespace Go.Proofs.YtcplaafmelcndaaGreatDoor.Txt
open Go.RowKit
def date_Parse.f (a0 : ByteArray) : Option (Int × Int × Int) := if a0.size ≤ 140737488351232 then some (parseR a0) else none
theorem date_Parse.calls (a0 : ByteArray) (r1 : Int) (r2 : Int) (r3 : Int) (w : World) (h : date_Parse.f a0 = some (r1, r2, r3)) :
    Calls Tryz.prog 40 #[.string a0] w fun e w' => e = .returned (.tuple #[.agg #[.int .i64 r1, .int .i64 r2], .int .i64 r3]) ∧ Below w.heap.size w w' := by
  unfold date_Parse.f at h
  split at h
  · have e := Option.some.inj h
    have := parse_any a0 w ‹_›
    rw [e] at this
    exact this
  · cases h
end Go.Proofs.YtcplaafmelcndaaGreatDoor.Txt
end
