/- 4 texts in one file: Mem, Fdv, Awa, Prx1. -/
import Derived.Test.YtjbckpoepfbgbaaDoorPrx10
import Derived.Test.YtjbckpoepfbgbaaDoorBd3
import Derived.Test.YtjbckpoepfbgbaaDoorSvc
import Derived.Test.YtjbckpoepfbgbaaDoorBd1
section
/- What the laws' members are, of numbers. No memory in sight. -/
set_option linter.unusedVariables false
set_option maxRecDepth 20000
namespace Go.Proofs.YtjbckpoepfbgbaaDoor.Mem
open Go.RowKit Go.Proofs.YtjbckpoepfbgbaaDoor.Pr Go.Proofs.YtjbckpoepfbgbaaDoorW.PrintWords
/-- Member i. -/
def mem (l : List S72) (i : Nat) : S40 := ⟨Int.tmod (wrap64 ((rd_T72 l i).f0)) 40, Int.tmod (wrap64 ((rd_T72 l i).f1)) 6, strOfNums (([(wrap64 (65 + (i : Int))) % 256] : List Int)), (⟨0, (⟨#[]⟩ : ByteArray), (⟨#[]⟩ : ByteArray), ([] : List (S61)), ([] : List (S28)), (⟨#[]⟩ : ByteArray)⟩ : S28)⟩
def mems (l : List S72) (n : Nat) : List S40 := (List.range n).map (mem l)
theorem mems_len (l : List S72) (n : Nat) : (mems l n).length = n := by simp [mems]
theorem mems_snoc (l : List S72) (n : Nat) : mems l (n + 1) = mems l n ++ [mem l n] := by simp [mems, List.range_succ]
theorem members_l (l : List S72) (d : Nat) : ∀ i : Nat, i ≤ l.length → i ≤ 60 → min l.length 60 - i = d → broadsheetlaw22_Members.l0 (d + 1) l (mems l i) (i : Int) = some (mems l (min l.length 60)) := by
  induction d with
  | zero =>
    intro i h1 h2 hd
    have hi : i = min l.length 60 := by omega
    simp only [broadsheetlaw22_Members.l0]
    rw [← hi]
    by_cases c : (i : Int) < (l.length : Int)
    · rw [if_pos c, if_neg (by omega)]
    · rw [if_neg c]
  | succ d ih =>
    intro i h1 h2 hd
    obtain ⟨m, hm⟩ : ∃ m, m = d + 1 := ⟨_, rfl⟩
    rw [← hm]
    simp only [broadsheetlaw22_Members.l0]
    rw [if_pos (by omega), if_pos (by omega), if_pos (by omega), mems_len, if_pos (by omega)]
    have hw : wrap64 ((i : Int) + 1) = ((i + 1 : Nat) : Int) := by unfold wrap64; omega
    rw [hw, hm]
    have := ih (i + 1) (by omega) (by omega) (by omega)
    rw [mems_snoc] at this
    exact this
theorem members_f (l : List S72) : ∃ k, broadsheetlaw22_Members.f k l = some (mems l (min l.length 60)) :=
  ⟨min l.length 60 + 1, members_l l (min l.length 60) 0 (Nat.zero_le _) (Nat.zero_le _) rfl⟩
end Go.Proofs.YtjbckpoepfbgbaaDoor.Mem
end
section
/- feed.Feed and the document's Feed: the same values; as the printed texts ask for them. -/
set_option linter.unusedVariables false
set_option maxRecDepth 20000
namespace Go.Proofs.YtjbckpoepfbgbaaDoor.Fd
open Go.RowKit Go.Lib Go.Proofs.YtjbckpoepfbgbaaDoor.Pr Go.Proofs.YtjbckpoepfbgbaaDoor.Gv Go.Proofs.YtjbckpoepfbgbaaDoor.Lnk Go.Proofs.YtjbckpoepfbgbaaDoor.Mrg Go.Proofs.YtjbckpoepfbgbaaDoor.Srt Go.Proofs.YtjbckpoepfbgbaaDoor.Fun Go.Proofs.YtjbckpoepfbgbaaDoor.Txt Go.Proofs.YtjbckpoepfbgbaaDoorW.PrintWords Go.Proofs.YtjbckpoepfbgbaaDoorW.PrintLast Go.Proofs.YtjbckpoepfbgbaaDoorW.PrintMore
theorem latest_end (l : List S40) (hl : l.length ≤ 1000000) (d : Nat) : ∀ (k : Nat) (x : Int) (i : Nat), i ≤ l.length → l.length - i = d → d < k → feed_latest.l0 k x l (l.length : Int) (i : Int) = some ((l.drop i).foldl (fun a m => max a m.f1) x) := by
  induction d with
  | zero =>
    intro k x i hi hd hk
    obtain ⟨k, rfl⟩ : ∃ m, k = m + 1 := ⟨k - 1, by omega⟩
    simp only [feed_latest.l0]
    rw [if_neg (by omega), List.drop_of_length_le (by omega)]
    rfl
  | succ d ih =>
    intro k x i hi hd hk
    obtain ⟨k, rfl⟩ : ∃ m, k = m + 1 := ⟨k - 1, by omega⟩
    have hlt : i < l.length := by omega
    simp only [feed_latest.l0]
    rw [if_pos (by omega), if_pos (by omega), if_pos (by omega)]
    have hw : wrap64 ((i : Int) + 1) = ((i + 1 : Nat) : Int) := by unfold wrap64; omega
    rw [hw, ih k _ (i + 1) (by omega) (by omega) (by omega), List.drop_eq_getElem_cons hlt, List.foldl_cons]
    have e : rd_T40 l (i : Int) = l[i] := by
      unfold rd_T40
      simp [List.getD, List.getElem?_eq_getElem hlt]
    have e2 : mx x (rd_T40 l (i : Int)).f1 = max x l[i].f1 := by rw [e]; unfold mx; split <;> omega
    rw [e2]
theorem latest_eq (l : List S40) (hl : l.length ≤ 1000000) : ∃ q, feed_latest.f q l = some (latN l) :=
  ⟨l.length + 1, by
    unfold feed_latest.f
    exact latest_end l hl l.length (l.length + 1) 0 0 (by omega) (by omega) (by omega)⟩
theorem bad_or_fit' (n s : Int) (h : n ≤ 9223372036854775807) : Bad n s ∨ Fit n s := by unfold Bad Fit; omega
def feedB : ByteArray := ⟨#[102, 101, 101, 100]⟩
instance decBad (n s : Int) : Decidable (Bad n s) := by unfold Bad; exact inferInstance
instance decInR (s n : Int) : Decidable (inR s n) := by unfold inR; exact inferInstance
/-- Both feeds: the node, and the error. -/
def feedV (base title : ByteArray) (l : List S40) (s k : Int) : S28 × Int :=
  if Bad l.length s then (z28, 1) else if k < 1 ∨ lastP l.length s < k then (z28, 10) else if ¬ inR (latN l) 0 then (z28, 110) else if (base.toList == ([] : List UInt8)) = true ∨ (title.toList == ([] : List UInt8)) = true then (z28, 1)
  else (⟨0, atomB, feedB, [], feedK base title l s k (latN l), ⟨#[]⟩⟩, 0)
def Fed (okl : Nat → Prop) (x : S28) (er : Int) (w : World) (e : Ending) (w' : World) : Prop := ∃ (A4 : Option Addr) (c4 : Nat), e = .returned (.tuple #[.agg #[.int .i64 x.f0, .string x.f1, .string x.f2, .slice none 0 0, .slice A4 x.f4.length c4, .string x.f5], .int .i64 er]) ∧ x.f3 = [] ∧ Kd.V k28 28 w' w.heap.size (fun k_ => okl k_ ∨ w.heap.size ≤ k_) (.slice A4 x.f4.length c4) x.f4 ∧ Below w.heap.size w w'
theorem failed_fed {okl : Nat → Prop} {er : Int} {w : World} (e : Ending) (w' : World) (h : Failed er w e w') : Fed okl z28 er w e w' :=
  ⟨none, 0, h.1, rfl, Kd.V_nil _ _ _ _ _, h.2⟩
theorem feedC (base title : ByteArray) (A : Option Addr) (cc : Nat) (l : List S40) (s k : Int) (w : World) (okl : Nat → Prop) (hC : Kd.F k40 w okl A l.length l) (hcc : l.length ≤ cc) (hl : l.length ≤ 1000000) (hG : LaidW w) (hb : base.size ≤ 140737488351232) (ht : title.size ≤ 140737488351232) :
    Calls Tryd.prog 8 #[.string base, .string title, .slice A l.length cc, .int .i64 s, .int .i64 k] w (Fed okl (feedV base title l s k).1 (feedV base title l s k).2 w) := by
  unfold feedV
  by_cases h1 : Bad l.length s
  · rw [if_pos h1]
    exact (feedE1 base title A cc l.length s k 1 w (.inl rfl) (fun W => Gv.pageB A cc l s k W h1)).mono failed_fed
  rw [if_neg h1]
  have hF : Fit l.length s := (bad_or_fit' _ _ (by omega)).resolve_left h1
  by_cases h2 : k < 1 ∨ lastP l.length s < k
  · rw [if_pos h2]
    refine (feedE1 base title A cc l.length s k 10 w (.inr rfl) (fun W => ?_)).mono failed_fed
    by_cases h3 : k < 1
    · exact pageN1 A cc l s k W hF h3
    · exact pageN2 A cc l s k W hF (by omega) (by omega)
  rw [if_neg h2]
  have hla := lastP_le hF hl
  by_cases h3 : ¬ inR (latN l) 0
  · rw [if_pos h3]
    exact (feedE2 base title A cc l s k (latN l) 110 w (Kd.F_now hC) hcc hl hG hF (by omega) (by omega) (latest_eq l hl) (.inl ⟨h3, rfl⟩)).mono failed_fed
  rw [if_neg h3]
  have h3 : inR (latN l) 0 := Classical.not_not.1 h3
  by_cases h4 : (base.toList == ([] : List UInt8)) = true
  · rw [if_pos (.inl h4)]
    exact (feedE2 base title A cc l s k (latN l) 1 w (Kd.F_now hC) hcc hl hG hF (by omega) (by omega) (latest_eq l hl) (.inr (.inl ⟨h3, h4, rfl⟩))).mono failed_fed
  by_cases h5 : (title.toList == ([] : List UInt8)) = true
  · rw [if_pos (.inr h5)]
    exact (feedE2 base title A cc l s k (latN l) 1 w (Kd.F_now hC) hcc hl hG hF (by omega) (by omega) (latest_eq l hl) (.inr (.inr ⟨h3, Bool.eq_false_iff.2 h4, h5, rfl⟩))).mono failed_fed
  rw [if_neg (by rintro (h | h); exact h4 h; exact h5 h)]
  refine (feedO base title A cc l s k (latN l) w okl hC hcc hl hG hF (by omega) (by omega) (by omega) hb ht (Bool.eq_false_iff.2 h4) (Bool.eq_false_iff.2 h5) (latest_eq l hl) h3).mono ?_
  rintro e w' ⟨A4, c4, he, hv, hb⟩
  exact ⟨A4, c4, he, rfl, hv, hb⟩
def feed_Feed.f (a0 a1 : ByteArray) (l2 : List (S40)) (a3 a4 : Int) : Option (Int × ByteArray × ByteArray × (List (S61)) × (List (S28)) × ByteArray × Int) :=
  if l2.length ≤ 1000000 then (if a0.size ≤ 140737488351232 then (if a1.size ≤ 140737488351232 then some ((feedV a0 a1 l2 a3 a4).1.f0, (feedV a0 a1 l2 a3 a4).1.f1, (feedV a0 a1 l2 a3 a4).1.f2, [], (feedV a0 a1 l2 a3 a4).1.f4, (feedV a0 a1 l2 a3 a4).1.f5, (feedV a0 a1 l2 a3 a4).2) else none) else none) else none
def broadsheetref23_Feed.f (a0 a1 : ByteArray) (l2 : List (S40)) (a3 a4 : Int) : Option (Int × ByteArray × ByteArray × (List (S61)) × (List (S28)) × ByteArray × Int) := feed_Feed.f a0 a1 l2 a3 a4
theorem feed_Feed.calls (a0 : ByteArray) (a1 : ByteArray) (P2_ : Nat → Prop) (A2 : Option Addr) (c2 : Nat) (l2 : List (S40)) (a3 : Int) (a4 : Int) (r1 : Int) (r2 : ByteArray) (r3 : ByteArray) (r4 : List (S61)) (r5 : List (S28)) (r6 : ByteArray) (r7 : Int) (w : World) (hG : LaidW w) (hs2 : Kd.V k40 40 w w.heap.size (fun k_ => P2_ k_) (.slice A2 l2.length c2) l2) (h : feed_Feed.f a0 a1 l2 a3 a4 = some (r1, r2, r3, r4, r5, r6, r7)) :
    Calls Tryd.prog 8 #[.string a0, .string a1, .slice A2 l2.length c2, .int .i64 a3, .int .i64 a4] w fun e w' => ∃ v3_ v4_ : Value, e = .returned (.tuple #[.agg #[.int .i64 r1, .string r2, .string r3, v3_, v4_, .string r6], .int .i64 r7]) ∧ Kd.R k61 61 w' w.heap.size (fun k_ => (w.heap.size ≤ k_)) v3_ r4 ∧ Kd.V k28 28 w' w.heap.size (fun k_ => (P2_ k_ ∨ w.heap.size ≤ k_) ∧ some k_ ≠ (v3_ : Value).ownBlock) v4_ r5 ∧ Below w.heap.size w w' := by
  unfold feed_Feed.f at h
  split at h
  · split at h
    · split at h
      · simp only [Option.some.injEq, Prod.mk.injEq] at h
        obtain ⟨rfl, rfl, rfl, rfl, rfl, rfl, rfl⟩ := h
        obtain ⟨_, hc, hF⟩ := Kd.V_at hs2
        refine (feedC a0 a1 A2 c2 l2 a3 a4 w P2_ hF hc ‹_› hG ‹_› ‹_›).mono ?_
        rintro e w' ⟨A4, c4, rfl, _, hv, hb⟩
        exact ⟨_, _, rfl, Kd.R_nil _ _ _ _ _, Kd.V_mono hv (fun k hk => ⟨hk, by simp [Value.ownBlock]⟩), hb⟩
      · cases h
    · cases h
  · cases h
end Go.Proofs.YtjbckpoepfbgbaaDoor.Fd
end
section
/- awake: the way on which all is as it must be (cut out of the printed text by cutlaw.py). -/
namespace Go.Proofs.YtjbckpoepfbgbaaDoor.Pr
open Go.RowKit Go.Proofs.YtjbckpoepfbgbaaDoorW.PrintWords Go.Proofs.YtjbckpoepfbgbaaDoorW.PrintLast Go.Proofs.YtjbckpoepfbgbaaDoorW.PrintMore
attribute [local go_sem] max2_int min2_int max_two min_two max_three min_three max_four min_four
set_option linter.unusedVariables false
set_option linter.unusedSimpArgs false
def broadsheetlaw23_awake.f (k : Nat)  : Option (Bool) := (feed_Service.f k (⟨#[47, 99]⟩ : ByteArray) (⟨#[120]⟩ : ByteArray)).bind fun bt272 => ((broadsheetlaw15_Plain.f (⟨#[116]⟩ : ByteArray)).bind fun bt284 => ((Go.Proofs.YtjbckpoepfbgbaaDoor.Fd.feed_Feed.f (⟨#[47, 99]⟩ : ByteArray) (⟨#[120]⟩ : ByteArray) (([(⟨1, 5, (⟨#[]⟩ : ByteArray), (⟨bt284.1, bt284.2.1, bt284.2.2.1, bt284.2.2.2.1, bt284.2.2.2.2.1, bt284.2.2.2.2.2⟩ : S28)⟩ : S40)] : List (S40))) 10 1).bind fun bt297 => (if bt272.2.2.2.2.2.2 = 0 then (if bt272.2.2.1.toList = ([115, 101, 114, 118, 105, 99, 101] : List UInt8) then (if (bt272.2.2.2.2.1.length : Int) = 1 then (if bt297.2.2.2.2.2.2 = 0 then (if bt297.2.2.1.toList = ([102, 101, 101, 100] : List UInt8) then (some ((bt297.2.2.2.2.1.length : Int) == 7)) else (some false)) else (some false)) else (some false)) else (some false)) else (some false))))
set_option maxHeartbeats 8000000 in
set_option maxRecDepth 100000 in
theorem broadsheetlaw23_awake.calls (k : Nat)  (r : Bool) (w : World) (hG : Go.Proofs.YtjbckpoepfbgbaaDoor.Txt.LaidW w) (hrt : r = true) (h : broadsheetlaw23_awake.f k  = some r) :
    Calls Tryd.prog 7 #[] w fun e w' => e = .returned (.bool r) ∧ Below w.heap.size w w' := by
  have HRT := Aside0.mk hrt
  clear hrt
  have hu28 := Tryd.underlying28
  have hu40 := Tryd.underlying40
  have HB := Aside0.mk (Below.refl w.heap.size w)
  have HG := Aside0.mk hG
  clear hG
  have H : ((feed_Service.f k (⟨#[47, 99]⟩ : ByteArray) (⟨#[120]⟩ : ByteArray)).bind fun bt272 => ((broadsheetlaw15_Plain.f (⟨#[116]⟩ : ByteArray)).bind fun bt284 => ((Go.Proofs.YtjbckpoepfbgbaaDoor.Fd.feed_Feed.f (⟨#[47, 99]⟩ : ByteArray) (⟨#[120]⟩ : ByteArray) (([(⟨1, 5, (⟨#[]⟩ : ByteArray), (⟨bt284.1, bt284.2.1, bt284.2.2.1, bt284.2.2.2.1, bt284.2.2.2.2.1, bt284.2.2.2.2.2⟩ : S28)⟩ : S40)] : List (S40))) 10 1).bind fun bt297 => (if bt272.2.2.2.2.2.2 = 0 then (if bt272.2.2.1.toList = ([115, 101, 114, 118, 105, 99, 101] : List UInt8) then (if (bt272.2.2.2.2.1.length : Int) = 1 then (if bt297.2.2.2.2.2.2 = 0 then (if bt297.2.2.1.toList = ([102, 101, 101, 100] : List UInt8) then (some ((bt297.2.2.2.2.1.length : Int) == 7)) else (some false)) else (some false)) else (some false)) else (some false)) else (some false))))) = some r := h
  clear h
  replace H := Option.bind_eq_some_iff.mp H
  obtain ⟨⟨t272, t273, t274, t275, t278, t281, t282⟩, A10, H⟩ := H
  replace H : ((broadsheetlaw15_Plain.f (⟨#[116]⟩ : ByteArray)).bind fun bt284 => ((Go.Proofs.YtjbckpoepfbgbaaDoor.Fd.feed_Feed.f (⟨#[47, 99]⟩ : ByteArray) (⟨#[120]⟩ : ByteArray) (([(⟨1, 5, (⟨#[]⟩ : ByteArray), (⟨bt284.1, bt284.2.1, bt284.2.2.1, bt284.2.2.2.1, bt284.2.2.2.2.1, bt284.2.2.2.2.2⟩ : S28)⟩ : S40)] : List (S40))) 10 1).bind fun bt297 => (if t282 = 0 then (if t274.toList = ([115, 101, 114, 118, 105, 99, 101] : List UInt8) then (if (t278.length : Int) = 1 then (if bt297.2.2.2.2.2.2 = 0 then (if bt297.2.2.1.toList = ([102, 101, 101, 100] : List UInt8) then (some ((bt297.2.2.2.2.1.length : Int) == 7)) else (some false)) else (some false)) else (some false)) else (some false)) else (some false)))) = some r := H
  have A1 := Aside0.mk A10
  clear A10
  replace H := Option.bind_eq_some_iff.mp H
  obtain ⟨⟨t284, t285, t286, t287, t290, t293⟩, A20, H⟩ := H
  replace H : ((Go.Proofs.YtjbckpoepfbgbaaDoor.Fd.feed_Feed.f (⟨#[47, 99]⟩ : ByteArray) (⟨#[120]⟩ : ByteArray) (([(⟨1, 5, (⟨#[]⟩ : ByteArray), (⟨t284, t285, t286, t287, t290, t293⟩ : S28)⟩ : S40)] : List (S40))) 10 1).bind fun bt297 => (if t282 = 0 then (if t274.toList = ([115, 101, 114, 118, 105, 99, 101] : List UInt8) then (if (t278.length : Int) = 1 then (if bt297.2.2.2.2.2.2 = 0 then (if bt297.2.2.1.toList = ([102, 101, 101, 100] : List UInt8) then (some ((bt297.2.2.2.2.1.length : Int) == 7)) else (some false)) else (some false)) else (some false)) else (some false)) else (some false))) = some r := H
  have A2 := Aside0.mk A20
  clear A20
  obtain ⟨y294, hy294⟩ : ∃ y_ : List (S40), y_ = (([(⟨1, 5, (⟨#[]⟩ : ByteArray), (⟨t284, t285, t286, t287, t290, t293⟩ : S28)⟩ : S40)] : List (S40))) := ⟨_, rfl⟩
  replace H : ((Go.Proofs.YtjbckpoepfbgbaaDoor.Fd.feed_Feed.f (⟨#[47, 99]⟩ : ByteArray) (⟨#[120]⟩ : ByteArray) y294 10 1).bind fun bt297 => (if t282 = 0 then (if t274.toList = ([115, 101, 114, 118, 105, 99, 101] : List UInt8) then (if (t278.length : Int) = 1 then (if bt297.2.2.2.2.2.2 = 0 then (if bt297.2.2.1.toList = ([102, 101, 101, 100] : List UInt8) then (some ((bt297.2.2.2.2.1.length : Int) == 7)) else (some false)) else (some false)) else (some false)) else (some false)) else (some false))) = some r := by first | (rw [hy294]; with_reducible exact H) | (have H2_ := (Option.bind_some _ _).symm.trans H; rw [hy294]; with_reducible exact H2_) | (have H2_ := (Option.bind_some _ _).symm.trans H; with_reducible exact H2_) | with_reducible exact H | (rw [hy294]; exact H) | exact H
  have Ny294 := Aside0.mk hy294
  clear hy294
  replace H := Option.bind_eq_some_iff.mp H
  obtain ⟨⟨t297, t298, t299, t300, t303, t306, t307⟩, A30, H⟩ := H
  replace H : (if t282 = 0 then (if t274.toList = ([115, 101, 114, 118, 105, 99, 101] : List UInt8) then (if (t278.length : Int) = 1 then (if t307 = 0 then (if t299.toList = ([102, 101, 101, 100] : List UInt8) then (some ((t303.length : Int) == 7)) else (some false)) else (some false)) else (some false)) else (some false)) else (some false)) = some r := H
  have A3 := Aside0.mk A30
  clear A30
  by_cases c4 : t282 = 0
  · rw [if_pos c4] at H
    have c4b0 : (t282 == 0) = true := beq_iff_eq.mpr c4
    have c4b1 : (t282 != 0) = false := bne_eq_false_iff_eq.mpr c4
    clear c4
    by_cases c5 : t274.toList = ([115, 101, 114, 118, 105, 99, 101] : List UInt8)
    · rw [if_pos c5] at H
      have c5b0 : (t274.toList == ([115, 101, 114, 118, 105, 99, 101] : List UInt8)) = true := beq_iff_eq.mpr c5
      have c5b1 : (t274.toList != ([115, 101, 114, 118, 105, 99, 101] : List UInt8)) = false := bne_eq_false_iff_eq.mpr c5
      clear c5
      by_cases c6 : (t278.length : Int) = 1
      · rw [if_pos c6] at H
        have c6b0 : ((t278.length : Int) == 1) = true := beq_iff_eq.mpr c6
        have c6b1 : ((t278.length : Int) != 1) = false := bne_eq_false_iff_eq.mpr c6
        clear c6
        by_cases c7 : t307 = 0
        · rw [if_pos c7] at H
          have c7b0 : (t307 == 0) = true := beq_iff_eq.mpr c7
          have c7b1 : (t307 != 0) = false := bne_eq_false_iff_eq.mpr c7
          clear c7
          by_cases c8 : t299.toList = ([102, 101, 101, 100] : List UInt8)
          · rw [if_pos c8] at H
            have c8b0 : (t299.toList == ([102, 101, 101, 100] : List UInt8)) = true := beq_iff_eq.mpr c8
            have c8b1 : (t299.toList != ([102, 101, 101, 100] : List UInt8)) = false := bne_eq_false_iff_eq.mpr c8
            clear c8
            obtain rfl := Option.some.inj H
            go_enter Tryd.func7, Tryd.ntmps7
            go_wp2_with (first | ((with_reducible refine gate_callee (f := 10) rfl ?_); refine goesL_ (some 6) rfl rfl Tryd.func10 (by kernel_rfl) rfl #[.string (⟨#[47, 99]⟩ : ByteArray), .string (⟨#[120]⟩ : ByteArray)] rfl (by (try simp only [List.map_toArray, List.map_cons, List.map_nil]); first | done | rfl | (simp only [List.length_drop, List.length_take]; rfl) | (simp only [Int.tmod_tmod_of_dvd _ (show (60 : Int) ∣ 86400 by decide)]; rfl)) ?_; (with_reducible refine (feed_Service.calls k (⟨#[47, 99]⟩ : ByteArray) (⟨#[120]⟩ : ByteArray) t272 t273 t274 t275 t278 t281 t282 _ A1.out).mono ?_); rintro e w9 ⟨v276, v279, rfl, ho0, ho1, hb⟩; refine ⟨_, rfl, ?_⟩; have n0_ := Aside0.mk (Kd.R_lower (Kd.R_mono (ok' := fun k_ => True) ho0 (fun _ hk_ => trivial)) (below_size (by repeat (first | (with_reducible first | exact HB.out | apply below_alloc | apply pw_below_drewN | apply below_drew1) | exact HB.out)))); have n1_ := Aside0.mk (Kd.V_lower (Kd.V_mono (ok' := fun k_ => some k_ ≠ (v276 : Value).ownBlock) ho1 (fun k_ hk_ => hk_.2)) (below_size (by repeat (first | (with_reducible first | exact HB.out | apply below_alloc | apply pw_below_drewN | apply below_drew1) | exact HB.out)))); have n2_ := Aside0.mk (below_step (by repeat (first | (with_reducible first | exact HB.out | apply below_alloc | apply pw_below_drewN | apply below_drew1) | exact HB.out)) hb); clear HB; have HO277 := n0_; have HO280 := n1_; have HB := n2_; clear n0_ n1_ n2_; (try clear hb); (try clear hb2); (try clear hk); (try clear hi); (try clear ho0); (try clear ho1)) | ((with_reducible refine gate_dst (N := 1) rfl ?_); (try (refine gate_guard (by rfl) ?_; dsimp only)); refine box_event ?hg (N := 1) ?hd (cs := #[.int .i64 0, .string (⟨#[]⟩ : ByteArray), .string (⟨#[]⟩ : ByteArray), .slice none 0 0, .slice none 0 0, .string (⟨#[]⟩ : ByteArray)]) (t := 28) ?hr ?_; (case hd => rfl); (case hg => rfl); (case hr => first | (go_simp; done) | (go_simp; rfl)); intro gb283 hg w10 hbox hb; have n0_ := Aside0.mk (Kd.R_below (by (with_reducible repeat (first | apply Kd.R_alloc | apply Kd.R_drewN | apply Kd.R_drew)); exact HO277.out) hb); have n1_ := Aside0.mk (Kd.V_below (Kd.V_elderB (by (with_reducible repeat (first | apply Kd.V_alloc | apply Kd.V_drewN | apply Kd.V_drew)); exact HO280.out) gb283 (Nat.le_of_eq hg.symm)) hb); have n2_ := Aside0.mk (below_step (by repeat (first | (with_reducible first | exact HB.out | apply below_alloc | apply pw_below_drewN | apply below_drew1) | exact HB.out)) hb); have n3_ := Aside0.mk (hbox); have n4_ := Aside0.mk ((by rw [hg]; exact (below_size (by repeat (first | (with_reducible first | exact HB.out | apply below_alloc | apply pw_below_drewN | apply below_drew1) | exact HB.out))) : w.heap.size ≤ gb283)); have n5_ := Aside0.mk ((by rw [hg]; exact (below_size (by repeat (first | (with_reducible first | exact HB.out | apply below_alloc | apply pw_below_drewN | apply below_drew1) | exact HB.out))) : w.heap.size ≤ gb283)); clear HO277; clear HO280; clear HB; have HO277 := n0_; have HO280 := n1_; have HB := n2_; have BK283 := n3_; have GW283 := n4_; have GE283 := n5_; clear n0_ n1_ n2_ n3_ n4_ n5_; clear hb hbox hg; have hcz11_0 : w10.cell? ⟨gb283, 0, none⟩ = some (.int .i64 0) := (blk_cell BK283.out 0).trans rfl; have hcz11_1 : w10.cell? ⟨gb283, 1, none⟩ = some (.string (⟨#[]⟩ : ByteArray)) := (blk_cell BK283.out 1).trans rfl; have hcz11_2 : w10.cell? ⟨gb283, 2, none⟩ = some (.string (⟨#[]⟩ : ByteArray)) := (blk_cell BK283.out 2).trans rfl; have hcz11_3 : w10.cell? ⟨gb283, 3, none⟩ = some (.slice none 0 0) := (blk_cell BK283.out 3).trans rfl; have hcz11_4 : w10.cell? ⟨gb283, 4, none⟩ = some (.slice none 0 0) := (blk_cell BK283.out 4).trans rfl; have hcz11_5 : w10.cell? ⟨gb283, 5, none⟩ = some (.string (⟨#[]⟩ : ByteArray)) := (blk_cell BK283.out 5).trans rfl; have hfz11_0 := blk_frozen BK283.out 0; have hfz11_1 := blk_frozen BK283.out 1; have hfz11_2 := blk_frozen BK283.out 2; have hfz11_3 := blk_frozen BK283.out 3; have hfz11_4 := blk_frozen BK283.out 4; have hfz11_5 := blk_frozen BK283.out 5; obtain ⟨Ao12, co12, eo12⟩ := Kd.R_slice HO277.out; subst eo12; obtain ⟨Ao13, co13, eo13⟩ := Kd.V_slice HO280.out; subst eo13) | ((with_reducible refine gate_callee (f := 16) rfl ?_); refine goesL_ (some 10) rfl rfl Tryd.func16 (by kernel_rfl) rfl #[.string (⟨#[116]⟩ : ByteArray)] rfl (by (try simp only [List.map_toArray, List.map_cons, List.map_nil]); first | done | rfl | (simp only [List.length_drop, List.length_take]; rfl) | (simp only [Int.tmod_tmod_of_dvd _ (show (60 : Int) ∣ 86400 by decide)]; rfl)) ?_; (with_reducible refine (broadsheetlaw15_Plain.calls (⟨#[116]⟩ : ByteArray) t284 t285 t286 t287 t290 t293 _ A2.out).mono ?_); rintro e w14 ⟨v288, v291, rfl, ho0, ho1, hb⟩; refine ⟨_, rfl, ?_⟩; have n0_ := Aside0.mk (Kd.R_elder' (by (with_reducible repeat (first | apply Kd.R_alloc | apply Kd.R_drewN | apply Kd.R_drew)); exact (Kd.R_mono (Kd.R_far (p := ⟨gb283, 5, none⟩) (Kd.R_far (p := ⟨gb283, 4, none⟩) (Kd.R_far (p := ⟨gb283, 3, none⟩) (Kd.R_far (p := ⟨gb283, 2, none⟩) (Kd.R_far (p := ⟨gb283, 1, none⟩) (Kd.R_far (p := ⟨gb283, 0, none⟩) (Kd.R_types HO277.out BK283.out (by decide)) (fun _ hk => hk.2) (.int .i64 t272)) (fun _ hk => hk.2) (.string t273)) (fun _ hk => hk.2) (.string t274)) (fun _ hk => hk.2) (.slice Ao12 t275.length co12)) (fun _ hk => hk.2) (.slice Ao13 t278.length co13)) (fun _ hk => hk.2) (.string t281)) (fun _ h_ => h_.1))) (Kd.R_base ho0) hb); have n1_ := Aside0.mk (Kd.V_mono (Kd.V_told (Kd.V_told (Kd.V_old (by (with_reducible repeat (first | apply Kd.V_alloc | apply Kd.V_drewN | apply Kd.V_drew)); exact (Kd.V_mono (Kd.V_far (p := ⟨gb283, 5, none⟩) (Kd.V_far (p := ⟨gb283, 4, none⟩) (Kd.V_far (p := ⟨gb283, 3, none⟩) (Kd.V_far (p := ⟨gb283, 2, none⟩) (Kd.V_far (p := ⟨gb283, 1, none⟩) (Kd.V_far (p := ⟨gb283, 0, none⟩) (Kd.V_mono HO280.out (fun k_ hk => (⟨hk, hk.2⟩ : _ ∧ k_ ≠ gb283))) (fun _ hk => hk.2) (.int .i64 t272)) (fun _ hk => hk.2) (.string t273)) (fun _ hk => hk.2) (.string t274)) (fun _ hk => hk.2) (.slice Ao12 t275.length co12)) (fun _ hk => hk.2) (.slice Ao13 t278.length co13)) (fun _ hk => hk.2) (.string t281)) (fun _ h_ => h_.1))) hb) (Kd.R_base ho0)) (Kd.N_base ho1)) (fun _ h_ => h_.1)); have n2_ := Aside0.mk (Kd.R_lower (Kd.R_new' (Kd.R_mono (ok' := fun k_ => True) ho0 (fun _ hk_ => trivial)) (Kd.R_lt (by (with_reducible repeat (first | apply Kd.R_alloc | apply Kd.R_drewN | apply Kd.R_drew)); exact (Kd.R_mono (Kd.R_far (p := ⟨gb283, 5, none⟩) (Kd.R_far (p := ⟨gb283, 4, none⟩) (Kd.R_far (p := ⟨gb283, 3, none⟩) (Kd.R_far (p := ⟨gb283, 2, none⟩) (Kd.R_far (p := ⟨gb283, 1, none⟩) (Kd.R_far (p := ⟨gb283, 0, none⟩) (Kd.R_types HO277.out BK283.out (by decide)) (fun _ hk => hk.2) (.int .i64 t272)) (fun _ hk => hk.2) (.string t273)) (fun _ hk => hk.2) (.string t274)) (fun _ hk => hk.2) (.slice Ao12 t275.length co12)) (fun _ hk => hk.2) (.slice Ao13 t278.length co13)) (fun _ hk => hk.2) (.string t281)) (fun _ h_ => h_.1))))) (below_size (by repeat (first | (with_reducible first | exact HB.out | apply below_alloc | apply pw_below_drewN | apply below_drew1 | refine below_set ?_ GE283.out) | exact HB.out)))); have n3_ := Aside0.mk (Kd.N_lower (Kd.N_mono (ok' := fun k_ => some k_ ≠ (v288 : Value).ownBlock ∧ some k_ ≠ (.slice Ao12 t275.length co12 : Value).ownBlock ∧ k_ ≠ gb283) ho1 (fun k_ hk_ => ⟨hk_.2, (Kd.fresh' (Kd.R_lt (by (with_reducible repeat (first | apply Kd.R_alloc | apply Kd.R_drewN | apply Kd.R_drew)); exact (Kd.R_mono (Kd.R_far (p := ⟨gb283, 5, none⟩) (Kd.R_far (p := ⟨gb283, 4, none⟩) (Kd.R_far (p := ⟨gb283, 3, none⟩) (Kd.R_far (p := ⟨gb283, 2, none⟩) (Kd.R_far (p := ⟨gb283, 1, none⟩) (Kd.R_far (p := ⟨gb283, 0, none⟩) (Kd.R_types HO277.out BK283.out (by decide)) (fun _ hk => hk.2) (.int .i64 t272)) (fun _ hk => hk.2) (.string t273)) (fun _ hk => hk.2) (.string t274)) (fun _ hk => hk.2) (.slice Ao12 t275.length co12)) (fun _ hk => hk.2) (.slice Ao13 t278.length co13)) (fun _ hk => hk.2) (.string t281)) (fun _ h_ => h_.1)))) k_ hk_.1), (Kd.freshB (g := gb283) (o := .cells #[.int .i64 t272, .string t273, .string t274, .slice Ao12 t275.length co12, .slice Ao13 t278.length co13, .string t281] 28 (0, 0)) (by (with_reducible repeat (first | refine blk_drewN ?_ _ | refine blk_drew ?_ | refine blk_alloc ?_ _)); refine blk_put (cs := #[.int .i64 t272, .string t273, .string t274, .slice Ao12 t275.length co12, .slice Ao13 t278.length co13, .string (⟨#[]⟩ : ByteArray)]) ?_ 5 _ rfl; (with_reducible repeat (first | refine blk_drewN ?_ _ | refine blk_drew ?_ | refine blk_alloc ?_ _)); refine blk_put (cs := #[.int .i64 t272, .string t273, .string t274, .slice Ao12 t275.length co12, .slice none 0 0, .string (⟨#[]⟩ : ByteArray)]) ?_ 4 _ rfl; (with_reducible repeat (first | refine blk_drewN ?_ _ | refine blk_drew ?_ | refine blk_alloc ?_ _)); refine blk_put (cs := #[.int .i64 t272, .string t273, .string t274, .slice none 0 0, .slice none 0 0, .string (⟨#[]⟩ : ByteArray)]) ?_ 3 _ rfl; (with_reducible repeat (first | refine blk_drewN ?_ _ | refine blk_drew ?_ | refine blk_alloc ?_ _)); refine blk_put (cs := #[.int .i64 t272, .string t273, .string (⟨#[]⟩ : ByteArray), .slice none 0 0, .slice none 0 0, .string (⟨#[]⟩ : ByteArray)]) ?_ 2 _ rfl; (with_reducible repeat (first | refine blk_drewN ?_ _ | refine blk_drew ?_ | refine blk_alloc ?_ _)); refine blk_put (cs := #[.int .i64 t272, .string (⟨#[]⟩ : ByteArray), .string (⟨#[]⟩ : ByteArray), .slice none 0 0, .slice none 0 0, .string (⟨#[]⟩ : ByteArray)]) ?_ 1 _ rfl; (with_reducible repeat (first | refine blk_drewN ?_ _ | refine blk_drew ?_ | refine blk_alloc ?_ _)); refine blk_put (cs := #[.int .i64 0, .string (⟨#[]⟩ : ByteArray), .string (⟨#[]⟩ : ByteArray), .slice none 0 0, .slice none 0 0, .string (⟨#[]⟩ : ByteArray)]) ?_ 0 _ rfl; (with_reducible repeat (first | refine blk_drewN ?_ _ | refine blk_drew ?_ | refine blk_alloc ?_ _)); exact BK283.out) k_ hk_.1)⟩)) (below_size (by repeat (first | (with_reducible first | exact HB.out | apply below_alloc | apply pw_below_drewN | apply below_drew1 | refine below_set ?_ GE283.out) | exact HB.out)))); have n4_ := Aside0.mk (blk_below (g := gb283) (o := .cells #[.int .i64 t272, .string t273, .string t274, .slice Ao12 t275.length co12, .slice Ao13 t278.length co13, .string t281] 28 (0, 0)) (by (with_reducible repeat (first | refine blk_drewN ?_ _ | refine blk_drew ?_ | refine blk_alloc ?_ _)); refine blk_put (cs := #[.int .i64 t272, .string t273, .string t274, .slice Ao12 t275.length co12, .slice Ao13 t278.length co13, .string (⟨#[]⟩ : ByteArray)]) ?_ 5 _ rfl; (with_reducible repeat (first | refine blk_drewN ?_ _ | refine blk_drew ?_ | refine blk_alloc ?_ _)); refine blk_put (cs := #[.int .i64 t272, .string t273, .string t274, .slice Ao12 t275.length co12, .slice none 0 0, .string (⟨#[]⟩ : ByteArray)]) ?_ 4 _ rfl; (with_reducible repeat (first | refine blk_drewN ?_ _ | refine blk_drew ?_ | refine blk_alloc ?_ _)); refine blk_put (cs := #[.int .i64 t272, .string t273, .string t274, .slice none 0 0, .slice none 0 0, .string (⟨#[]⟩ : ByteArray)]) ?_ 3 _ rfl; (with_reducible repeat (first | refine blk_drewN ?_ _ | refine blk_drew ?_ | refine blk_alloc ?_ _)); refine blk_put (cs := #[.int .i64 t272, .string t273, .string (⟨#[]⟩ : ByteArray), .slice none 0 0, .slice none 0 0, .string (⟨#[]⟩ : ByteArray)]) ?_ 2 _ rfl; (with_reducible repeat (first | refine blk_drewN ?_ _ | refine blk_drew ?_ | refine blk_alloc ?_ _)); refine blk_put (cs := #[.int .i64 t272, .string (⟨#[]⟩ : ByteArray), .string (⟨#[]⟩ : ByteArray), .slice none 0 0, .slice none 0 0, .string (⟨#[]⟩ : ByteArray)]) ?_ 1 _ rfl; (with_reducible repeat (first | refine blk_drewN ?_ _ | refine blk_drew ?_ | refine blk_alloc ?_ _)); refine blk_put (cs := #[.int .i64 0, .string (⟨#[]⟩ : ByteArray), .string (⟨#[]⟩ : ByteArray), .slice none 0 0, .slice none 0 0, .string (⟨#[]⟩ : ByteArray)]) ?_ 0 _ rfl; (with_reducible repeat (first | refine blk_drewN ?_ _ | refine blk_drew ?_ | refine blk_alloc ?_ _)); exact BK283.out) hb); have n5_ := Aside0.mk (below_step (by repeat (first | (with_reducible first | exact HB.out | apply below_alloc | apply pw_below_drewN | apply below_drew1 | refine below_set ?_ GE283.out) | exact HB.out)) hb); clear HO277; clear HO280; clear BK283; clear HB; have HO277 := n0_; have HO280 := n1_; have HO289 := n2_; have HO292 := n3_; have BK283 := n4_; have HB := n5_; clear n0_ n1_ n2_ n3_ n4_ n5_; (try clear hb); (try clear hb2); (try clear hk); (try clear hi); (try clear ho0); (try clear ho1); obtain ⟨Ao15, co15, eo15⟩ := Kd.N_slice HO292.out; subst eo15; obtain ⟨Ao16, co16, eo16⟩ := Kd.R_slice HO289.out; subst eo16) | ((with_reducible refine gate_dst (N := 12) rfl ?_); (try (refine gate_guard (by rfl) ?_; dsimp only)); refine Kd.N_lit k40 _ 40 ?hg (N' := 12) ?hd (xs := ([(⟨1, 5, (⟨#[]⟩ : ByteArray), (⟨t284, t285, t286, t287, t290, t293⟩ : S28)⟩ : S40)] : List (S40))) (inner := [.int .i64 1, .int .i64 5, .string (⟨#[]⟩ : ByteArray), .int .i64 t284, .string t285, .string t286, .slice Ao16 t287.length co16, .slice Ao15 t290.length co15, .string t293]) (ok := (fun k_ => some k_ ≠ (.slice Ao12 t275.length co12 : Value).ownBlock ∧ k_ ≠ gb283)) (okp := (fun k_ => some k_ ≠ (.slice Ao12 t275.length co12 : Value).ownBlock ∧ k_ ≠ gb283)) ?hr ?hp (fun _ hk => hk) ((show ∀ k_, w14.heap.size ≤ k_ → (fun k_ => some k_ ≠ (.slice Ao12 t275.length co12 : Value).ownBlock ∧ k_ ≠ gb283) k_ from fun k_ hk => ⟨Kd.fresh' (Kd.R_lt (by (with_reducible repeat (first | apply Kd.R_alloc | apply Kd.R_drewN | apply Kd.R_drew)); exact HO277.out)) k_ hk, Kd.freshB (g := gb283) (o := .cells #[.int .i64 t272, .string t273, .string t274, .slice Ao12 t275.length co12, .slice Ao13 t278.length co13, .string t281] 28 (0, 0)) (by (with_reducible repeat (first | refine blk_drewN ?_ _ | refine blk_drew ?_ | refine blk_alloc ?_ _)); exact BK283.out) k_ hk⟩) _ (Nat.le_refl _)) (Below.refl _ _) (Nat.le_refl _) (by simp) ?_; (case hd => rfl); (case hg => rfl); (case hr => first | (go_simp; done) | (go_simp; rfl)); (case hp => exact (Reps.c9 (show Kd.FK k40 _ _ (⟨1, 5, (⟨#[]⟩ : ByteArray), (⟨t284, t285, t286, t287, t290, t293⟩ : S28)⟩ : S40) [.int .i64 1, .int .i64 5, .string (⟨#[]⟩ : ByteArray), .int .i64 t284, .string t285, .string t286, .slice Ao16 t287.length co16, .slice Ao15 t290.length co15, .string t293] from (k40_mkF _ _ (⟨1, 5, (⟨#[]⟩ : ByteArray), (⟨t284, t285, t286, t287, t290, t293⟩ : S28)⟩ : S40) (Kd.R_reads' (Kd.R_mono (ok' := (fun k_ => some k_ ≠ (.slice Ao12 t275.length co12 : Value).ownBlock ∧ k_ ≠ gb283)) (Kd.R_types (HO289.out) BK283.out (by decide)) (fun k_ hk => ⟨hk.1.2, hk.2⟩))).2.1 (Kd.R_F (Kd.R_mono (ok' := (fun k_ => some k_ ≠ (.slice Ao12 t275.length co12 : Value).ownBlock ∧ k_ ≠ gb283)) (Kd.R_types (HO289.out) BK283.out (by decide)) (fun k_ hk => ⟨hk.1.2, hk.2⟩))) (Kd.N_reads' (Kd.N_mono (ok' := (fun k_ => some k_ ≠ (.slice Ao12 t275.length co12 : Value).ownBlock ∧ k_ ≠ gb283)) (HO292.out) (fun k_ hk => ⟨hk.2.1, hk.2.2⟩))).2.1 (Kd.N_F (Kd.N_mono (ok' := (fun k_ => some k_ ≠ (.slice Ao12 t275.length co12 : Value).ownBlock ∧ k_ ≠ gb283)) (HO292.out) (fun k_ hk => ⟨hk.2.1, hk.2.2⟩))))) (Reps.none _ _))); intro v295 w17 ho18 hb hg_ hnew_; clear hg_ hnew_; (first | rw [← Ny294.out] at ho18 | (simp only [Int.reduceToNat] at ho18; rw [← Ny294.out] at ho18)); have n0_ := Aside0.mk (Kd.R_below (by (with_reducible repeat (first | apply Kd.R_alloc | apply Kd.R_drewN | apply Kd.R_drew)); exact HO277.out) hb); have n1_ := Aside0.mk (Kd.V_elder' (by (with_reducible repeat (first | apply Kd.V_alloc | apply Kd.V_drewN | apply Kd.V_drew)); exact HO280.out) (Kd.N_base ho18) hb); have n2_ := Aside0.mk (Kd.N_lower ho18 (below_size (by repeat (first | (with_reducible first | exact HB.out | apply below_alloc | apply pw_below_drewN | apply below_drew1 | refine below_set ?_ GE283.out) | exact HB.out)))); have n3_ := Aside0.mk (blk_below (g := gb283) (o := .cells #[.int .i64 t272, .string t273, .string t274, .slice Ao12 t275.length co12, .slice Ao13 t278.length co13, .string t281] 28 (0, 0)) (by (with_reducible repeat (first | refine blk_drewN ?_ _ | refine blk_drew ?_ | refine blk_alloc ?_ _)); exact BK283.out) hb); have n4_ := Aside0.mk (below_step (by repeat (first | (with_reducible first | exact HB.out | apply below_alloc | apply pw_below_drewN | apply below_drew1 | refine below_set ?_ GE283.out) | exact HB.out)) hb); clear HO277; clear HO280; clear BK283; clear HB; clear HO289; clear HO292; have HO277 := n0_; have HO280 := n1_; have HO296 := n2_; have BK283 := n3_; have HB := n4_; clear n0_ n1_ n2_ n3_ n4_; clear hb ho18; obtain ⟨Ao19, co19, eo19⟩ := Kd.N_slice HO296.out; subst eo19) | ((with_reducible refine gate_callee (f := 8) rfl ?_); refine goesL_ (some 13) rfl rfl Tryd.func8 (by kernel_rfl) rfl #[.string (⟨#[47, 99]⟩ : ByteArray), .string (⟨#[120]⟩ : ByteArray), .slice Ao19 y294.length co19, .int .i64 10, .int .i64 1] rfl (by (try simp only [List.map_toArray, List.map_cons, List.map_nil]); first | done | rfl | (simp only [List.length_drop, List.length_take]; rfl) | (simp only [Int.tmod_tmod_of_dvd _ (show (60 : Int) ∣ 86400 by decide)]; rfl)) ?_; (with_reducible refine (Go.Proofs.YtjbckpoepfbgbaaDoor.Fd.feed_Feed.calls (⟨#[47, 99]⟩ : ByteArray) (⟨#[120]⟩ : ByteArray) (fun k_ => (some k_ ≠ (.slice Ao12 t275.length co12 : Value).ownBlock ∧ k_ ≠ gb283)) _ _ y294 10 1 t297 t298 t299 t300 t303 t306 t307 _ ?side1 ?side2 A3.out).mono ?_); (case side1 => exact Go.Proofs.YtjbckpoepfbgbaaDoor.Txt.LaidW.step HG.out (by repeat (first | (with_reducible first | exact HB.out | apply below_alloc | apply pw_below_drewN | apply below_drew1 | refine below_set ?_ GE283.out) | exact HB.out))); (case side2 => exact Kd.N_V (HO296.out)); rintro e w20 ⟨v301, v304, rfl, ho0, ho1, hb⟩; refine ⟨_, rfl, ?_⟩; have n0_ := Aside0.mk (Kd.R_elder' (by (with_reducible repeat (first | apply Kd.R_alloc | apply Kd.R_drewN | apply Kd.R_drew)); exact HO277.out) (Kd.R_base ho0) hb); have n1_ := Aside0.mk (Kd.V_elder' (by (with_reducible repeat (first | apply Kd.V_alloc | apply Kd.V_drewN | apply Kd.V_drew)); exact HO280.out) (Kd.R_base ho0) hb); have n2_ := Aside0.mk (Kd.N_elder' (by (with_reducible repeat (first | apply Kd.N_alloc | apply Kd.N_drewN | apply Kd.N_drew)); exact HO296.out) (Kd.R_base ho0) hb); have n3_ := Aside0.mk (Kd.R_lower (Kd.R_new' (Kd.R_mono (ok' := fun k_ => True) ho0 (fun _ hk_ => trivial)) (Kd.R_lt (by (with_reducible repeat (first | apply Kd.R_alloc | apply Kd.R_drewN | apply Kd.R_drew)); exact HO277.out))) (below_size (by repeat (first | (with_reducible first | exact HB.out | apply below_alloc | apply pw_below_drewN | apply below_drew1 | refine below_set ?_ GE283.out) | exact HB.out)))); have n4_ := Aside0.mk (Kd.V_lower (Kd.V_mono (ok' := fun k_ => some k_ ≠ (v301 : Value).ownBlock ∧ some k_ ≠ (.slice Ao12 t275.length co12 : Value).ownBlock ∧ k_ ≠ gb283) ho1 (fun k_ hk_ => ⟨hk_.2, Or.elim hk_.1 (fun hs_ => hs_.1) (fun hn_ => (Kd.fresh' (Kd.R_lt (by (with_reducible repeat (first | apply Kd.R_alloc | apply Kd.R_drewN | apply Kd.R_drew)); exact HO277.out)) k_ hn_)), Or.elim hk_.1 (fun hs_ => hs_.2) (fun hn_ => (Kd.freshB (g := gb283) (o := .cells #[.int .i64 t272, .string t273, .string t274, .slice Ao12 t275.length co12, .slice Ao13 t278.length co13, .string t281] 28 (0, 0)) (by (with_reducible repeat (first | refine blk_drewN ?_ _ | refine blk_drew ?_ | refine blk_alloc ?_ _)); exact BK283.out) k_ hn_))⟩)) (below_size (by repeat (first | (with_reducible first | exact HB.out | apply below_alloc | apply pw_below_drewN | apply below_drew1 | refine below_set ?_ GE283.out) | exact HB.out)))); have n5_ := Aside0.mk (blk_below (g := gb283) (o := .cells #[.int .i64 t272, .string t273, .string t274, .slice Ao12 t275.length co12, .slice Ao13 t278.length co13, .string t281] 28 (0, 0)) (by (with_reducible repeat (first | refine blk_drewN ?_ _ | refine blk_drew ?_ | refine blk_alloc ?_ _)); exact BK283.out) hb); have n6_ := Aside0.mk (below_step (by repeat (first | (with_reducible first | exact HB.out | apply below_alloc | apply pw_below_drewN | apply below_drew1 | refine below_set ?_ GE283.out) | exact HB.out)) hb); clear HO277; clear HO280; clear HO296; clear BK283; clear HB; have HO277 := n0_; have HO280 := n1_; have HO296 := n2_; have HO302 := n3_; have HO305 := n4_; have BK283 := n5_; have HB := n6_; clear n0_ n1_ n2_ n3_ n4_ n5_ n6_; (try clear hb); (try clear hb2); (try clear hk); (try clear hi); (try clear ho0); (try clear ho1)) | ((with_reducible refine gate_dst (N := 3) rfl ?_); (try (refine gate_guard (by rfl) ?_; dsimp only)); refine box_event ?hg (N := 3) ?hd (cs := #[.int .i64 0, .string (⟨#[]⟩ : ByteArray), .string (⟨#[]⟩ : ByteArray), .slice none 0 0, .slice none 0 0, .string (⟨#[]⟩ : ByteArray)]) (t := 28) ?hr ?_; (case hd => rfl); (case hg => rfl); (case hr => first | (go_simp; done) | (go_simp; rfl)); intro gb308 hg w21 hbox hb; have n0_ := Aside0.mk (Kd.R_below (by (with_reducible repeat (first | apply Kd.R_alloc | apply Kd.R_drewN | apply Kd.R_drew)); exact HO277.out) hb); have n1_ := Aside0.mk (Kd.V_below (Kd.V_elderB (by (with_reducible repeat (first | apply Kd.V_alloc | apply Kd.V_drewN | apply Kd.V_drew)); exact HO280.out) gb308 (Nat.le_of_eq hg.symm)) hb); have n2_ := Aside0.mk (Kd.N_below (Kd.N_elderB (by (with_reducible repeat (first | apply Kd.N_alloc | apply Kd.N_drewN | apply Kd.N_drew)); exact HO296.out) gb308 (Nat.le_of_eq hg.symm)) hb); have n3_ := Aside0.mk (Kd.R_below (by (with_reducible repeat (first | apply Kd.R_alloc | apply Kd.R_drewN | apply Kd.R_drew)); exact HO302.out) hb); have n4_ := Aside0.mk (Kd.V_below (Kd.V_elderB (by (with_reducible repeat (first | apply Kd.V_alloc | apply Kd.V_drewN | apply Kd.V_drew)); exact HO305.out) gb308 (Nat.le_of_eq hg.symm)) hb); have n5_ := Aside0.mk (blk_below (g := gb283) (o := .cells #[.int .i64 t272, .string t273, .string t274, .slice Ao12 t275.length co12, .slice Ao13 t278.length co13, .string t281] 28 (0, 0)) (by (with_reducible repeat (first | refine blk_drewN ?_ _ | refine blk_drew ?_ | refine blk_alloc ?_ _)); exact BK283.out) hb); have n6_ := Aside0.mk (below_step (by repeat (first | (with_reducible first | exact HB.out | apply below_alloc | apply pw_below_drewN | apply below_drew1 | refine below_set ?_ GE283.out) | exact HB.out)) hb); have n7_ := Aside0.mk (hbox); have n8_ := Aside0.mk ((by rw [hg]; exact (below_size (by repeat (first | (with_reducible first | exact HB.out | apply below_alloc | apply pw_below_drewN | apply below_drew1 | refine below_set ?_ GE283.out) | exact HB.out))) : w.heap.size ≤ gb308)); have n9_ := Aside0.mk ((by rw [hg]; exact (below_size (by repeat (first | (with_reducible first | exact HB.out | apply below_alloc | apply pw_below_drewN | apply below_drew1 | refine below_set ?_ GE283.out) | exact HB.out))) : w.heap.size ≤ gb308)); have n10_ := Aside0.mk ((by rw [hg]; exact Nat.ne_of_lt (blk_lt (g := gb283) (o := .cells #[.int .i64 t272, .string t273, .string t274, .slice Ao12 t275.length co12, .slice Ao13 t278.length co13, .string t281] 28 (0, 0)) (by (with_reducible repeat (first | refine blk_drewN ?_ _ | refine blk_drew ?_ | refine blk_alloc ?_ _)); exact BK283.out)) : gb283 ≠ gb308)); have n11_ := Aside0.mk ((by rw [hg]; exact Nat.ne_of_gt (blk_lt (g := gb283) (o := .cells #[.int .i64 t272, .string t273, .string t274, .slice Ao12 t275.length co12, .slice Ao13 t278.length co13, .string t281] 28 (0, 0)) (by (with_reducible repeat (first | refine blk_drewN ?_ _ | refine blk_drew ?_ | refine blk_alloc ?_ _)); exact BK283.out)) : gb308 ≠ gb283)); clear HO277; clear HO280; clear HO296; clear HO302; clear HO305; clear BK283; clear HB; have HO277 := n0_; have HO280 := n1_; have HO296 := n2_; have HO302 := n3_; have HO305 := n4_; have BK283 := n5_; have HB := n6_; have BK308 := n7_; have GW308 := n8_; have GE308 := n9_; have NB283_308 := n10_; have NB308_283 := n11_; clear n0_ n1_ n2_ n3_ n4_ n5_ n6_ n7_ n8_ n9_ n10_ n11_; clear hb hbox hg; have hnb22 := NB308_283.out; have hnc22 := NB283_308.out; have hcz23_0 : w21.cell? ⟨gb308, 0, none⟩ = some (.int .i64 0) := (blk_cell BK308.out 0).trans rfl; have hcz23_1 : w21.cell? ⟨gb308, 1, none⟩ = some (.string (⟨#[]⟩ : ByteArray)) := (blk_cell BK308.out 1).trans rfl; have hcz23_2 : w21.cell? ⟨gb308, 2, none⟩ = some (.string (⟨#[]⟩ : ByteArray)) := (blk_cell BK308.out 2).trans rfl; have hcz23_3 : w21.cell? ⟨gb308, 3, none⟩ = some (.slice none 0 0) := (blk_cell BK308.out 3).trans rfl; have hcz23_4 : w21.cell? ⟨gb308, 4, none⟩ = some (.slice none 0 0) := (blk_cell BK308.out 4).trans rfl; have hcz23_5 : w21.cell? ⟨gb308, 5, none⟩ = some (.string (⟨#[]⟩ : ByteArray)) := (blk_cell BK308.out 5).trans rfl; have hfz23_0 := blk_frozen BK308.out 0; have hfz23_1 := blk_frozen BK308.out 1; have hfz23_2 := blk_frozen BK308.out 2; have hfz23_3 := blk_frozen BK308.out 3; have hfz23_4 := blk_frozen BK308.out 4; have hfz23_5 := blk_frozen BK308.out 5; obtain ⟨Ao24, co24, eo24⟩ := Kd.R_slice HO302.out; subst eo24; obtain ⟨Ao25, co25, eo25⟩ := Kd.V_slice HO305.out; subst eo25; have hcz26_0 : w21.cell? ⟨gb283, 0, none⟩ = some (.int .i64 t272) := (blk_cell BK283.out 0).trans rfl; have hcz26_1 : w21.cell? ⟨gb283, 1, none⟩ = some (.string t273) := (blk_cell BK283.out 1).trans rfl; have hcz26_2 : w21.cell? ⟨gb283, 2, none⟩ = some (.string t274) := (blk_cell BK283.out 2).trans rfl; have hcz26_3 : w21.cell? ⟨gb283, 3, none⟩ = some (.slice Ao12 t275.length co12) := (blk_cell BK283.out 3).trans rfl; have hcz26_4 : w21.cell? ⟨gb283, 4, none⟩ = some (.slice Ao13 t278.length co13) := (blk_cell BK283.out 4).trans rfl; have hcz26_5 : w21.cell? ⟨gb283, 5, none⟩ = some (.string t281) := (blk_cell BK283.out 5).trans rfl; have hfz26_0 := blk_frozen BK283.out 0; have hfz26_1 := blk_frozen BK283.out 1; have hfz26_2 := blk_frozen BK283.out 2; have hfz26_3 := blk_frozen BK283.out 3; have hfz26_4 := blk_frozen BK283.out 4; have hfz26_5 := blk_frozen BK283.out 5))
            go_ret
            exact ⟨by first | rfl | (simp [errW_none, errW_some] <;> rfl) | (simp [*, errW_none, errW_some] <;> rfl), by repeat (first | (with_reducible first | exact HB.out | apply below_alloc | apply pw_below_drewN | apply below_drew1 | refine below_set ?_ GE283.out | refine below_set ?_ GE308.out) | exact HB.out)⟩
          · rw [if_neg c8, HRT.out] at H
            exact absurd H (by simp)
        · rw [if_neg c7, HRT.out] at H
          exact absurd H (by simp)
      · rw [if_neg c6, HRT.out] at H
        exact absurd H (by simp)
    · rw [if_neg c5, HRT.out] at H
      exact absurd H (by simp)
  · rw [if_neg c4, HRT.out] at H
    exact absurd H (by simp)
end Go.Proofs.YtjbckpoepfbgbaaDoor.Pr
end
section
-- Written by given.py, a program of this session, over the kit's printer.
namespace Go.Proofs.YtjbckpoepfbgbaaDoor.Pr
open Go.RowKit Go.Proofs.YtjbckpoepfbgbaaDoorW.PrintWords Go.Proofs.YtjbckpoepfbgbaaDoorW.PrintLast Go.Proofs.YtjbckpoepfbgbaaDoorW.PrintMore
attribute [local go_sem] max2_int min2_int max_two min_two max_three min_three max_four min_four
set_option linter.unusedVariables false
set_option linter.unusedSimpArgs false
theorem eqA61 (d : Nat) (w : World) (x0 y0 : ByteArray) (x1 y1 : ByteArray) (x2 y2 : ByteArray) :
    (Op.equalIn (d + 2) 61 (.agg #[.string x0, .string x1, .string x2]) (.agg #[.string y0, .string y1, .string y2])).run Tryd.prog w = .ok (x0.toList == y0.toList && (x1.toList == y1.toList && (x2.toList == y2.toList))) w := by
  refine eqA_of Tryd.underlying61 (by kernel_rfl) ?_
  refine eqf_cons (by rfl) (by go_simp; rfl) (by go_simp; rfl) (by go_simp) ?_
  refine eqf_cons (by rfl) (by go_simp; rfl) (by go_simp; rfl) (by go_simp) ?_
  exact eqf_last (by rfl) (by go_simp; rfl) (by go_simp; rfl) (by go_simp)
end Go.Proofs.YtjbckpoepfbgbaaDoor.Pr
end
