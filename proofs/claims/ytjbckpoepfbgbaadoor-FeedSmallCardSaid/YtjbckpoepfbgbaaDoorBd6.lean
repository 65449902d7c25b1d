/- 2 texts in one file: Fde, Fdv. -/
import Derived.Test.YtjbckpoepfbgbaaDoorRfx
section
/- feed.Feed and the document's: the ways with errors. -/
set_option linter.unusedVariables false
set_option linter.unusedSimpArgs false
set_option maxRecDepth 20000
namespace Go.Proofs.YtjbckpoepfbgbaaDoor.Fd
open Go.RowKit Go.Lib Go.Proofs.YtjbckpoepfbgbaaDoor.Pr Go.Proofs.YtjbckpoepfbgbaaDoor.Gv Go.Proofs.YtjbckpoepfbgbaaDoor.Lnk Go.Proofs.YtjbckpoepfbgbaaDoor.Mrg Go.Proofs.YtjbckpoepfbgbaaDoor.Srt Go.Proofs.YtjbckpoepfbgbaaDoor.Fun Go.Proofs.YtjbckpoepfbgbaaDoor.Txt Go.Proofs.YtjbckpoepfbgbaaDoorW.PrintWords Go.Proofs.YtjbckpoepfbgbaaDoorW.PrintLast Go.Proofs.YtjbckpoepfbgbaaDoorW.PrintMore
/-- The node that is nothing, and an error. -/
def Failed (er : Int) (w : World) (e : Ending) (w' : World) : Prop := e = .returned (.tuple #[.agg #[.int .i64 0, .string ⟨#[]⟩, .string ⟨#[]⟩, .slice none 0 0, .slice none 0 0, .string ⟨#[]⟩], .int .i64 er]) ∧ Below w.heap.size w w'
theorem below6 {w wr : World} (h : Below w.heap.size w wr) (a b c d e f : Value) : Below w.heap.size w ((((((wr.setCell ⟨w.heap.size, 0, none⟩ a).setCell ⟨w.heap.size, 1, none⟩ b).setCell ⟨w.heap.size, 2, none⟩ c).setCell ⟨w.heap.size, 3, none⟩ d).setCell ⟨w.heap.size, 4, none⟩ e).setCell ⟨w.heap.size, 5, none⟩ f) :=
  (((((h.setCell (p := ⟨w.heap.size, 0, none⟩) (Nat.le_refl _) _).setCell (p := ⟨w.heap.size, 1, none⟩) (Nat.le_refl _) _).setCell (p := ⟨w.heap.size, 2, none⟩) (Nat.le_refl _) _).setCell (p := ⟨w.heap.size, 3, none⟩) (Nat.le_refl _) _).setCell (p := ⟨w.heap.size, 4, none⟩) (Nat.le_refl _) _).setCell (p := ⟨w.heap.size, 5, none⟩) (Nat.le_refl _) _
set_option maxHeartbeats 4000000 in
theorem feedE1 (base title : ByteArray) (A : Option Addr) (cc n : Nat) (s k er : Int) (w : World) (her : er = 1 ∨ er = 10)
    (C : ∀ W, Calls Tryd.prog 17 #[.slice A n cc, .int .i64 s, .int .i64 k] W fun e w' => e = .returned (.tuple #[.slice none 0 0, .int .i64 er]) ∧ Below W.heap.size W w') :
    Calls Tryd.prog 8 #[.string base, .string title, .slice A n cc, .int .i64 s, .int .i64 k] w (Failed er w) := by
  have HC := Lib.hid C
  clear C
  go_enter Tryd.func8, Tryd.ntmps8
  go_wp2_with fail
  refine (HC.out (w.alloc (.cells #[.int .i64 0, .string ⟨#[]⟩, .string ⟨#[]⟩, .slice none 0 0, .slice none 0 0, .string ⟨#[]⟩] 28))).mono ?_
  rintro e w2 ⟨rfl, hb2⟩
  have HB2 : Hid (Below w.heap.size w w2) := ((Below.refl _ _).alloc (Nat.le_refl _) _).trans (hb2.mono (by simp))
  have BK := (new_blk _ _ _ hb2)
  have q0 := Lnk.blk_cell BK.1 0 _ rfl
  have q1 := Lnk.blk_cell BK.1 1 _ rfl
  have q2 := Lnk.blk_cell BK.1 2 _ rfl
  have q3 := Lnk.blk_cell BK.1 3 _ rfl
  have q4 := Lnk.blk_cell BK.1 4 _ rfl
  have q5 := Lnk.blk_cell BK.1 5 _ rfl
  clear hb2 BK HC
  rcases her with rfl | rfl
  all_goals
    go_wp2_with fail
    refine bodyPost_ret (v := .tuple #[.agg #[.int .i64 0, .string ⟨#[]⟩, .string ⟨#[]⟩, .slice none 0 0, .slice none 0 0, .string ⟨#[]⟩], .int .i64 _]) ?_ rfl ⟨rfl, below6 HB2.out _ _ _ _ _ _⟩
    simp [results, Tryd.results8, go_sem, q0, q1, q2, q3, q4, q5]
set_option maxHeartbeats 4000000 in
theorem rfeedE1 (base title : ByteArray) (A : Option Addr) (cc n : Nat) (s k er : Int) (w : World) (her : er = 1 ∨ er = 10)
    (C : ∀ W, Calls Tryd.prog 26 #[.slice A n cc, .int .i64 s, .int .i64 k] W fun e w' => e = .returned (.tuple #[.slice none 0 0, .int .i64 er]) ∧ Below W.heap.size W w') :
    Calls Tryd.prog 9 #[.string base, .string title, .slice A n cc, .int .i64 s, .int .i64 k] w (Failed er w) := by
  have HC := Lib.hid C
  clear C
  go_enter Tryd.func9, Tryd.ntmps9
  go_wp2_with fail
  refine (HC.out (w.alloc (.cells #[.int .i64 0, .string ⟨#[]⟩, .string ⟨#[]⟩, .slice none 0 0, .slice none 0 0, .string ⟨#[]⟩] 28))).mono ?_
  rintro e w2 ⟨rfl, hb2⟩
  have HB2 : Hid (Below w.heap.size w w2) := ((Below.refl _ _).alloc (Nat.le_refl _) _).trans (hb2.mono (by simp))
  have BK := (new_blk _ _ _ hb2)
  have q0 := Lnk.blk_cell BK.1 0 _ rfl
  have q1 := Lnk.blk_cell BK.1 1 _ rfl
  have q2 := Lnk.blk_cell BK.1 2 _ rfl
  have q3 := Lnk.blk_cell BK.1 3 _ rfl
  have q4 := Lnk.blk_cell BK.1 4 _ rfl
  have q5 := Lnk.blk_cell BK.1 5 _ rfl
  clear hb2 BK HC
  rcases her with rfl | rfl
  all_goals
    go_wp2_with fail
    refine bodyPost_ret (v := .tuple #[.agg #[.int .i64 0, .string ⟨#[]⟩, .string ⟨#[]⟩, .slice none 0 0, .slice none 0 0, .string ⟨#[]⟩], .int .i64 _]) ?_ rfl ⟨rfl, below6 HB2.out _ _ _ _ _ _⟩
    simp [results, Tryd.results9, go_sem, q0, q1, q2, q3, q4, q5]
/-- Behind the page: the date may not be told, or a name is nothing. -/
def late (base title : ByteArray) (at_ : Int) (er : Int) : Prop := (¬ inR at_ 0 ∧ er = 110) ∨ (inR at_ 0 ∧ (base.toList == ([] : List UInt8)) = true ∧ er = 1) ∨ (inR at_ 0 ∧ (base.toList == ([] : List UInt8)) = false ∧ (title.toList == ([] : List UInt8)) = true ∧ er = 1)
set_option maxHeartbeats 4000000 in
theorem feedE2 (base title : ByteArray) (A : Option Addr) (cc : Nat) (l : List S40) (s k at_ er : Int) (w : World) (hC : Kd.C k40 w A l.length l) (hcc : l.length ≤ cc) (hl : l.length ≤ 1000000) (hG : LaidW w) (hF : Fit l.length s) (h1 : 1 ≤ k) (h2 : k ≤ lastP l.length s)
    (hat : ∃ q, feed_latest.f q l = some at_) (hlt : late base title at_ er) :
    Calls Tryd.prog 8 #[.string base, .string title, .slice A l.length cc, .int .i64 s, .int .i64 k] w (Failed er w) := by
  have HC := Lib.hid hC
  have HF := Lib.hid hF
  have HG := Lib.hid hG
  have HLT := Lib.hid hlt
  clear hC hF hG hlt
  go_enter Tryd.func8, Tryd.ntmps8
  go_wp2_with fail
  have C1 := pageO A cc l s k (w.alloc (.cells #[.int .i64 0, .string ⟨#[]⟩, .string ⟨#[]⟩, .slice none 0 0, .slice none 0 0, .string ⟨#[]⟩] 28)) (Kd.C_below HC.out ((Below.refl _ _).alloc (Nat.le_refl _) _)) (by omega) HF.out h1 h2
  refine C1.mono ?_
  clear C1
  rintro e w2 ⟨Ap, cp, rfl, hcp, hCp, hb2⟩
  have HB2 : Hid (Below w.heap.size w w2) := ((Below.refl _ _).alloc (Nat.le_refl _) _).trans (hb2.mono (by simp))
  have BK := (new_blk _ _ _ hb2)
  clear hb2 hCp hcp
  go_wp2_with fail
  obtain ⟨q, hq⟩ := hat
  refine (feed_latest.calls q A cc l at_ w2 (Kd.C_below HC.out HB2.out) hcc hq).mono ?_
  rintro e w3 ⟨rfl, hb3⟩
  have HB3 : Hid (Below w.heap.size w w3) := HB2.out.trans (hb3.mono HB2.out.size)
  have BK3 := Lib.hid ((hb3.block _ BK.2).trans BK.1)
  clear hb3 hq BK HB2
  go_wp2_with fail
  obtain ⟨tx, ed, hpr, hed⟩ : ∃ tx ed, date_Print.f 1 at_ 0 = some (tx, ed) ∧ ((ed = 110 ∧ er = 110) ∨ (ed = 0 ∧ er = 1 ∧ ((base.toList == ([] : List UInt8)) = true ∨ ((base.toList == ([] : List UInt8)) = false ∧ (title.toList == ([] : List UInt8)) = true)))) := by
    rcases HLT.out with ⟨h, he⟩ | ⟨h, hb, he⟩ | ⟨h, hb, ht, he⟩
    · exact ⟨_, _, print_bad 1 (by omega) at_ 0 h, .inl ⟨rfl, he⟩⟩
    · exact ⟨_, _, print_ok 1 (by omega) at_ 0 h, .inr ⟨rfl, he, .inl hb⟩⟩
    · exact ⟨_, _, print_ok 1 (by omega) at_ 0 h, .inr ⟨rfl, he, .inr ⟨hb, ht⟩⟩⟩
  refine (date_Print.calls 1 at_ 0 tx ed w3 (HG.out.step HB3.out) hpr).mono ?_
  rintro e w4 ⟨rfl, hb4⟩
  have HB4 : Hid (Below w.heap.size w w4) := HB3.out.trans (hb4.mono HB3.out.size)
  have BK4 := ((hb4.block _ (blk_lt BK3.out)).trans BK3.out)
  have q0 := Lnk.blk_cell BK4 0 _ rfl
  have q1 := Lnk.blk_cell BK4 1 _ rfl
  have q2 := Lnk.blk_cell BK4 2 _ rfl
  have q3 := Lnk.blk_cell BK4 3 _ rfl
  have q4 := Lnk.blk_cell BK4 4 _ rfl
  have q5 := Lnk.blk_cell BK4 5 _ rfl
  clear hb4 HB3 BK3 BK4 hpr HLT
  rcases hed with ⟨rfl, rfl⟩ | ⟨rfl, rfl, hb0 | ⟨hb0, ht0⟩⟩
  all_goals
    go_wp2_with fail
    refine bodyPost_ret (v := .tuple #[.agg #[.int .i64 0, .string ⟨#[]⟩, .string ⟨#[]⟩, .slice none 0 0, .slice none 0 0, .string ⟨#[]⟩], .int .i64 _]) ?_ rfl ⟨rfl, below6 HB4.out _ _ _ _ _ _⟩
    simp [results, Tryd.results8, go_sem, q0, q1, q2, q3, q4, q5]
attribute [local go_sem] max2_int min2_int max_two min_two
set_option maxHeartbeats 4000000 in
theorem rfeedE2 (base title : ByteArray) (A : Option Addr) (cc : Nat) (l : List S40) (s k er : Int) (w : World) (okl : Nat → Prop) (hC : Kd.F k40 w okl A l.length l) (hcc : l.length ≤ cc) (hl : l.length ≤ 1000000) (hF : Fit l.length s) (h1 : 1 ≤ k) (h2 : k ≤ lastP l.length s) (hlt : late base title (latN l) er) :
    Calls Tryd.prog 9 #[.string base, .string title, .slice A l.length cc, .int .i64 s, .int .i64 k] w (Failed er w) := by
  have HC := Lib.hid hC
  have HF := Lib.hid hF
  have HLT := Lib.hid hlt
  clear hC hF hlt
  obtain ⟨nn, hnn⟩ : ∃ nn, nn = l.length := ⟨_, rfl⟩
  have HNN := Lib.hid hnn
  have i28 : (Tryd.prog.info? 28).map (fun i => (i.zero, i.size, i.bytes)) = some (some (.agg #[(.int .i64 0), (.string ⟨#[]⟩), (.string ⟨#[]⟩), (.slice none 0 0), (.slice none 0 0), (.string ⟨#[]⟩)]), 6, 104) := by kernel_rfl
  have I28 := Lib.hid i28
  clear i28
  obtain ⟨la, hla0⟩ : ∃ la, la = lastP l.length s := ⟨_, rfl⟩
  obtain ⟨nx, hnx0⟩ : ∃ nx, nx = nextP l.length s k := ⟨_, rfl⟩
  have hnx : 0 ≤ nx ∧ nx ≤ 999999999999 := by rw [hnx0]; exact nextP_bd HF.out hl h1 h2
  have hla : 1 ≤ la ∧ la ≤ 999999999999 := by rw [hla0]; exact lastP_le HF.out hl
  have HP : Hid (∀ W, Below w.heap.size w W → Calls Tryd.prog 26 #[.slice A nn cc, .int .i64 s, .int .i64 k] W (PagedF W (fun k => okl k ∧ k < w.heap.size) l s k)) := fun W hW => by
    rw [hnn]
    exact rpageOF A cc l s k W _ (Kd.F_below (Kd.F_bound HC.out) hW) (by omega) HF.out h1 h2
  have HK : Hid (∀ W, Calls Tryd.prog 27 #[.int .i64 (nn : Int), .int .i64 s, .int .i64 k] W fun e w' => e = .returned (.tuple #[four 1 (k - 1) nx la, .int .i64 0]) ∧ Below W.heap.size W w') := fun W => by
    rw [hnn, hnx0, hla0]
    by_cases h : k = lastP l.length s
    · exact rlinksO_2 k _ HF.out h1 h
    · exact rlinksO_1 k _ HF.out h1 (by omega)
  rw [← hla0] at h2
  rw [← hnn] at hcc hl ⊢
  have HNX := Lib.hid hnx0
  have HLA := Lib.hid hla0
  clear hnx0 hla0 hnn
  go_enter Tryd.func9, Tryd.ntmps9
  go_wp2_with fail
  have C1 := HP.out (w.alloc (.cells #[.int .i64 0, .string ⟨#[]⟩, .string ⟨#[]⟩, .slice none 0 0, .slice none 0 0, .string ⟨#[]⟩] 28)) ((Below.refl _ _).alloc (Nat.le_refl _) _)
  refine C1.mono ?_
  clear C1
  rintro e w2 ⟨Ap, cp, rfl, hcp, hCp, hb2⟩
  have HB2 : Hid (Below w.heap.size w w2) := ((Below.refl _ _).alloc (Nat.le_refl _) _).trans (hb2.mono (by simp))
  have BK := (new_blk _ _ _ hb2)
  have hCp9 : Kd.F k40 w2 (okM okl w.heap.size) Ap (pageOf l s k).length (pageOf l s k) := Kd.F_mono hCp (fun k_ hk => hk.elim Or.inl (fun h => Or.inr (by simp at h; omega)))
  have HCp := Lib.hid hCp9
  clear hb2 hCp hCp9
  obtain ⟨ps, hps⟩ : ∃ ps, ps = pageOf l s k := ⟨_, rfl⟩
  rw [← hps] at hcp HCp ⊢
  have HPS := Lib.hid hps
  have hm99 : ps.length ≤ 999999999999 := by rw [hps]; unfold pageOf; rw [List.length_drop, List.length_take]; have := HNN.out; omega
  clear hps
  obtain ⟨m, hm⟩ : ∃ m, m = ps.length := ⟨_, rfl⟩
  have HM := Lib.hid hm
  rw [← hm] at hcp hm99 ⊢
  clear hm
  go_wp2_with fail
  refine (HK.out w2).mono ?_
  unfold four
  rintro e w3 ⟨rfl, hb3⟩
  have HB3 : Hid (Below w.heap.size w w3) := HB2.out.trans (hb3.mono HB2.out.size)
  have HCp3 := Lib.hid (Kd.F_below HCp.out hb3)
  have BK3 := Lib.hid ((hb3.block _ BK.2).trans BK.1)
  clear hb3 BK HB2 HCp
  go_wp2_with fail
  have hx35 : (w3.alloc (.cells #[.int .i64 1, .int .i64 (k - 1), .int .i64 nx, .int .i64 la] 55)).heap[w3.heap.size]? = some (.cells #[.int .i64 1, .int .i64 (k - 1), .int .i64 nx, .int .i64 la] 55 (0, 0)) := by
    show (w3.heap.push _)[w3.heap.size]? = _
    simp
  have HX3 := Lib.hid hx35
  have HCx : Hid (Kd.C k40 (w3.alloc (.cells #[.int .i64 1, .int .i64 (k - 1), .int .i64 nx, .int .i64 la] 55)) A l.length l) := Kd.C_below (Kd.F_now HC.out) (HB3.out.alloc HB3.out.size _)
  have HB3x : Hid (Below w3.heap.size w3 (w3.alloc (.cells #[.int .i64 1, .int .i64 (k - 1), .int .i64 nx, .int .i64 la] 55))) := (Below.refl _ _).alloc (Nat.le_refl _) _
  clear hx35
  generalize w3.alloc (.cells #[.int .i64 1, .int .i64 (k - 1), .int .i64 nx, .int .i64 la] 55) = wx at HX3 HCx HB3x ⊢
  go_loop [16, 17] (fun s16 s17 => ∃ i : Nat, s17 = .int .i64 (i : Int) ∧ s16 = .int .i64 (latN (l.take i)) ∧ i ≤ nn) (fun _ s17 => nn - (intOf s17).toNat)
  case atStart => exact ⟨0, rfl, rfl, Nat.zero_le _⟩
  case round =>
    obtain ⟨i, rfl, rfl, hi⟩ := hrel
    by_cases hlt : i < nn
    · obtain ⟨ad, rfl, hc1⟩ := C_get40 HCx.out i (by rw [← HNN.out]; exact hlt)
      have hsn : latN (l.take (i + 1)) = max (latN (l.take i)) (rd_T40 l i).f1 := by
        have h9 : i < l.length := by rw [← HNN.out]; exact hlt
        rw [List.take_succ_eq_append_getElem h9, latN_snoc]
        unfold rd_T40
        simp [List.getD, List.getElem?_eq_getElem h9]
      have HSN := Lib.hid hsn
      have hi0 : (0 : Int) ≤ (i : Int) := by omega
      have hi1 : (i : Int) < (nn : Int) := by omega
      clear hsn
      go_wp2_with fail
      go_round
      case rel => exact ⟨i + 1, by go_num, by rw [HSN.out, max_ite], by omega⟩
      case measure => simp [intOf]; omega
    · obtain rfl : i = nn := by omega
      have hall : latN (l.take i) = latN l := by rw [List.take_of_length_le (by rw [HNN.out]; exact Nat.le_refl _)]
      rw [hall]
      clear hall
      obtain ⟨tx, ed, hpr, hed⟩ : ∃ tx ed, broadsheetref11_Print.f 5000 (latN l) 0 = some (tx, ed) ∧ ((ed = 110 ∧ er = 110) ∨ (ed = 0 ∧ er = 1 ∧ ((base.toList == ([] : List UInt8)) = true ∨ ((base.toList == ([] : List UInt8)) = false ∧ (title.toList == ([] : List UInt8)) = true)))) := by
        rcases HLT.out with ⟨h, he⟩ | ⟨h, hb, he⟩ | ⟨h, hb, ht, he⟩
        · exact ⟨_, _, rprint_bad 5000 (by omega) _ 0 h, .inl ⟨rfl, he⟩⟩
        · exact ⟨_, _, rprint_ok 5000 (by omega) _ 0 h, .inr ⟨rfl, he, .inl hb⟩⟩
        · exact ⟨_, _, rprint_ok 5000 (by omega) _ 0 h, .inr ⟨rfl, he, .inr ⟨hb, ht⟩⟩⟩
      have HPR := Lib.hid hpr
      clear hpr
      go_wp2_with fail
      refine (broadsheetref11_Print.calls 5000 _ 0 tx ed _ HPR.out).mono ?_
      rintro e w4 ⟨rfl, hb4⟩
      have HBx4 := Lib.hid (HB3x.out.trans (hb4.mono HB3x.out.size))
      have HB4 : Hid (Below w.heap.size w w4) := HB3.out.trans (HBx4.out.mono HB3.out.size)
      have BK4 := ((HBx4.out.block _ (blk_lt BK3.out)).trans BK3.out)
      have q0 := Lnk.blk_cell BK4 0 _ rfl
      have q1 := Lnk.blk_cell BK4 1 _ rfl
      have q2 := Lnk.blk_cell BK4 2 _ rfl
      have q3 := Lnk.blk_cell BK4 3 _ rfl
      have q4 := Lnk.blk_cell BK4 4 _ rfl
      have q5 := Lnk.blk_cell BK4 5 _ rfl
      clear hb4 HB3 HCp3 BK3 HBx4 HX3 HCx HB3x BK4 HLT HPR
      rcases hed with ⟨rfl, rfl⟩ | ⟨rfl, rfl, hb0 | ⟨hb0, ht0⟩⟩
      all_goals
        go_wp2_with fail
        refine bodyPost_ret (v := .tuple #[.agg #[.int .i64 0, .string ⟨#[]⟩, .string ⟨#[]⟩, .slice none 0 0, .slice none 0 0, .string ⟨#[]⟩], .int .i64 _]) ?_ rfl ⟨rfl, below6 HB4.out _ _ _ _ _ _⟩
        simp [results, Tryd.results9, go_sem, q0, q1, q2, q3, q4, q5]
end Go.Proofs.YtjbckpoepfbgbaaDoor.Fd
end
section
/- feed.Feed and the document's Feed: the same values; as the printed texts ask for them. -/
set_option linter.unusedVariables false
set_option maxRecDepth 20000
namespace Go.Proofs.YtjbckpoepfbgbaaDoor.Fd
open Go.RowKit Go.Lib Go.Proofs.YtjbckpoepfbgbaaDoor.Pr Go.Proofs.YtjbckpoepfbgbaaDoor.Gv Go.Proofs.YtjbckpoepfbgbaaDoor.Lnk Go.Proofs.YtjbckpoepfbgbaaDoor.Mrg Go.Proofs.YtjbckpoepfbgbaaDoor.Srt Go.Proofs.YtjbckpoepfbgbaaDoor.Fun Go.Proofs.YtjbckpoepfbgbaaDoor.Txt Go.Proofs.YtjbckpoepfbgbaaDoorW.PrintWords Go.Proofs.YtjbckpoepfbgbaaDoorW.PrintLast Go.Proofs.YtjbckpoepfbgbaaDoorW.PrintMore
theorem latest_end (l : List S40) (hl : l.length ≤ 1000000) (d : Nat) : ∀ (k : Nat) (x : Int) (i : Nat), i ≤ l.length → l.length - i = d → d < k → feed_latest.l0 k x l (l.length : Int) (i : Int) = some ((l.drop i).foldl (fun a m => max a m.f1) x) := by
  induction d with
  | zero =>
    intro k x i hi hd hk
    obtain ⟨k, rfl⟩ : ∃ m, k = m + 1 := ⟨k - 1, by omega⟩
    simp only [feed_latest.l0]
    rw [if_neg (by omega), List.drop_of_length_le (by omega)]
    rfl
  | succ d ih =>
    intro k x i hi hd hk
    obtain ⟨k, rfl⟩ : ∃ m, k = m + 1 := ⟨k - 1, by omega⟩
    have hlt : i < l.length := by omega
    simp only [feed_latest.l0]
    rw [if_pos (by omega), if_pos (by omega), if_pos (by omega)]
    have hw : wrap64 ((i : Int) + 1) = ((i + 1 : Nat) : Int) := by unfold wrap64; omega
    rw [hw, ih k _ (i + 1) (by omega) (by omega) (by omega), List.drop_eq_getElem_cons hlt, List.foldl_cons]
    have e : rd_T40 l (i : Int) = l[i] := by
      unfold rd_T40
      simp [List.getD, List.getElem?_eq_getElem hlt]
    have e2 : mx x (rd_T40 l (i : Int)).f1 = max x l[i].f1 := by rw [e]; unfold mx; split <;> omega
    rw [e2]
theorem latest_eq (l : List S40) (hl : l.length ≤ 1000000) : ∃ q, feed_latest.f q l = some (latN l) :=
  ⟨l.length + 1, by
    unfold feed_latest.f
    exact latest_end l hl l.length (l.length + 1) 0 0 (by omega) (by omega) (by omega)⟩
theorem bad_or_fit' (n s : Int) (h : n ≤ 9223372036854775807) : Bad n s ∨ Fit n s := by unfold Bad Fit; omega
def feedB : ByteArray := ⟨#[102, 101, 101, 100]⟩
instance decBad (n s : Int) : Decidable (Bad n s) := by unfold Bad; exact inferInstance
instance decInR (s n : Int) : Decidable (inR s n) := by unfold inR; exact inferInstance
/-- Both feeds: the node, and the error. -/
def feedV (base title : ByteArray) (l : List S40) (s k : Int) : S28 × Int :=
  if Bad l.length s then (z28, 1) else if k < 1 ∨ lastP l.length s < k then (z28, 10) else if ¬ inR (latN l) 0 then (z28, 110) else if (base.toList == ([] : List UInt8)) = true ∨ (title.toList == ([] : List UInt8)) = true then (z28, 1)
  else (⟨0, atomB, feedB, [], feedK base title l s k (latN l), ⟨#[]⟩⟩, 0)
def Fed (okl : Nat → Prop) (x : S28) (er : Int) (w : World) (e : Ending) (w' : World) : Prop := ∃ (A4 : Option Addr) (c4 : Nat), e = .returned (.tuple #[.agg #[.int .i64 x.f0, .string x.f1, .string x.f2, .slice none 0 0, .slice A4 x.f4.length c4, .string x.f5], .int .i64 er]) ∧ x.f3 = [] ∧ Kd.V k28 28 w' w.heap.size (fun k_ => okl k_ ∨ w.heap.size ≤ k_) (.slice A4 x.f4.length c4) x.f4 ∧ Below w.heap.size w w'
theorem failed_fed {okl : Nat → Prop} {er : Int} {w : World} (e : Ending) (w' : World) (h : Failed er w e w') : Fed okl z28 er w e w' :=
  ⟨none, 0, h.1, rfl, Kd.V_nil _ _ _ _ _, h.2⟩
theorem feedC (base title : ByteArray) (A : Option Addr) (cc : Nat) (l : List S40) (s k : Int) (w : World) (okl : Nat → Prop) (hC : Kd.F k40 w okl A l.length l) (hcc : l.length ≤ cc) (hl : l.length ≤ 1000000) (hG : LaidW w) (hb : base.size ≤ 140737488351232) (ht : title.size ≤ 140737488351232) :
    Calls Tryd.prog 8 #[.string base, .string title, .slice A l.length cc, .int .i64 s, .int .i64 k] w (Fed okl (feedV base title l s k).1 (feedV base title l s k).2 w) := by
  unfold feedV
  by_cases h1 : Bad l.length s
  · rw [if_pos h1]
    exact (feedE1 base title A cc l.length s k 1 w (.inl rfl) (fun W => Gv.pageB A cc l s k W h1)).mono failed_fed
  rw [if_neg h1]
  have hF : Fit l.length s := (bad_or_fit' _ _ (by omega)).resolve_left h1
  by_cases h2 : k < 1 ∨ lastP l.length s < k
  · rw [if_pos h2]
    refine (feedE1 base title A cc l.length s k 10 w (.inr rfl) (fun W => ?_)).mono failed_fed
    by_cases h3 : k < 1
    · exact pageN1 A cc l s k W hF h3
    · exact pageN2 A cc l s k W hF (by omega) (by omega)
  rw [if_neg h2]
  have hla := lastP_le hF hl
  by_cases h3 : ¬ inR (latN l) 0
  · rw [if_pos h3]
    exact (feedE2 base title A cc l s k (latN l) 110 w (Kd.F_now hC) hcc hl hG hF (by omega) (by omega) (latest_eq l hl) (.inl ⟨h3, rfl⟩)).mono failed_fed
  rw [if_neg h3]
  have h3 : inR (latN l) 0 := Classical.not_not.1 h3
  by_cases h4 : (base.toList == ([] : List UInt8)) = true
  · rw [if_pos (.inl h4)]
    exact (feedE2 base title A cc l s k (latN l) 1 w (Kd.F_now hC) hcc hl hG hF (by omega) (by omega) (latest_eq l hl) (.inr (.inl ⟨h3, h4, rfl⟩))).mono failed_fed
  by_cases h5 : (title.toList == ([] : List UInt8)) = true
  · rw [if_pos (.inr h5)]
    exact (feedE2 base title A cc l s k (latN l) 1 w (Kd.F_now hC) hcc hl hG hF (by omega) (by omega) (latest_eq l hl) (.inr (.inr ⟨h3, Bool.eq_false_iff.2 h4, h5, rfl⟩))).mono failed_fed
  rw [if_neg (by rintro (h | h); exact h4 h; exact h5 h)]
  refine (feedO base title A cc l s k (latN l) w okl hC hcc hl hG hF (by omega) (by omega) (by omega) hb ht (Bool.eq_false_iff.2 h4) (Bool.eq_false_iff.2 h5) (latest_eq l hl) h3).mono ?_
  rintro e w' ⟨A4, c4, he, hv, hb⟩
  exact ⟨A4, c4, he, rfl, hv, hb⟩
theorem rfeedC (base title : ByteArray) (A : Option Addr) (cc : Nat) (l : List S40) (s k : Int) (w : World) (okl : Nat → Prop) (hC : Kd.F k40 w okl A l.length l) (hcc : l.length ≤ cc) (hl : l.length ≤ 1000000) (hb : base.size ≤ 140737488351232) (ht : title.size ≤ 140737488351232) :
    Calls Tryd.prog 9 #[.string base, .string title, .slice A l.length cc, .int .i64 s, .int .i64 k] w (Fed okl (feedV base title l s k).1 (feedV base title l s k).2 w) := by
  unfold feedV
  by_cases h1 : Bad l.length s
  · rw [if_pos h1]
    exact (rfeedE1 base title A cc l.length s k 1 w (.inl rfl) (fun W => rpageB A cc l s k W h1)).mono failed_fed
  rw [if_neg h1]
  have hF : Fit l.length s := (bad_or_fit' _ _ (by omega)).resolve_left h1
  by_cases h2 : k < 1 ∨ lastP l.length s < k
  · rw [if_pos h2]
    refine (rfeedE1 base title A cc l.length s k 10 w (.inr rfl) (fun W => ?_)).mono failed_fed
    by_cases h3 : k < 1
    · exact rpageN1 A cc l s k W hF h3
    · exact rpageN2 A cc l s k W hF (by omega) (by omega)
  rw [if_neg h2]
  have hla := lastP_le hF hl
  by_cases h3 : ¬ inR (latN l) 0
  · rw [if_pos h3]
    exact (rfeedE2 base title A cc l s k 110 w okl hC hcc hl hF (by omega) (by omega) (.inl ⟨h3, rfl⟩)).mono failed_fed
  rw [if_neg h3]
  have h3 : inR (latN l) 0 := Classical.not_not.1 h3
  by_cases h4 : (base.toList == ([] : List UInt8)) = true
  · rw [if_pos (.inl h4)]
    exact (rfeedE2 base title A cc l s k 1 w okl hC hcc hl hF (by omega) (by omega) (.inr (.inl ⟨h3, h4, rfl⟩))).mono failed_fed
  by_cases h5 : (title.toList == ([] : List UInt8)) = true
  · rw [if_pos (.inr h5)]
    exact (rfeedE2 base title A cc l s k 1 w okl hC hcc hl hF (by omega) (by omega) (.inr (.inr ⟨h3, Bool.eq_false_iff.2 h4, h5, rfl⟩))).mono failed_fed
  rw [if_neg (by rintro (h | h); exact h4 h; exact h5 h)]
  refine (rfeedO base title A cc l s k w okl hC hcc hl hF (by omega) (by omega) (by omega) hb ht (Bool.eq_false_iff.2 h4) (Bool.eq_false_iff.2 h5) h3).mono ?_
  rintro e w' ⟨A4, c4, he, hv, hb⟩
  exact ⟨A4, c4, he, rfl, hv, hb⟩
def feed_Feed.f (a0 a1 : ByteArray) (l2 : List (S40)) (a3 a4 : Int) : Option (Int × ByteArray × ByteArray × (List (S61)) × (List (S28)) × ByteArray × Int) :=
  if l2.length ≤ 1000000 then (if a0.size ≤ 140737488351232 then (if a1.size ≤ 140737488351232 then some ((feedV a0 a1 l2 a3 a4).1.f0, (feedV a0 a1 l2 a3 a4).1.f1, (feedV a0 a1 l2 a3 a4).1.f2, [], (feedV a0 a1 l2 a3 a4).1.f4, (feedV a0 a1 l2 a3 a4).1.f5, (feedV a0 a1 l2 a3 a4).2) else none) else none) else none
def broadsheetref23_Feed.f (a0 a1 : ByteArray) (l2 : List (S40)) (a3 a4 : Int) : Option (Int × ByteArray × ByteArray × (List (S61)) × (List (S28)) × ByteArray × Int) := feed_Feed.f a0 a1 l2 a3 a4
theorem feed_Feed.calls (a0 : ByteArray) (a1 : ByteArray) (P2_ : Nat → Prop) (A2 : Option Addr) (c2 : Nat) (l2 : List (S40)) (a3 : Int) (a4 : Int) (r1 : Int) (r2 : ByteArray) (r3 : ByteArray) (r4 : List (S61)) (r5 : List (S28)) (r6 : ByteArray) (r7 : Int) (w : World) (hG : LaidW w) (hs2 : Kd.V k40 40 w w.heap.size (fun k_ => P2_ k_) (.slice A2 l2.length c2) l2) (h : feed_Feed.f a0 a1 l2 a3 a4 = some (r1, r2, r3, r4, r5, r6, r7)) :
    Calls Tryd.prog 8 #[.string a0, .string a1, .slice A2 l2.length c2, .int .i64 a3, .int .i64 a4] w fun e w' => ∃ v3_ v4_ : Value, e = .returned (.tuple #[.agg #[.int .i64 r1, .string r2, .string r3, v3_, v4_, .string r6], .int .i64 r7]) ∧ Kd.R k61 61 w' w.heap.size (fun k_ => (w.heap.size ≤ k_)) v3_ r4 ∧ Kd.V k28 28 w' w.heap.size (fun k_ => (P2_ k_ ∨ w.heap.size ≤ k_) ∧ some k_ ≠ (v3_ : Value).ownBlock) v4_ r5 ∧ Below w.heap.size w w' := by
  unfold feed_Feed.f at h
  split at h
  · split at h
    · split at h
      · simp only [Option.some.injEq, Prod.mk.injEq] at h
        obtain ⟨rfl, rfl, rfl, rfl, rfl, rfl, rfl⟩ := h
        obtain ⟨_, hc, hF⟩ := Kd.V_at hs2
        refine (feedC a0 a1 A2 c2 l2 a3 a4 w P2_ hF hc ‹_› hG ‹_› ‹_›).mono ?_
        rintro e w' ⟨A4, c4, rfl, _, hv, hb⟩
        exact ⟨_, _, rfl, Kd.R_nil _ _ _ _ _, Kd.V_mono hv (fun k hk => ⟨hk, by simp [Value.ownBlock]⟩), hb⟩
      · cases h
    · cases h
  · cases h
theorem broadsheetref23_Feed.calls (a0 : ByteArray) (a1 : ByteArray) (P2_ : Nat → Prop) (A2 : Option Addr) (c2 : Nat) (l2 : List (S40)) (a3 : Int) (a4 : Int) (r1 : Int) (r2 : ByteArray) (r3 : ByteArray) (r4 : List (S61)) (r5 : List (S28)) (r6 : ByteArray) (r7 : Int) (w : World) (hs2 : Kd.V k40 40 w w.heap.size (fun k_ => P2_ k_) (.slice A2 l2.length c2) l2) (h : broadsheetref23_Feed.f a0 a1 l2 a3 a4 = some (r1, r2, r3, r4, r5, r6, r7)) :
    Calls Tryd.prog 9 #[.string a0, .string a1, .slice A2 l2.length c2, .int .i64 a3, .int .i64 a4] w fun e w' => ∃ v3_ v4_ : Value, e = .returned (.tuple #[.agg #[.int .i64 r1, .string r2, .string r3, v3_, v4_, .string r6], .int .i64 r7]) ∧ Kd.R k61 61 w' w.heap.size (fun k_ => (w.heap.size ≤ k_)) v3_ r4 ∧ Kd.V k28 28 w' w.heap.size (fun k_ => (P2_ k_ ∨ w.heap.size ≤ k_) ∧ some k_ ≠ (v3_ : Value).ownBlock) v4_ r5 ∧ Below w.heap.size w w' := by
  unfold broadsheetref23_Feed.f feed_Feed.f at h
  split at h
  · split at h
    · split at h
      · simp only [Option.some.injEq, Prod.mk.injEq] at h
        obtain ⟨rfl, rfl, rfl, rfl, rfl, rfl, rfl⟩ := h
        obtain ⟨_, hc, hF⟩ := Kd.V_at hs2
        refine (rfeedC a0 a1 A2 c2 l2 a3 a4 w P2_ hF hc ‹_› ‹_› ‹_›).mono ?_
        rintro e w' ⟨A4, c4, rfl, _, hv, hb⟩
        exact ⟨_, _, rfl, Kd.R_nil _ _ _ _ _, Kd.V_mono hv (fun k hk => ⟨hk, by simp [Value.ownBlock]⟩), hb⟩
      · cases h
    · cases h
  · cases h
end Go.Proofs.YtjbckpoepfbgbaaDoor.Fd
end
