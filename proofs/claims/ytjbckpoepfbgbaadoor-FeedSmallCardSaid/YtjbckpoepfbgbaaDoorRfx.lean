/- broadsheetref23.Feed: the walk. Printed by wip/F23/genrfd.py. -/
import Derived.Test.YtjbckpoepfbgbaaDoorBd5
set_option linter.unusedVariables false
set_option linter.unusedSimpArgs false
set_option maxRecDepth 20000
namespace Go.Proofs.YtjbckpoepfbgbaaDoor.Fd
open Go.RowKit Go.Lib Go.Proofs.YtjbckpoepfbgbaaDoor.Pr Go.Proofs.YtjbckpoepfbgbaaDoor.Gv Go.Proofs.YtjbckpoepfbgbaaDoor.Lnk Go.Proofs.YtjbckpoepfbgbaaDoor.Mrg Go.Proofs.YtjbckpoepfbgbaaDoor.Srt Go.Proofs.YtjbckpoepfbgbaaDoor.Fun Go.Proofs.YtjbckpoepfbgbaaDoor.Txt Go.Proofs.YtjbckpoepfbgbaaDoorW.PrintWords Go.Proofs.YtjbckpoepfbgbaaDoorW.PrintLast Go.Proofs.YtjbckpoepfbgbaaDoorW.PrintMore
theorem blk_lt {w : World} {g : Nat} {o : Obj} (h : w.heap[g]? = some o) : g < w.heap.size := by
  rcases Nat.lt_or_ge g w.heap.size with h1 | h1
  · exact h1
  · rw [Array.getElem?_eq_none h1] at h; cases h
theorem alloc_at (w : World) (o : Obj) : (w.alloc o).heap[w.heap.size]? = some o := by
  show (w.heap.push o)[w.heap.size]? = _
  simp
theorem N_some {w : World} {base : Nat} {ok : Nat → Prop} {v : Value} {xs : List S28} (h : Kd.N k28 28 w base ok v xs) : ∃ A n c, v = .slice A n c := by
  obtain ⟨A, c, h⟩ := Kd.N_slice h
  exact ⟨A, _, c, h⟩
theorem rlink_at (base : ByteArray) (k nx la : Int) (j : Nat) (hj : j < 4) (hk : 1 ≤ k) (hk2 : k ≤ 999999999999) (hn : 0 ≤ nx ∧ nx ≤ 999999999999) (hl : 1 ≤ la ∧ la ≤ 999999999999) :
    ∃ (rel : ByteArray) (x : Int), (#[.string ⟨#[102, 105, 114, 115, 116]⟩, .string ⟨#[112, 114, 101, 118, 105, 111, 117, 115]⟩, .string ⟨#[110, 101, 120, 116]⟩, .string ⟨#[108, 97, 115, 116]⟩] : Array Value)[j]? = some (.string rel) ∧
      (#[.int .i64 1, .int .i64 (k - 1), .int .i64 nx, .int .i64 la] : Array Value)[j]? = some (.int .i64 x) ∧ linksUp base k nx la (j + 1) = linksUp base k nx la j ++ linkAt base rel x ∧ 0 ≤ x ∧ x ≤ 999999999999 := by
  have h : j = 0 ∨ j = 1 ∨ j = 2 ∨ j = 3 := by omega
  rcases h with rfl | rfl | rfl | rfl
  · exact ⟨_, 1, rfl, rfl, by simp [linksUp], by omega, by omega⟩
  · exact ⟨_, k - 1, rfl, rfl, by simp [linksUp], by omega, by omega⟩
  · exact ⟨_, nx, rfl, rfl, by simp [linksUp], by omega, by omega⟩
  · exact ⟨_, la, rfl, rfl, by simp [linksUp], by omega, by omega⟩
theorem max_ite (a b : Int) : max a b = if a < b then b else a := by split <;> omega
/-- When the latest one was edited. -/
def latN (l : List S40) : Int := l.foldl (fun a m => max a m.f1) 0
theorem latN_snoc (l : List S40) (m : S40) : latN (l ++ [m]) = max (latN l) m.f1 := by simp [latN, List.foldl_append]
theorem C_get40 {w : World} {A : Option Addr} {n : Nat} {ps : List S40} (h : Kd.C k40 w A n ps) (i : Nat) (h1 : i < n) :
    ∃ ad, A = some ad ∧ w.cell? ⟨(ad.add (i * 9)).block, (ad.add (i * 9)).off + 1, none⟩ = some (.int .i64 (rd_T40 ps i).f1) := by
  obtain ⟨ad, A6, c6, A7, c7, e, x0, x1, _⟩ := at_T40 h (i : Int) (by omega) (by omega)
  exact ⟨ad, e, x1⟩
theorem far_ne {W : World} {a b : Nat} {o1 o2 : Array Value} {t1 t2 : Nat} (h1 : W.heap[a]? = some (.cells o1 t1 (0, 0))) (h2 : W.heap[b]? = some (.cells o2 t2 (0, 0))) (ht : t1 ≠ t2) : a ≠ b := by
  rintro rfl
  rw [h1] at h2
  injection h2 with h2
  injection h2 with _ h3 _
  exact ht h3
theorem cell_keep {W W1 : World} (hb : Below W.heap.size W W1) {a : Addr} {v : Value} (h : W.cell? a = some v) : W1.cell? a = some v := (hb.cell (World.block_lt_of_cell? _ _ h)).trans h
theorem cell_grown {W W1 : World} {row : Option Nat} (hg : W.grownBy W1 row) {a : Addr} {v : Value} (h : W.cell? a = some v) (hne : some a.block ≠ row) : W1.cell? a = some v := by
  have h1 := hg.block a.block (World.block_lt_of_cell? _ _ h) hne
  exact (World.cell?_of_block h1).trans h
theorem member_lt {w4 : World} {ok : Nat → Prop} {ad : Addr} {n : Nat} {ps : List S40} (h : Kd.F k40 w4 ok (some ad) n ps) (q : Nat) (h1 : q < n) : (ad.add (q * 9)).block < w4.heap.size := by
  obtain ⟨ad', c, e, hcl, hK, hcc, _⟩ := Kd.F_get h z40 (q : Int) (by omega) (by omega)
  injection e with e
  subst e
  obtain ⟨A6, c6, A7, c7, rfl, _⟩ := k40_openF hK
  exact World.block_lt_of_cell? _ _ (hcc 0 _ rfl)
theorem made_ok {base r : Nat} {okl : Nat → Prop} {sp nm : ByteArray} {W : World} {v : Value} {xs : List S28} (h : NSt base base (okM okl r) sp nm W v xs) (hr : r < base) {k_ : Nat} (hk : W.heap.size ≤ k_) : (k_ ≠ base ∧ okM okl r k_) ∧ some k_ ≠ v.ownBlock :=
  ⟨⟨by have := h.lt; omega, okM_gt (by have := h.lt; omega)⟩, fun e => by have := Kd.N_lt h.kids _ e.symm; omega⟩
theorem made_ok2 {base r : Nat} {okl : Nat → Prop} {sp nm : ByteArray} {W : World} {v : Value} {xs : List S28} (h : NSt base base (okM okl r) sp nm W v xs) (hr : r < base) {k_ : Nat} (hk : W.heap.size ≤ k_) : k_ ≠ base ∧ okM okl r k_ :=
  ⟨by have := h.lt; omega, okM_gt (by have := h.lt; omega)⟩
attribute [local go_sem] max2_int min2_int max_two min_two
set_option maxHeartbeats 4000000 in
theorem rfeedO (base title : ByteArray) (A : Option Addr) (cc : Nat) (l : List S40) (s k : Int) (w : World) (okl : Nat → Prop) (hC : Kd.F k40 w okl A l.length l) (hcc : l.length ≤ cc) (hl : l.length ≤ 1000000) (hF : Fit l.length s) (h1 : 1 ≤ k) (h2 : k ≤ lastP l.length s)
    (hk2' : k ≤ 999999999999) (hb : base.size ≤ 140737488351232) (ht : title.size ≤ 140737488351232) (hb0 : (base.toList == ([] : List UInt8)) = false) (ht0 : (title.toList == ([] : List UInt8)) = false) (hR : inR (latN l) 0) :
    Calls Tryd.prog 9 #[.string base, .string title, .slice A l.length cc, .int .i64 s, .int .i64 k] w fun e w' => ∃ (A4 : Option Addr) (c4 : Nat), e = .returned (.tuple #[.agg #[.int .i64 0, .string atomB, .string ⟨#[102, 101, 101, 100]⟩, .slice none 0 0, .slice A4 (feedK base title l s k (latN l)).length c4, .string ⟨#[]⟩], .int .i64 0]) ∧ Kd.V k28 28 w' w.heap.size (fun k_ => okl k_ ∨ w.heap.size ≤ k_) (.slice A4 (feedK base title l s k (latN l)).length c4) (feedK base title l s k (latN l)) ∧ Below w.heap.size w w' := by
  have HC := Lib.hid hC
  have HF := Lib.hid hF
  clear hC hF
  obtain ⟨nn, hnn⟩ : ∃ nn, nn = l.length := ⟨_, rfl⟩
  have HNN := Lib.hid hnn
  have i28 : (Tryd.prog.info? 28).map (fun i => (i.zero, i.size, i.bytes)) = some (some (.agg #[(.int .i64 0), (.string ⟨#[]⟩), (.string ⟨#[]⟩), (.slice none 0 0), (.slice none 0 0), (.string ⟨#[]⟩)]), 6, 104) := by kernel_rfl
  have I28 := Lib.hid i28
  clear i28
  obtain ⟨la, hla0⟩ : ∃ la, la = lastP l.length s := ⟨_, rfl⟩
  obtain ⟨nx, hnx0⟩ : ∃ nx, nx = nextP l.length s k := ⟨_, rfl⟩
  have hnx : 0 ≤ nx ∧ nx ≤ 999999999999 := by rw [hnx0]; exact nextP_bd HF.out hl h1 h2
  have hla : 1 ≤ la ∧ la ≤ 999999999999 := by rw [hla0]; exact lastP_le HF.out hl
  have HP : Hid (∀ W, Below w.heap.size w W → Calls Tryd.prog 26 #[.slice A nn cc, .int .i64 s, .int .i64 k] W (PagedF W (fun k => okl k ∧ k < w.heap.size) l s k)) := fun W hW => by
    rw [hnn]
    exact rpageOF A cc l s k W _ (Kd.F_below (Kd.F_bound HC.out) hW) (by omega) HF.out h1 h2
  have HK : Hid (∀ W, Calls Tryd.prog 27 #[.int .i64 (nn : Int), .int .i64 s, .int .i64 k] W fun e w' => e = .returned (.tuple #[four 1 (k - 1) nx la, .int .i64 0]) ∧ Below W.heap.size W w') := fun W => by
    rw [hnn, hnx0, hla0]
    by_cases h : k = lastP l.length s
    · exact rlinksO_2 k _ HF.out h1 h
    · exact rlinksO_1 k _ HF.out h1 (by omega)
  rw [← hla0] at h2
  rw [← hnn] at hcc hl ⊢
  have HNX := Lib.hid hnx0
  have HLA := Lib.hid hla0
  clear hnx0 hla0 hnn
  go_enter Tryd.func9, Tryd.ntmps9
  go_wp2_with fail
  have C1 := HP.out (w.alloc (.cells #[.int .i64 0, .string ⟨#[]⟩, .string ⟨#[]⟩, .slice none 0 0, .slice none 0 0, .string ⟨#[]⟩] 28)) ((Below.refl _ _).alloc (Nat.le_refl _) _)
  refine C1.mono ?_
  clear C1
  rintro e w2 ⟨Ap, cp, rfl, hcp, hCp, hb2⟩
  have HB2 : Hid (Below w.heap.size w w2) := ((Below.refl _ _).alloc (Nat.le_refl _) _).trans (hb2.mono (by simp))
  have BK := (new_blk _ _ _ hb2)
  have hCp9 : Kd.F k40 w2 (okM okl w.heap.size) Ap (pageOf l s k).length (pageOf l s k) := Kd.F_mono hCp (fun k_ hk => hk.elim Or.inl (fun h => Or.inr (by simp at h; omega)))
  have HCp := Lib.hid hCp9
  clear hb2 hCp hCp9
  obtain ⟨ps, hps⟩ : ∃ ps, ps = pageOf l s k := ⟨_, rfl⟩
  rw [← hps] at hcp HCp ⊢
  have HPS := Lib.hid hps
  have hm99 : ps.length ≤ 999999999999 := by rw [hps]; unfold pageOf; rw [List.length_drop, List.length_take]; have := HNN.out; omega
  clear hps
  obtain ⟨m, hm⟩ : ∃ m, m = ps.length := ⟨_, rfl⟩
  have HM := Lib.hid hm
  rw [← hm] at hcp hm99 ⊢
  clear hm
  go_wp2_with fail
  refine (HK.out w2).mono ?_
  unfold four
  rintro e w3 ⟨rfl, hb3⟩
  have HB3 : Hid (Below w.heap.size w w3) := HB2.out.trans (hb3.mono HB2.out.size)
  have HCp3 := Lib.hid (Kd.F_below HCp.out hb3)
  have BK3 := Lib.hid ((hb3.block _ BK.2).trans BK.1)
  clear hb3 BK HB2 HCp
  go_wp2_with fail
  have hx35 : (w3.alloc (.cells #[.int .i64 1, .int .i64 (k - 1), .int .i64 nx, .int .i64 la] 55)).heap[w3.heap.size]? = some (.cells #[.int .i64 1, .int .i64 (k - 1), .int .i64 nx, .int .i64 la] 55 (0, 0)) := by
    show (w3.heap.push _)[w3.heap.size]? = _
    simp
  have HX3 := Lib.hid hx35
  have HCx : Hid (Kd.C k40 (w3.alloc (.cells #[.int .i64 1, .int .i64 (k - 1), .int .i64 nx, .int .i64 la] 55)) A l.length l) := Kd.C_below (Kd.F_now HC.out) (HB3.out.alloc HB3.out.size _)
  have HB3x : Hid (Below w3.heap.size w3 (w3.alloc (.cells #[.int .i64 1, .int .i64 (k - 1), .int .i64 nx, .int .i64 la] 55))) := (Below.refl _ _).alloc (Nat.le_refl _) _
  clear hx35
  generalize w3.alloc (.cells #[.int .i64 1, .int .i64 (k - 1), .int .i64 nx, .int .i64 la] 55) = wx at HX3 HCx HB3x ⊢
  go_loop [16, 17] (fun s16 s17 => ∃ i : Nat, s17 = .int .i64 (i : Int) ∧ s16 = .int .i64 (latN (l.take i)) ∧ i ≤ nn) (fun _ s17 => nn - (intOf s17).toNat)
  case atStart => exact ⟨0, rfl, rfl, Nat.zero_le _⟩
  case round =>
    obtain ⟨i, rfl, rfl, hi⟩ := hrel
    by_cases hlt : i < nn
    · obtain ⟨ad, rfl, hc1⟩ := C_get40 HCx.out i (by rw [← HNN.out]; exact hlt)
      have hsn : latN (l.take (i + 1)) = max (latN (l.take i)) (rd_T40 l i).f1 := by
        have h9 : i < l.length := by rw [← HNN.out]; exact hlt
        rw [List.take_succ_eq_append_getElem h9, latN_snoc]
        unfold rd_T40
        simp [List.getD, List.getElem?_eq_getElem h9]
      have HSN := Lib.hid hsn
      have hi0 : (0 : Int) ≤ (i : Int) := by omega
      have hi1 : (i : Int) < (nn : Int) := by omega
      clear hsn
      go_wp2_with fail
      go_round
      case rel => exact ⟨i + 1, by go_num, by rw [HSN.out, max_ite], by omega⟩
      case measure => simp [intOf]; omega
    · obtain rfl : i = nn := by omega
      have hall : latN (l.take i) = latN l := by rw [List.take_of_length_le (by rw [HNN.out]; exact Nat.le_refl _)]
      rw [hall]
      clear hall
      obtain ⟨tx, htx⟩ : ∃ tx, tx = printT (latN l) 0 := ⟨_, rfl⟩
      have HTX := Lib.hid htx
      clear htx
      have C28 : Hid (∀ W, Calls Tryd.prog 28 #[.agg #[.int .i64 (latN l), .int .i64 0]] W fun e w' => e = .returned (.tuple #[.string tx, .int .i64 0]) ∧ Below W.heap.size W w') := fun W => by
        rw [HTX.out]
        exact broadsheetref11_Print.calls 5000 _ 0 _ 0 W (rprint_ok 5000 (Nat.le_refl _) _ 0 hR)
      have hts : ¬ 9223372036854775807 < 9 + title.size := by omega
      have hk0 : 0 ≤ k := by omega
      go_wp2_with fail
      refine (C28.out _).mono ?_
      rintro e w4 ⟨rfl, hb4⟩
      have HBx4 := Lib.hid (HB3x.out.trans (hb4.mono HB3x.out.size))
      have HB4 : Hid (Below w.heap.size w w4) := HB3.out.trans (HBx4.out.mono HB3.out.size)
      have HCp4 := Lib.hid (Kd.F_below HCp3.out HBx4.out)
      have BK4 := Lib.hid ((HBx4.out.block _ (blk_lt BK3.out)).trans BK3.out)
      have HX4 := Lib.hid ((hb4.block _ (blk_lt HX3.out)).trans HX3.out)
      have hb0lt : w.heap.size < w4.heap.size := blk_lt BK4.out
      have hxlt : w3.heap.size < w4.heap.size := blk_lt HX4.out
      clear hb4 HB3 HCp3 BK3 HBx4 HX3 HCx HB3x C28
      obtain ⟨x16, hx16⟩ : ∃ x, x = elN atomB ⟨#[105, 100]⟩ (⟨#[117, 114, 110, 58, 102, 101, 101, 100, 58]⟩ ++ title) := ⟨_, rfl⟩
      obtain ⟨x17, hx17⟩ : ∃ x, x = elN atomB ⟨#[116, 105, 116, 108, 101]⟩ title := ⟨_, rfl⟩
      obtain ⟨x18, hx18⟩ : ∃ x, x = elN atomB ⟨#[117, 112, 100, 97, 116, 101, 100]⟩ tx := ⟨_, rfl⟩
      obtain ⟨x19, hx19⟩ : ∃ x, x = linkN ⟨#[115, 101, 108, 102]⟩ (pageB base k) := ⟨_, rfl⟩
      have C16 : Hid (∀ W, MadeC 29 #[.string atomB, .string ⟨#[105, 100]⟩, .string (⟨#[117, 114, 110, 58, 102, 101, 101, 100, 58]⟩ ++ title)] x16 W) := fun W => by rw [hx16]; exact relC _ _ _ W
      have C17 : Hid (∀ W, MadeC 29 #[.string atomB, .string ⟨#[116, 105, 116, 108, 101]⟩, .string title] x17 W) := fun W => by rw [hx17]; exact relC _ _ _ W
      have C18 : Hid (∀ W, MadeC 29 #[.string atomB, .string ⟨#[117, 112, 100, 97, 116, 101, 100]⟩, .string tx] x18 W) := fun W => by rw [hx18]; exact relC _ _ _ W
      have C19 : Hid (∀ W, MadeC 30 #[.string ⟨#[115, 101, 108, 102]⟩, .string (pageB base k)] x19 W) := fun W => by rw [hx19]; exact rlinkC _ _ W
      have HXX : Hid ([x16, x17, x18, x19] = [elN atomB ⟨#[105, 100]⟩ (⟨#[117, 114, 110, 58, 102, 101, 101, 100, 58]⟩ ++ title), elN atomB ⟨#[116, 105, 116, 108, 101]⟩ title, elN atomB ⟨#[117, 112, 100, 97, 116, 101, 100]⟩ tx, linkN ⟨#[115, 101, 108, 102]⟩ (pageB base k)]) := by show _ = _; rw [hx16, hx17, hx18, hx19]
      clear hx16 hx17 hx18 hx19
      go_wp2_with fail
      have hns : NSt w4.heap.size w4.heap.size (okM okl w.heap.size) atomB ⟨#[102, 101, 101, 100]⟩ (w4.alloc (.cells #[.int .i64 0, .string atomB, .string ⟨#[102, 101, 101, 100]⟩, .slice none 0 0, .slice none 0 0, .string ⟨#[]⟩] 28)) (.slice none 0 0) [] := by
        refine ⟨?_, Kd.N_nil _ _ _ _ _, Nat.le_refl _⟩
        show (w4.heap.push _)[w4.heap.size]? = _
        simp
      have HN := Lib.hid hns
      have HB : Hid (Below w4.heap.size w4 (w4.alloc (.cells #[.int .i64 0, .string atomB, .string ⟨#[102, 101, 101, 100]⟩, .slice none 0 0, .slice none 0 0, .string ⟨#[]⟩] 28))) := (Below.refl _ _).alloc (Nat.le_refl _) _
      have HX := Lib.hid ((HB.out.block _ hxlt).trans HX4.out)
      clear hns HX4

      refine start_ (n := 9) (S := fun w' => w'.cell? ⟨w4.heap.size, 4, none⟩ = some (.slice none 0 0)) (ds := [8]) #[false, false, false, false, false, false, false, false, false] (by kernel_rfl) rfl rfl (Lnk.blk_cell (HN.out.below (pw_below_drewN (Below.refl _ _) 1)).blk 4 (.slice none 0 0) rfl).1 (fun hHeld => ?_)
      refine pure_ (i := 0) (N := some 73) (v := ?_) (a' := ?_) #[true, false, false, false, false, false, false, false, false] rfl rfl (by kernel_rfl) (fun _ _ _ h => h) (Or.inl ⟨by rfl, ?_⟩) ?_ ?_
      rotate_left
      · intro w'
        go_simp
        with_reducible rfl
      rotate_left
      · simp only [Act.put, List.setIfInBounds_toArray, List.set_cons_zero, List.set_cons_succ, i64_w, i32_w]
        rfl
      refine pure_ (i := 2) (N := some 75) (v := ?_) (a' := ?_) #[true, false, true, false, false, false, false, false, false] rfl rfl (by kernel_rfl) (fun _ _ _ h => h) (Or.inl ⟨by rfl, ?_⟩) ?_ ?_
      rotate_left
      · intro w'
        go_simp
        with_reducible rfl
      rotate_left
      · simp only [Act.put, List.setIfInBounds_toArray, List.set_cons_zero, List.set_cons_succ, i64_w, i32_w]
        rfl
      refine pure_ (i := 3) (N := some 76) (v := ?_) (a' := ?_) #[true, false, true, true, false, false, false, false, false] rfl rfl (by kernel_rfl) (fun _ _ _ h => h) (Or.inl ⟨by rfl, ?_⟩) ?_ ?_
      rotate_left
      · intro w'
        go_simp
        with_reducible rfl
      rotate_left
      · simp only [Act.put, List.setIfInBounds_toArray, List.set_cons_zero, List.set_cons_succ, i64_w, i32_w]
        rfl
      refine take_ (i := 1) (N := some 74) (v := ?_) (a' := ?_) #[true, true, true, true, false, false, false, false, false] rfl rfl (by kernel_rfl) (fun _ _ _ h => h) (Or.inl ⟨by rfl, ?_⟩) hHeld ?_ ?_
      rotate_left
      · rintro w' s0
        go_simp
        with_reducible rfl
      rotate_left
      · simp only [Act.put, List.setIfInBounds_toArray, List.set_cons_zero, List.set_cons_succ, i64_w, i32_w]
        rfl
      refine one_ (i := 4) (N := some 77) #[true, true, true, true, true, false, false, false, false] rfl rfl (by kernel_rfl) (by decide) (fun K hK => ?_)
      refine goes_ Tryd.func29 (by kernel_rfl) rfl #[.string atomB, .string ⟨#[105, 100]⟩, .string (⟨#[117, 114, 110, 58, 102, 101, 101, 100, 58]⟩ ++ title)] (by rfl) rfl rfl (by (try simp only [List.map_toArray, List.map_cons, List.map_nil]); first | done | rfl) ?_
      refine (C16.out _).mono ?_
      rintro e wa ⟨va, rfl, ⟨m3a, m4a, rfl, hfa⟩, hba⟩
      refine ⟨_, rfl, ?_⟩
      have HNa := Lib.hid ((HN.out.below (pw_below_drewN (Below.refl _ _) 1)).below hba)
      have HBa := Lib.hid (((HB.out).trans (pw_below_drewN (Below.refl _ _) 1)).trans (hba.mono ((HB.out).trans (pw_below_drewN (Below.refl _ _) 1)).size))
      have HXa := Lib.hid ((hba.block _ (blk_lt (((pw_below_drewN (Below.refl _ _) 1).block _ (blk_lt (HX.out))).trans (HX.out)))).trans (((pw_below_drewN (Below.refl _ _) 1).block _ (blk_lt (HX.out))).trans (HX.out)))
      have HFa := Lib.hid hfa
      clear hfa
      clear hba
      refine hK.out _ _ (Lnk.blk_cell (HNa.out).blk 4 (.slice none 0 0) rfl).1 (fun hHeld => ?_)
      clear hK K
      refine norm_ (a' := ?_) ?_ ?_
      rotate_left
      · show Act.put _ (some 77) _ = _
        simp only [Act.put, List.setIfInBounds_toArray, List.set_cons_zero, List.set_cons_succ, i64_w, i32_w]
        rfl
      refine one_ (i := 5) (N := some 78) #[true, true, true, true, true, true, false, false, false] rfl rfl (by kernel_rfl) (by decide) (fun K hK => ?_)
      refine value_ (w1 := ?_) (v := ?_) (by rfl) rfl ?_ ?_
      rotate_left 2
      · go_simp
        constructor
        · rfl
        · rfl
      refine hK.out _ _ (Lnk.blk_cell (HNa.out.below ((Below.refl wa.heap.size wa).alloc (Nat.le_refl _) _)).blk 4 (.slice none 0 0) rfl).1 (fun hHeld => ?_)
      clear hK K
      refine norm_ (a' := ?_) ?_ ?_
      rotate_left
      · show Act.put _ (some 78) _ = _
        simp only [Act.put, List.setIfInBounds_toArray, List.set_cons_zero, List.set_cons_succ, i64_w, i32_w]
        rfl
      refine one_ (i := 6) (N := some 79) #[true, true, true, true, true, true, true, false, false] rfl rfl (by kernel_rfl) (by decide) (fun K hK => ?_)
      refine Kd.N_append_step k28 (W := wa) (w0 := w4) w4.heap.size (by rfl) _ _ 26 28 _ 104 rfl Tryd.underlying26 I28.out (by rfl) (by decide) (by decide) (.slice none 0 0) _ x16 _ (fun k => k ≠ w4.heap.size ∧ okM okl w.heap.size k) _ rfl rfl HFa.out (fun k_ hk => made_ok (HN.out.below (pw_below_drewN (Below.refl _ _) 1)) hb0lt hk) (fun k_ hk => made_ok2 (HNa.out) hb0lt hk) HNa.out.kids HBa.out HBa.out.size (by simp) ?_
      intro v1 wAp hnA hbA hgA hatA
      obtain ⟨AA, nA, cA, rfl⟩ := N_some hnA
      have hneXA := Kd.N_ne HNa.out.kids HXa.out (by decide)
      have hXpA := (hgA.block _ (blk_lt HXa.out) hneXA).trans HXa.out
      have hBA := (hgA.block _ HNa.out.lt (fun e => (HNa.out.kids.1 _ e.symm).1 rfl)).trans HNa.out.blk
      have HNA := Lib.hid (HNa.out.put hnA hgA)
      have HBA := Lib.hid (hbA.setCell (p := ⟨w4.heap.size, 4, none⟩) (Nat.le_refl _) (.slice AA nA cA))
      have HXA := Lib.hid (blk_far hXpA (p := ⟨w4.heap.size, 4, none⟩) (u := .slice AA nA cA) (fun e => far_ne HNa.out.blk HXa.out (by decide) e))
      refine hK.out _ _ (Lnk.blk_cell hBA 4 (.slice none 0 0) rfl).1 (fun hHeld => ?_)
      clear hK K
      refine norm_ (a' := ?_) ?_ ?_
      rotate_left
      · show Act.put _ (some 79) _ = _
        simp only [Act.put, List.setIfInBounds_toArray, List.set_cons_zero, List.set_cons_succ, i64_w, i32_w]
        rfl
      refine pure_ (i := 7) (N := some 80) (v := ?_) (a' := ?_) #[true, true, true, true, true, true, true, true, false] rfl rfl (by kernel_rfl) (fun _ _ _ h => h) (Or.inl ⟨by rfl, ?_⟩) ?_ ?_
      rotate_left
      · intro w'
        go_simp
        with_reducible rfl
      rotate_left
      · simp only [Act.put, List.setIfInBounds_toArray, List.set_cons_zero, List.set_cons_succ, i64_w, i32_w]
        rfl
      have hc4A := (Lnk.blk_cell hBA 4 (.slice none 0 0) rfl).1
      have hf4A := (Lnk.blk_cell hBA 4 (.slice none 0 0) rfl).2
      refine last_ (i := 8) (N := none) #[true, true, true, true, true, true, true, true, true] rfl rfl (by kernel_rfl) (by decide) (fun K hK => ?_)
      refine skip_ (w1 := ?_) (by rfl) rfl ?_ ?_
      rotate_left
      · go_simp
        rfl
      refine hK.out _ _ ?_
      clear hK K
      refine done_ (by kernel_rfl) ?_
      clear HN HB HX HNa HBa HFa HXa hBA hnA hbA hgA hatA hXpA hneXA hc4A hf4A C16
      go_wp2_with fail
      refine start_ (n := 8) (S := fun w' => w'.cell? ⟨w4.heap.size, 4, none⟩ = some (.slice AA nA cA)) (ds := [7]) #[false, false, false, false, false, false, false, false] (by kernel_rfl) rfl rfl (Lnk.blk_cell (HNA.out.below (pw_below_drewN (Below.refl _ _) 1)).blk 4 (.slice AA nA cA) rfl).1 (fun hHeld => ?_)
      refine pure_ (i := 0) (N := some 81) (v := ?_) (a' := ?_) #[true, false, false, false, false, false, false, false] rfl rfl (by kernel_rfl) (fun _ _ _ h => h) (Or.inl ⟨by rfl, ?_⟩) ?_ ?_
      rotate_left
      · intro w'
        go_simp
        with_reducible rfl
      rotate_left
      · simp only [Act.put, List.setIfInBounds_toArray, List.set_cons_zero, List.set_cons_succ, i64_w, i32_w]
        rfl
      refine pure_ (i := 2) (N := some 83) (v := ?_) (a' := ?_) #[true, false, true, false, false, false, false, false] rfl rfl (by kernel_rfl) (fun _ _ _ h => h) (Or.inl ⟨by rfl, ?_⟩) ?_ ?_
      rotate_left
      · intro w'
        go_simp
        with_reducible rfl
      rotate_left
      · simp only [Act.put, List.setIfInBounds_toArray, List.set_cons_zero, List.set_cons_succ, i64_w, i32_w]
        rfl
      refine take_ (i := 1) (N := some 82) (v := ?_) (a' := ?_) #[true, true, true, false, false, false, false, false] rfl rfl (by kernel_rfl) (fun _ _ _ h => h) (Or.inl ⟨by rfl, ?_⟩) hHeld ?_ ?_
      rotate_left
      · rintro w' s0
        go_simp
        with_reducible rfl
      rotate_left
      · simp only [Act.put, List.setIfInBounds_toArray, List.set_cons_zero, List.set_cons_succ, i64_w, i32_w]
        rfl
      refine one_ (i := 3) (N := some 84) #[true, true, true, true, false, false, false, false] rfl rfl (by kernel_rfl) (by decide) (fun K hK => ?_)
      refine goes_ Tryd.func29 (by kernel_rfl) rfl #[.string atomB, .string ⟨#[116, 105, 116, 108, 101]⟩, .string title] (by rfl) rfl rfl (by (try simp only [List.map_toArray, List.map_cons, List.map_nil]); first | done | rfl) ?_
      refine (C17.out _).mono ?_
      rintro e wb ⟨vb, rfl, ⟨m3b, m4b, rfl, hfb⟩, hbb⟩
      refine ⟨_, rfl, ?_⟩
      have HNb := Lib.hid ((HNA.out.below (pw_below_drewN (Below.refl _ _) 1)).below hbb)
      have HBb := Lib.hid (((HBA.out).trans (pw_below_drewN (Below.refl _ _) 1)).trans (hbb.mono ((HBA.out).trans (pw_below_drewN (Below.refl _ _) 1)).size))
      have HXb := Lib.hid ((hbb.block _ (blk_lt (((pw_below_drewN (Below.refl _ _) 1).block _ (blk_lt (HXA.out))).trans (HXA.out)))).trans (((pw_below_drewN (Below.refl _ _) 1).block _ (blk_lt (HXA.out))).trans (HXA.out)))
      have HFb := Lib.hid hfb
      clear hfb
      clear hbb
      refine hK.out _ _ (Lnk.blk_cell (HNb.out).blk 4 (.slice AA nA cA) rfl).1 (fun hHeld => ?_)
      clear hK K
      refine norm_ (a' := ?_) ?_ ?_
      rotate_left
      · show Act.put _ (some 84) _ = _
        simp only [Act.put, List.setIfInBounds_toArray, List.set_cons_zero, List.set_cons_succ, i64_w, i32_w]
        rfl
      refine one_ (i := 4) (N := some 85) #[true, true, true, true, true, false, false, false] rfl rfl (by kernel_rfl) (by decide) (fun K hK => ?_)
      refine value_ (w1 := ?_) (v := ?_) (by rfl) rfl ?_ ?_
      rotate_left 2
      · go_simp
        constructor
        · rfl
        · rfl
      refine hK.out _ _ (Lnk.blk_cell (HNb.out.below ((Below.refl wb.heap.size wb).alloc (Nat.le_refl _) _)).blk 4 (.slice AA nA cA) rfl).1 (fun hHeld => ?_)
      clear hK K
      refine norm_ (a' := ?_) ?_ ?_
      rotate_left
      · show Act.put _ (some 85) _ = _
        simp only [Act.put, List.setIfInBounds_toArray, List.set_cons_zero, List.set_cons_succ, i64_w, i32_w]
        rfl
      refine one_ (i := 5) (N := some 86) #[true, true, true, true, true, true, false, false] rfl rfl (by kernel_rfl) (by decide) (fun K hK => ?_)
      refine Kd.N_append_step k28 (W := wb) (w0 := w4) w4.heap.size (by rfl) _ _ 26 28 _ 104 rfl Tryd.underlying26 I28.out (by rfl) (by decide) (by decide) (.slice AA nA cA) _ x17 _ (fun k => k ≠ w4.heap.size ∧ okM okl w.heap.size k) _ rfl rfl HFb.out (fun k_ hk => made_ok (HNA.out.below (pw_below_drewN (Below.refl _ _) 1)) hb0lt hk) (fun k_ hk => made_ok2 (HNb.out) hb0lt hk) HNb.out.kids HBb.out HBb.out.size (by simp) ?_
      intro v2 wBp hnB hbB hgB hatB
      obtain ⟨AB, nB, cB, rfl⟩ := N_some hnB
      have hneXB := Kd.N_ne HNb.out.kids HXb.out (by decide)
      have hXpB := (hgB.block _ (blk_lt HXb.out) hneXB).trans HXb.out
      have hBB := (hgB.block _ HNb.out.lt (fun e => (HNb.out.kids.1 _ e.symm).1 rfl)).trans HNb.out.blk
      have HNB := Lib.hid (HNb.out.put hnB hgB)
      have HBB := Lib.hid (hbB.setCell (p := ⟨w4.heap.size, 4, none⟩) (Nat.le_refl _) (.slice AB nB cB))
      have HXB := Lib.hid (blk_far hXpB (p := ⟨w4.heap.size, 4, none⟩) (u := .slice AB nB cB) (fun e => far_ne HNb.out.blk HXb.out (by decide) e))
      refine hK.out _ _ (Lnk.blk_cell hBB 4 (.slice AA nA cA) rfl).1 (fun hHeld => ?_)
      clear hK K
      refine norm_ (a' := ?_) ?_ ?_
      rotate_left
      · show Act.put _ (some 86) _ = _
        simp only [Act.put, List.setIfInBounds_toArray, List.set_cons_zero, List.set_cons_succ, i64_w, i32_w]
        rfl
      refine pure_ (i := 6) (N := some 87) (v := ?_) (a' := ?_) #[true, true, true, true, true, true, true, false] rfl rfl (by kernel_rfl) (fun _ _ _ h => h) (Or.inl ⟨by rfl, ?_⟩) ?_ ?_
      rotate_left
      · intro w'
        go_simp
        with_reducible rfl
      rotate_left
      · simp only [Act.put, List.setIfInBounds_toArray, List.set_cons_zero, List.set_cons_succ, i64_w, i32_w]
        rfl
      have hc4B := (Lnk.blk_cell hBB 4 (.slice AA nA cA) rfl).1
      have hf4B := (Lnk.blk_cell hBB 4 (.slice AA nA cA) rfl).2
      refine last_ (i := 7) (N := none) #[true, true, true, true, true, true, true, true] rfl rfl (by kernel_rfl) (by decide) (fun K hK => ?_)
      refine skip_ (w1 := ?_) (by rfl) rfl ?_ ?_
      rotate_left
      · go_simp
        rfl
      refine hK.out _ _ ?_
      clear hK K
      refine done_ (by kernel_rfl) ?_
      clear HNA HBA HXA HNb HBb HFb HXb hBB hnB hbB hgB hatB hXpB hneXB hc4B hf4B C17
      go_wp2_with fail
      refine start_ (n := 8) (S := fun w' => w'.cell? ⟨w4.heap.size, 4, none⟩ = some (.slice AB nB cB)) (ds := [7]) #[false, false, false, false, false, false, false, false] (by kernel_rfl) rfl rfl (Lnk.blk_cell (HNB.out.below (pw_below_drewN (Below.refl _ _) 1)).blk 4 (.slice AB nB cB) rfl).1 (fun hHeld => ?_)
      refine pure_ (i := 0) (N := some 88) (v := ?_) (a' := ?_) #[true, false, false, false, false, false, false, false] rfl rfl (by kernel_rfl) (fun _ _ _ h => h) (Or.inl ⟨by rfl, ?_⟩) ?_ ?_
      rotate_left
      · intro w'
        go_simp
        with_reducible rfl
      rotate_left
      · simp only [Act.put, List.setIfInBounds_toArray, List.set_cons_zero, List.set_cons_succ, i64_w, i32_w]
        rfl
      refine pure_ (i := 2) (N := some 90) (v := ?_) (a' := ?_) #[true, false, true, false, false, false, false, false] rfl rfl (by kernel_rfl) (fun _ _ _ h => h) (Or.inl ⟨by rfl, ?_⟩) ?_ ?_
      rotate_left
      · intro w'
        go_simp
        with_reducible rfl
      rotate_left
      · simp only [Act.put, List.setIfInBounds_toArray, List.set_cons_zero, List.set_cons_succ, i64_w, i32_w]
        rfl
      refine take_ (i := 1) (N := some 89) (v := ?_) (a' := ?_) #[true, true, true, false, false, false, false, false] rfl rfl (by kernel_rfl) (fun _ _ _ h => h) (Or.inl ⟨by rfl, ?_⟩) hHeld ?_ ?_
      rotate_left
      · rintro w' s0
        go_simp
        with_reducible rfl
      rotate_left
      · simp only [Act.put, List.setIfInBounds_toArray, List.set_cons_zero, List.set_cons_succ, i64_w, i32_w]
        rfl
      refine one_ (i := 3) (N := some 91) #[true, true, true, true, false, false, false, false] rfl rfl (by kernel_rfl) (by decide) (fun K hK => ?_)
      refine goes_ Tryd.func29 (by kernel_rfl) rfl #[.string atomB, .string ⟨#[117, 112, 100, 97, 116, 101, 100]⟩, .string tx] (by rfl) rfl rfl (by (try simp only [List.map_toArray, List.map_cons, List.map_nil]); first | done | rfl) ?_
      refine (C18.out _).mono ?_
      rintro e wc ⟨vc, rfl, ⟨m3c, m4c, rfl, hfc⟩, hbc⟩
      refine ⟨_, rfl, ?_⟩
      have HNc := Lib.hid ((HNB.out.below (pw_below_drewN (Below.refl _ _) 1)).below hbc)
      have HBc := Lib.hid (((HBB.out).trans (pw_below_drewN (Below.refl _ _) 1)).trans (hbc.mono ((HBB.out).trans (pw_below_drewN (Below.refl _ _) 1)).size))
      have HXc := Lib.hid ((hbc.block _ (blk_lt (((pw_below_drewN (Below.refl _ _) 1).block _ (blk_lt (HXB.out))).trans (HXB.out)))).trans (((pw_below_drewN (Below.refl _ _) 1).block _ (blk_lt (HXB.out))).trans (HXB.out)))
      have HFc := Lib.hid hfc
      clear hfc
      clear hbc
      refine hK.out _ _ (Lnk.blk_cell (HNc.out).blk 4 (.slice AB nB cB) rfl).1 (fun hHeld => ?_)
      clear hK K
      refine norm_ (a' := ?_) ?_ ?_
      rotate_left
      · show Act.put _ (some 91) _ = _
        simp only [Act.put, List.setIfInBounds_toArray, List.set_cons_zero, List.set_cons_succ, i64_w, i32_w]
        rfl
      refine one_ (i := 4) (N := some 92) #[true, true, true, true, true, false, false, false] rfl rfl (by kernel_rfl) (by decide) (fun K hK => ?_)
      refine value_ (w1 := ?_) (v := ?_) (by rfl) rfl ?_ ?_
      rotate_left 2
      · go_simp
        constructor
        · rfl
        · rfl
      refine hK.out _ _ (Lnk.blk_cell (HNc.out.below ((Below.refl wc.heap.size wc).alloc (Nat.le_refl _) _)).blk 4 (.slice AB nB cB) rfl).1 (fun hHeld => ?_)
      clear hK K
      refine norm_ (a' := ?_) ?_ ?_
      rotate_left
      · show Act.put _ (some 92) _ = _
        simp only [Act.put, List.setIfInBounds_toArray, List.set_cons_zero, List.set_cons_succ, i64_w, i32_w]
        rfl
      refine one_ (i := 5) (N := some 93) #[true, true, true, true, true, true, false, false] rfl rfl (by kernel_rfl) (by decide) (fun K hK => ?_)
      refine Kd.N_append_step k28 (W := wc) (w0 := w4) w4.heap.size (by rfl) _ _ 26 28 _ 104 rfl Tryd.underlying26 I28.out (by rfl) (by decide) (by decide) (.slice AB nB cB) _ x18 _ (fun k => k ≠ w4.heap.size ∧ okM okl w.heap.size k) _ rfl rfl HFc.out (fun k_ hk => made_ok (HNB.out.below (pw_below_drewN (Below.refl _ _) 1)) hb0lt hk) (fun k_ hk => made_ok2 (HNc.out) hb0lt hk) HNc.out.kids HBc.out HBc.out.size (by simp) ?_
      intro v3 wCp hnC hbC hgC hatC
      obtain ⟨AC, nC, cC, rfl⟩ := N_some hnC
      have hneXC := Kd.N_ne HNc.out.kids HXc.out (by decide)
      have hXpC := (hgC.block _ (blk_lt HXc.out) hneXC).trans HXc.out
      have hBC := (hgC.block _ HNc.out.lt (fun e => (HNc.out.kids.1 _ e.symm).1 rfl)).trans HNc.out.blk
      have HNC := Lib.hid (HNc.out.put hnC hgC)
      have HBC := Lib.hid (hbC.setCell (p := ⟨w4.heap.size, 4, none⟩) (Nat.le_refl _) (.slice AC nC cC))
      have HXC := Lib.hid (blk_far hXpC (p := ⟨w4.heap.size, 4, none⟩) (u := .slice AC nC cC) (fun e => far_ne HNc.out.blk HXc.out (by decide) e))
      refine hK.out _ _ (Lnk.blk_cell hBC 4 (.slice AB nB cB) rfl).1 (fun hHeld => ?_)
      clear hK K
      refine norm_ (a' := ?_) ?_ ?_
      rotate_left
      · show Act.put _ (some 93) _ = _
        simp only [Act.put, List.setIfInBounds_toArray, List.set_cons_zero, List.set_cons_succ, i64_w, i32_w]
        rfl
      refine pure_ (i := 6) (N := some 94) (v := ?_) (a' := ?_) #[true, true, true, true, true, true, true, false] rfl rfl (by kernel_rfl) (fun _ _ _ h => h) (Or.inl ⟨by rfl, ?_⟩) ?_ ?_
      rotate_left
      · intro w'
        go_simp
        with_reducible rfl
      rotate_left
      · simp only [Act.put, List.setIfInBounds_toArray, List.set_cons_zero, List.set_cons_succ, i64_w, i32_w]
        rfl
      have hc4C := (Lnk.blk_cell hBC 4 (.slice AB nB cB) rfl).1
      have hf4C := (Lnk.blk_cell hBC 4 (.slice AB nB cB) rfl).2
      refine last_ (i := 7) (N := none) #[true, true, true, true, true, true, true, true] rfl rfl (by kernel_rfl) (by decide) (fun K hK => ?_)
      refine skip_ (w1 := ?_) (by rfl) rfl ?_ ?_
      rotate_left
      · go_simp
        rfl
      refine hK.out _ _ ?_
      clear hK K
      refine done_ (by kernel_rfl) ?_
      clear HNB HBB HXB HNc HBc HFc HXc hBC hnC hbC hgC hatC hXpC hneXC hc4C hf4C C18
      go_wp2_with fail
      refine start_ (n := 10) (S := fun w' => w'.cell? ⟨w4.heap.size, 4, none⟩ = some (.slice AC nC cC)) (ds := [9]) #[false, false, false, false, false, false, false, false, false, false] (by kernel_rfl) rfl rfl (Lnk.blk_cell (HNC.out.below (pw_below_drewN (Below.refl _ _) 1)).blk 4 (.slice AC nC cC) rfl).1 (fun hHeld => ?_)
      refine pure_ (i := 0) (N := some 95) (v := ?_) (a' := ?_) #[true, false, false, false, false, false, false, false, false, false] rfl rfl (by kernel_rfl) (fun _ _ _ h => h) (Or.inl ⟨by rfl, ?_⟩) ?_ ?_
      rotate_left
      · intro w'
        go_simp
        with_reducible rfl
      rotate_left
      · simp only [Act.put, List.setIfInBounds_toArray, List.set_cons_zero, List.set_cons_succ, i64_w, i32_w]
        rfl
      refine pure_ (i := 2) (N := some 97) (v := ?_) (a' := ?_) #[true, false, true, false, false, false, false, false, false, false] rfl rfl (by kernel_rfl) (fun _ _ _ h => h) (Or.inl ⟨by rfl, ?_⟩) ?_ ?_
      rotate_left
      · intro w'
        go_simp
        with_reducible rfl
      rotate_left
      · simp only [Act.put, List.setIfInBounds_toArray, List.set_cons_zero, List.set_cons_succ, i64_w, i32_w]
        rfl
      refine pure_ (i := 3) (N := some 98) (v := ?_) (a' := ?_) #[true, false, true, true, false, false, false, false, false, false] rfl rfl (by kernel_rfl) (fun _ _ _ h => h) (Or.inl ⟨by rfl, ?_⟩) ?_ ?_
      rotate_left
      · intro w'
        go_simp
        with_reducible rfl
      rotate_left
      · simp only [Act.put, List.setIfInBounds_toArray, List.set_cons_zero, List.set_cons_succ, i64_w, i32_w]
        rfl
      refine take_ (i := 1) (N := some 96) (v := ?_) (a' := ?_) #[true, true, true, true, false, false, false, false, false, false] rfl rfl (by kernel_rfl) (fun _ _ _ h => h) (Or.inl ⟨by rfl, ?_⟩) hHeld ?_ ?_
      rotate_left
      · rintro w' s0
        go_simp
        with_reducible rfl
      rotate_left
      · simp only [Act.put, List.setIfInBounds_toArray, List.set_cons_zero, List.set_cons_succ, i64_w, i32_w]
        rfl
      refine one_ (i := 4) (N := some 99) #[true, true, true, true, true, false, false, false, false, false] rfl rfl (by kernel_rfl) (by decide) (fun K hK => ?_)
      refine goes_ Tryd.func31 (by kernel_rfl) rfl #[.string base, .int .i64 k] (by rfl) rfl rfl (by (try simp only [List.map_toArray, List.map_cons, List.map_nil]); first | done | rfl) ?_
      refine (rpageC base k _ (by omega) hk0 hk2').mono ?_
      rintro e wd ⟨rfl, hbd⟩
      refine ⟨_, rfl, ?_⟩
      have HNd := Lib.hid ((HNC.out.below (pw_below_drewN (Below.refl _ _) 1)).below hbd)
      have HBd := Lib.hid (((HBC.out).trans (pw_below_drewN (Below.refl _ _) 1)).trans (hbd.mono ((HBC.out).trans (pw_below_drewN (Below.refl _ _) 1)).size))
      have HXd := Lib.hid ((hbd.block _ (blk_lt (((pw_below_drewN (Below.refl _ _) 1).block _ (blk_lt (HXC.out))).trans (HXC.out)))).trans (((pw_below_drewN (Below.refl _ _) 1).block _ (blk_lt (HXC.out))).trans (HXC.out)))
      clear hbd
      refine hK.out _ _ (Lnk.blk_cell (HNd.out).blk 4 (.slice AC nC cC) rfl).1 (fun hHeld => ?_)
      clear hK K
      refine norm_ (a' := ?_) ?_ ?_
      rotate_left
      · show Act.put _ (some 99) _ = _
        simp only [Act.put, List.setIfInBounds_toArray, List.set_cons_zero, List.set_cons_succ, i64_w, i32_w]
        rfl
      refine one_ (i := 5) (N := some 100) #[true, true, true, true, true, true, false, false, false, false] rfl rfl (by kernel_rfl) (by decide) (fun K hK => ?_)
      refine goes_ Tryd.func30 (by kernel_rfl) rfl #[.string ⟨#[115, 101, 108, 102]⟩, .string (pageB base k)] (by rfl) rfl rfl (by (try simp only [List.map_toArray, List.map_cons, List.map_nil]); first | done | rfl) ?_
      refine (C19.out _).mono ?_
      rintro e we ⟨ve, rfl, ⟨m3e, m4e, rfl, hfe⟩, hbe⟩
      refine ⟨_, rfl, ?_⟩
      have HNe := Lib.hid ((HNd.out).below hbe)
      have HBe := Lib.hid ((HBd.out).trans (hbe.mono (HBd.out).size))
      have HXe := Lib.hid ((hbe.block _ (blk_lt (HXd.out))).trans (HXd.out))
      have HFe := Lib.hid hfe
      clear hfe
      clear hbe
      refine hK.out _ _ (Lnk.blk_cell (HNe.out).blk 4 (.slice AC nC cC) rfl).1 (fun hHeld => ?_)
      clear hK K
      refine norm_ (a' := ?_) ?_ ?_
      rotate_left
      · show Act.put _ (some 100) _ = _
        simp only [Act.put, List.setIfInBounds_toArray, List.set_cons_zero, List.set_cons_succ, i64_w, i32_w]
        rfl
      refine one_ (i := 6) (N := some 101) #[true, true, true, true, true, true, true, false, false, false] rfl rfl (by kernel_rfl) (by decide) (fun K hK => ?_)
      refine value_ (w1 := ?_) (v := ?_) (by rfl) rfl ?_ ?_
      rotate_left 2
      · go_simp
        constructor
        · rfl
        · rfl
      refine hK.out _ _ (Lnk.blk_cell (HNe.out.below ((Below.refl we.heap.size we).alloc (Nat.le_refl _) _)).blk 4 (.slice AC nC cC) rfl).1 (fun hHeld => ?_)
      clear hK K
      refine norm_ (a' := ?_) ?_ ?_
      rotate_left
      · show Act.put _ (some 101) _ = _
        simp only [Act.put, List.setIfInBounds_toArray, List.set_cons_zero, List.set_cons_succ, i64_w, i32_w]
        rfl
      refine one_ (i := 7) (N := some 102) #[true, true, true, true, true, true, true, true, false, false] rfl rfl (by kernel_rfl) (by decide) (fun K hK => ?_)
      refine Kd.N_append_step k28 (W := we) (w0 := w4) w4.heap.size (by rfl) _ _ 26 28 _ 104 rfl Tryd.underlying26 I28.out (by rfl) (by decide) (by decide) (.slice AC nC cC) _ x19 _ (fun k => k ≠ w4.heap.size ∧ okM okl w.heap.size k) _ rfl rfl HFe.out (fun k_ hk => made_ok (HNd.out) hb0lt hk) (fun k_ hk => made_ok2 (HNe.out) hb0lt hk) HNe.out.kids HBe.out HBe.out.size (by simp) ?_
      intro v4 wDp hnD hbD hgD hatD
      obtain ⟨AD, nD, cD, rfl⟩ := N_some hnD
      have hneXD := Kd.N_ne HNe.out.kids HXe.out (by decide)
      have hXpD := (hgD.block _ (blk_lt HXe.out) hneXD).trans HXe.out
      have hBD := (hgD.block _ HNe.out.lt (fun e => (HNe.out.kids.1 _ e.symm).1 rfl)).trans HNe.out.blk
      have HND := Lib.hid (HNe.out.put hnD hgD)
      have HBD := Lib.hid (hbD.setCell (p := ⟨w4.heap.size, 4, none⟩) (Nat.le_refl _) (.slice AD nD cD))
      have HXD := Lib.hid (blk_far hXpD (p := ⟨w4.heap.size, 4, none⟩) (u := .slice AD nD cD) (fun e => far_ne HNe.out.blk HXe.out (by decide) e))
      refine hK.out _ _ (Lnk.blk_cell hBD 4 (.slice AC nC cC) rfl).1 (fun hHeld => ?_)
      clear hK K
      refine norm_ (a' := ?_) ?_ ?_
      rotate_left
      · show Act.put _ (some 102) _ = _
        simp only [Act.put, List.setIfInBounds_toArray, List.set_cons_zero, List.set_cons_succ, i64_w, i32_w]
        rfl
      refine pure_ (i := 8) (N := some 103) (v := ?_) (a' := ?_) #[true, true, true, true, true, true, true, true, true, false] rfl rfl (by kernel_rfl) (fun _ _ _ h => h) (Or.inl ⟨by rfl, ?_⟩) ?_ ?_
      rotate_left
      · intro w'
        go_simp
        with_reducible rfl
      rotate_left
      · simp only [Act.put, List.setIfInBounds_toArray, List.set_cons_zero, List.set_cons_succ, i64_w, i32_w]
        rfl
      have hc4D := (Lnk.blk_cell hBD 4 (.slice AC nC cC) rfl).1
      have hf4D := (Lnk.blk_cell hBD 4 (.slice AC nC cC) rfl).2
      refine last_ (i := 9) (N := none) #[true, true, true, true, true, true, true, true, true, true] rfl rfl (by kernel_rfl) (by decide) (fun K hK => ?_)
      refine skip_ (w1 := ?_) (by rfl) rfl ?_ ?_
      rotate_left
      · go_simp
        rfl
      refine hK.out _ _ ?_
      clear hK K
      refine done_ (by kernel_rfl) ?_
      clear HNC HBC HXC HNd HBd HXd HNe HBe HFe HXe hBD hnD hbD hgD hatD hXpD hneXD hc4D hf4D C19
      obtain ⟨ini, hini⟩ : ∃ ini, ini = [x16, x17, x18, x19] := ⟨_, rfl⟩
      have HND2 : Hid (NSt w4.heap.size w4.heap.size (okM okl w.heap.size) atomB ⟨#[102, 101, 101, 100]⟩ (wDp.setCell ⟨w4.heap.size, 4, none⟩ (.slice AD nD cD)) (.slice AD nD cD) ini) := by rw [hini]; exact HND.out
      have hinl : ini.length = 4 := by rw [hini]; rfl
      have HINL := Lib.hid hinl
      have HINI := Lib.hid hini
      have hdz : (wDp.setCell ⟨w4.heap.size, 4, none⟩ (.slice AD nD cD)).heap.size = wDp.heap.size := by simp [World.setCell]
      have HDZ := Lib.hid hdz
      clear hini hinl hdz HND
      go_wp2_with fail
      obtain ⟨wn0, hwn0⟩ : ∃ wn0, wn0 = wDp.heap.size := ⟨_, rfl⟩
      rw [← hwn0]
      have HWN := Lib.hid hwn0
      clear hwn0
      have AL : Hid (Below (wDp.setCell ⟨w4.heap.size, 4, none⟩ (.slice AD nD cD)).heap.size (wDp.setCell ⟨w4.heap.size, 4, none⟩ (.slice AD nD cD)) ((wDp.setCell ⟨w4.heap.size, 4, none⟩ (.slice AD nD cD)).alloc (.cells #[.string ⟨#[102, 105, 114, 115, 116]⟩, .string ⟨#[112, 114, 101, 118, 105, 111, 117, 115]⟩, .string ⟨#[110, 101, 120, 116]⟩, .string ⟨#[108, 97, 115, 116]⟩] 9))) := (Below.refl _ _).alloc (Nat.le_refl _) _
      go_loopg [21] 4 (fun kx s21 wr => ∃ j : Nat, s21 = .int .i64 (j : Int) ∧ j ≤ 4 ∧ 4 - j ≤ kx ∧ Hid (Below w4.heap.size w4 wr ∧ wr.heap[w3.heap.size]? = some (.cells #[.int .i64 1, .int .i64 (k - 1), .int .i64 nx, .int .i64 la] 55 (0, 0)) ∧ wr.heap[wn0]? = some (.cells #[.string ⟨#[102, 105, 114, 115, 116]⟩, .string ⟨#[112, 114, 101, 118, 105, 111, 117, 115]⟩, .string ⟨#[110, 101, 120, 116]⟩, .string ⟨#[108, 97, 115, 116]⟩] 9 (0, 0)) ∧ ∃ A n c, NSt w4.heap.size w4.heap.size (okM okl w.heap.size) atomB ⟨#[102, 101, 101, 100]⟩ wr (.slice A n c) (ini ++ linksUp base k nx la j)))
      case atStart =>
        have h0 : ini ++ linksUp base k nx la 0 = ini := by simp [linksUp]
        refine ⟨0, rfl, by omega, by decide, ⟨HBD.out.trans (AL.out.mono HBD.out.size), (AL.out.block _ (blk_lt HXD.out)).trans HXD.out, ?_, AD, nD, cD, ?_⟩⟩
        · rw [HWN.out, ← HDZ.out]
          exact alloc_at _ _
        · rw [h0]
          exact HND2.out.below AL.out
      case round =>
        obtain ⟨j, rfl, hj4, hkx, HW⟩ := hrel
        by_cases hlt : j < 4
        · obtain ⟨hw1, hw2, hw3, Av, nv, cv, hw4⟩ := HW.out
          obtain ⟨rel, x, hcy, hcx, hlk, hx0, hx1⟩ := rlink_at base k nx la j hlt h1 hk2' hnx hla
          have dx := (Lnk.blk_cell hw2 j _ hcx).1
          have dy := (Lnk.blk_cell hw3 j _ hcy).1
          have HN := Lib.hid hw4
          have HB := Lib.hid hw1
          have HX := Lib.hid hw2
          have HY := Lib.hid hw3
          have HL := Lib.hid hlk
          have HCX := Lib.hid hcx
          have HCY := Lib.hid hcy
          have hlen0 : (ini ++ linksUp base k nx la j).length ≤ 8 := by have := HINL.out; have := linksUp_len base k nx la j; rw [List.length_append]; omega
          clear hw1 hw2 hw3 hw4 hlk hcx hcy
          have hji : (j : Int) < 4 := by omega
          have hj0 : (0 : Int) ≤ (j : Int) := by omega
          by_cases hxp : 0 < x
          · obtain ⟨y, hy⟩ : ∃ y, y = linkN rel (pageB base x) := ⟨_, rfl⟩
            have C25 : Hid (∀ W, MadeC 30 #[.string rel, .string (pageB base x)] y W) := fun W => by rw [hy]; exact rlinkC _ _ W
            have HYq := Lib.hid hy
            clear hy
            go_wp2_with fail
            refine start_ (n := 16) (S := fun w' => w'.cell? ⟨w4.heap.size, 4, none⟩ = some (.slice Av nv cv) ∧ w'.cell? ⟨w3.heap.size, j, none⟩ = some (.int .i64 x) ∧ w'.cell? ⟨wn0, j, none⟩ = some (.string rel)) (ds := [15]) #[false, false, false, false, false, false, false, false, false, false, false, false, false, false, false, false] (by kernel_rfl) rfl rfl ⟨(Lnk.blk_cell (HN.out.below (pw_below_drewN (Below.refl _ _) 1)).blk 4 (.slice Av nv cv) rfl).1, (Lnk.blk_cell (blk_drew HX.out) j _ HCX.out).1, (Lnk.blk_cell (blk_drew HY.out) j _ HCY.out).1⟩ (fun hHeld => ?_)
            refine pure_ (i := 0) (N := some 113) (v := ?_) (a' := ?_) #[true, false, false, false, false, false, false, false, false, false, false, false, false, false, false, false] rfl rfl (by kernel_rfl) (fun _ _ _ h => h) (Or.inl ⟨by rfl, ?_⟩) ?_ ?_
            rotate_left
            · intro w'
              go_simp
              with_reducible rfl
            rotate_left
            · simp only [Act.put, List.setIfInBounds_toArray, List.set_cons_zero, List.set_cons_succ, i64_w, i32_w]
              rfl
            refine pure_ (i := 2) (N := some 115) (v := ?_) (a' := ?_) #[true, false, true, false, false, false, false, false, false, false, false, false, false, false, false, false] rfl rfl (by kernel_rfl) (fun _ _ _ h => h) (Or.inl ⟨by rfl, ?_⟩) ?_ ?_
            rotate_left
            · intro w'
              go_simp
              with_reducible rfl
            rotate_left
            · simp only [Act.put, List.setIfInBounds_toArray, List.set_cons_zero, List.set_cons_succ, i64_w, i32_w]
              rfl
            refine pure_ (i := 3) (N := some 116) (v := ?_) (a' := ?_) #[true, false, true, true, false, false, false, false, false, false, false, false, false, false, false, false] rfl rfl (by kernel_rfl) (fun _ _ _ h => h) (Or.inl ⟨by rfl, ?_⟩) ?_ ?_
            rotate_left
            · intro w'
              go_simp
              with_reducible rfl
            rotate_left
            · simp only [Act.put, List.setIfInBounds_toArray, List.set_cons_zero, List.set_cons_succ, i64_w, i32_w]
              rfl
            refine pure_ (i := 4) (N := some 117) (v := ?_) (a' := ?_) #[true, false, true, true, true, false, false, false, false, false, false, false, false, false, false, false] rfl rfl (by kernel_rfl) (fun _ _ _ h => h) (Or.inl ⟨by rfl, ?_⟩) ?_ ?_
            rotate_left
            · intro w'
              go_simp
              with_reducible rfl
            rotate_left
            · simp only [Act.put, List.setIfInBounds_toArray, List.set_cons_zero, List.set_cons_succ, i64_w, i32_w]
              rfl
            refine pure_ (i := 6) (N := some 119) (v := ?_) (a' := ?_) #[true, false, true, true, true, false, true, false, false, false, false, false, false, false, false, false] rfl rfl (by kernel_rfl) (fun _ _ _ h => h) (Or.inl ⟨by rfl, ?_⟩) ?_ ?_
            rotate_left
            · intro w'
              go_simp
              with_reducible rfl
            rotate_left
            · simp only [Act.put, List.setIfInBounds_toArray, List.set_cons_zero, List.set_cons_succ, i64_w, i32_w]
              rfl
            refine pure_ (i := 7) (N := some 120) (v := ?_) (a' := ?_) #[true, false, true, true, true, false, true, true, false, false, false, false, false, false, false, false] rfl rfl (by kernel_rfl) (fun _ _ _ h => h) (Or.inl ⟨by rfl, ?_⟩) ?_ ?_
            rotate_left
            · intro w'
              go_simp
              with_reducible rfl
            rotate_left
            · simp only [Act.put, List.setIfInBounds_toArray, List.set_cons_zero, List.set_cons_succ, i64_w, i32_w]
              rfl
            refine pure_ (i := 8) (N := some 121) (v := ?_) (a' := ?_) #[true, false, true, true, true, false, true, true, true, false, false, false, false, false, false, false] rfl rfl (by kernel_rfl) (fun _ _ _ h => h) (Or.inl ⟨by rfl, ?_⟩) ?_ ?_
            rotate_left
            · intro w'
              go_simp
              with_reducible rfl
            rotate_left
            · simp only [Act.put, List.setIfInBounds_toArray, List.set_cons_zero, List.set_cons_succ, i64_w, i32_w]
              rfl
            refine take_ (i := 1) (N := some 114) (v := ?_) (a' := ?_) #[true, true, true, true, true, false, true, true, true, false, false, false, false, false, false, false] rfl rfl (by kernel_rfl) (fun _ _ _ h => h) (Or.inl ⟨by rfl, ?_⟩) hHeld ?_ ?_
            rotate_left
            · rintro w' ⟨s0, s1, s2⟩
              go_simp
              with_reducible rfl
            rotate_left
            · simp only [Act.put, List.setIfInBounds_toArray, List.set_cons_zero, List.set_cons_succ, i64_w, i32_w]
              rfl
            refine take_ (i := 5) (N := some 118) (v := ?_) (a' := ?_) #[true, true, true, true, true, true, true, true, true, false, false, false, false, false, false, false] rfl rfl (by kernel_rfl) (fun _ _ _ h => h) (Or.inl ⟨by rfl, ?_⟩) hHeld ?_ ?_
            rotate_left
            · rintro w' ⟨s0, s1, s2⟩
              go_simp
              with_reducible rfl
            rotate_left
            · simp only [Act.put, List.setIfInBounds_toArray, List.set_cons_zero, List.set_cons_succ, i64_w, i32_w]
              rfl
            refine take_ (i := 9) (N := some 122) (v := ?_) (a' := ?_) #[true, true, true, true, true, true, true, true, true, true, false, false, false, false, false, false] rfl rfl (by kernel_rfl) (fun _ _ _ h => h) (Or.inl ⟨by rfl, ?_⟩) hHeld ?_ ?_
            rotate_left
            · rintro w' ⟨s0, s1, s2⟩
              go_simp
              with_reducible rfl
            rotate_left
            · simp only [Act.put, List.setIfInBounds_toArray, List.set_cons_zero, List.set_cons_succ, i64_w, i32_w]
              rfl
            refine one_ (i := 10) (N := some 123) #[true, true, true, true, true, true, true, true, true, true, true, false, false, false, false, false] rfl rfl (by kernel_rfl) (by decide) (fun K hK => ?_)
            refine goes_ Tryd.func31 (by kernel_rfl) rfl #[.string base, .int .i64 x] (by rfl) rfl rfl (by (try simp only [List.map_toArray, List.map_cons, List.map_nil]); first | done | rfl) ?_
            refine (rpageC base x _ (by omega) hx0 hx1).mono ?_
            rintro e wf ⟨rfl, hbf⟩
            refine ⟨_, rfl, ?_⟩
            have HNf := Lib.hid ((HN.out.below (pw_below_drewN (Below.refl _ _) 1)).below hbf)
            have HBf := Lib.hid (((HB.out).trans (pw_below_drewN (Below.refl _ _) 1)).trans (hbf.mono ((HB.out).trans (pw_below_drewN (Below.refl _ _) 1)).size))
            have HXf := Lib.hid ((hbf.block _ (blk_lt (((pw_below_drewN (Below.refl _ _) 1).block _ (blk_lt (HX.out))).trans (HX.out)))).trans (((pw_below_drewN (Below.refl _ _) 1).block _ (blk_lt (HX.out))).trans (HX.out)))
            have HYf := Lib.hid ((hbf.block _ (blk_lt (((pw_below_drewN (Below.refl _ _) 1).block _ (blk_lt (HY.out))).trans (HY.out)))).trans (((pw_below_drewN (Below.refl _ _) 1).block _ (blk_lt (HY.out))).trans (HY.out)))
            clear hbf
            refine hK.out _ _ ⟨(Lnk.blk_cell (HNf.out).blk 4 (.slice Av nv cv) rfl).1, (Lnk.blk_cell (HXf.out) j _ HCX.out).1, (Lnk.blk_cell (HYf.out) j _ HCY.out).1⟩ (fun hHeld => ?_)
            clear hK K
            refine norm_ (a' := ?_) ?_ ?_
            rotate_left
            · show Act.put _ (some 123) _ = _
              simp only [Act.put, List.setIfInBounds_toArray, List.set_cons_zero, List.set_cons_succ, i64_w, i32_w]
              rfl
            refine one_ (i := 11) (N := some 124) #[true, true, true, true, true, true, true, true, true, true, true, true, false, false, false, false] rfl rfl (by kernel_rfl) (by decide) (fun K hK => ?_)
            refine goes_ Tryd.func30 (by kernel_rfl) rfl #[.string rel, .string (pageB base x)] (by rfl) rfl rfl (by (try simp only [List.map_toArray, List.map_cons, List.map_nil]); first | done | rfl) ?_
            refine (C25.out _).mono ?_
            rintro e wg ⟨vg, rfl, ⟨m3g, m4g, rfl, hfg⟩, hbg⟩
            refine ⟨_, rfl, ?_⟩
            have HNg := Lib.hid ((HNf.out).below hbg)
            have HBg := Lib.hid ((HBf.out).trans (hbg.mono (HBf.out).size))
            have HXg := Lib.hid ((hbg.block _ (blk_lt (HXf.out))).trans (HXf.out))
            have HYg := Lib.hid ((hbg.block _ (blk_lt (HYf.out))).trans (HYf.out))
            have HFg := Lib.hid hfg
            clear hfg
            clear hbg
            refine hK.out _ _ ⟨(Lnk.blk_cell (HNg.out).blk 4 (.slice Av nv cv) rfl).1, (Lnk.blk_cell (HXg.out) j _ HCX.out).1, (Lnk.blk_cell (HYg.out) j _ HCY.out).1⟩ (fun hHeld => ?_)
            clear hK K
            refine norm_ (a' := ?_) ?_ ?_
            rotate_left
            · show Act.put _ (some 124) _ = _
              simp only [Act.put, List.setIfInBounds_toArray, List.set_cons_zero, List.set_cons_succ, i64_w, i32_w]
              rfl
            refine one_ (i := 12) (N := some 125) #[true, true, true, true, true, true, true, true, true, true, true, true, true, false, false, false] rfl rfl (by kernel_rfl) (by decide) (fun K hK => ?_)
            refine value_ (w1 := ?_) (v := ?_) (by rfl) rfl ?_ ?_
            rotate_left 2
            · go_simp
              constructor
              · rfl
              · rfl
            refine hK.out _ _ ⟨(Lnk.blk_cell (HNg.out.below ((Below.refl wg.heap.size wg).alloc (Nat.le_refl _) _)).blk 4 (.slice Av nv cv) rfl).1, (Lnk.blk_cell (((((Below.refl wg.heap.size wg).alloc (Nat.le_refl _) _).block _ (blk_lt HXg.out)).trans HXg.out)) j _ HCX.out).1, (Lnk.blk_cell (((((Below.refl wg.heap.size wg).alloc (Nat.le_refl _) _).block _ (blk_lt HYg.out)).trans HYg.out)) j _ HCY.out).1⟩ (fun hHeld => ?_)
            clear hK K
            refine norm_ (a' := ?_) ?_ ?_
            rotate_left
            · show Act.put _ (some 125) _ = _
              simp only [Act.put, List.setIfInBounds_toArray, List.set_cons_zero, List.set_cons_succ, i64_w, i32_w]
              rfl
            refine one_ (i := 13) (N := some 126) #[true, true, true, true, true, true, true, true, true, true, true, true, true, true, false, false] rfl rfl (by kernel_rfl) (by decide) (fun K hK => ?_)
            refine Kd.N_append_step k28 (W := wg) (w0 := w4) w4.heap.size (by rfl) _ _ 26 28 _ 104 rfl Tryd.underlying26 I28.out (by rfl) (by decide) (by decide) (.slice Av nv cv) _ y _ (fun k => k ≠ w4.heap.size ∧ okM okl w.heap.size k) _ rfl rfl HFg.out (fun k_ hk => made_ok (HNf.out) hb0lt hk) (fun k_ hk => made_ok2 (HNg.out) hb0lt hk) HNg.out.kids HBg.out HBg.out.size (by omega) ?_
            intro v5 wEp hnE hbE hgE hatE
            obtain ⟨AE, nE, cE, rfl⟩ := N_some hnE
            have hneXE := Kd.N_ne HNg.out.kids HXg.out (by decide)
            have hXpE := (hgE.block _ (blk_lt HXg.out) hneXE).trans HXg.out
            have hneYE := Kd.N_ne HNg.out.kids HYg.out (by decide)
            have hYpE := (hgE.block _ (blk_lt HYg.out) hneYE).trans HYg.out
            have hBE := (hgE.block _ HNg.out.lt (fun e => (HNg.out.kids.1 _ e.symm).1 rfl)).trans HNg.out.blk
            have HNE := Lib.hid (HNg.out.put hnE hgE)
            have HBE := Lib.hid (hbE.setCell (p := ⟨w4.heap.size, 4, none⟩) (Nat.le_refl _) (.slice AE nE cE))
            have HXE := Lib.hid (blk_far hXpE (p := ⟨w4.heap.size, 4, none⟩) (u := .slice AE nE cE) (fun e => far_ne HNg.out.blk HXg.out (by decide) e))
            have HYE := Lib.hid (blk_far hYpE (p := ⟨w4.heap.size, 4, none⟩) (u := .slice AE nE cE) (fun e => far_ne HNg.out.blk HYg.out (by decide) e))
            refine hK.out _ _ ⟨(Lnk.blk_cell hBE 4 (.slice Av nv cv) rfl).1, (Lnk.blk_cell (hXpE) j _ HCX.out).1, (Lnk.blk_cell (hYpE) j _ HCY.out).1⟩ (fun hHeld => ?_)
            clear hK K
            refine norm_ (a' := ?_) ?_ ?_
            rotate_left
            · show Act.put _ (some 126) _ = _
              simp only [Act.put, List.setIfInBounds_toArray, List.set_cons_zero, List.set_cons_succ, i64_w, i32_w]
              rfl
            refine pure_ (i := 14) (N := some 127) (v := ?_) (a' := ?_) #[true, true, true, true, true, true, true, true, true, true, true, true, true, true, true, false] rfl rfl (by kernel_rfl) (fun _ _ _ h => h) (Or.inl ⟨by rfl, ?_⟩) ?_ ?_
            rotate_left
            · intro w'
              go_simp
              with_reducible rfl
            rotate_left
            · simp only [Act.put, List.setIfInBounds_toArray, List.set_cons_zero, List.set_cons_succ, i64_w, i32_w]
              rfl
            have hc4E := (Lnk.blk_cell hBE 4 (.slice Av nv cv) rfl).1
            have hf4E := (Lnk.blk_cell hBE 4 (.slice Av nv cv) rfl).2
            refine last_ (i := 15) (N := none) #[true, true, true, true, true, true, true, true, true, true, true, true, true, true, true, true] rfl rfl (by kernel_rfl) (by decide) (fun K hK => ?_)
            refine skip_ (w1 := ?_) (by rfl) rfl ?_ ?_
            rotate_left
            · go_simp
              rfl
            refine hK.out _ _ ?_
            clear hK K
            refine done_ (by kernel_rfl) ?_
            have hls : (ini ++ linksUp base k nx la j) ++ [y] = ini ++ linksUp base k nx la (j + 1) := by rw [HL.out, HYq.out]; unfold linkAt; rw [if_pos hxp, List.append_assoc]
            have HNE2 := HNE.out
            rw [hls] at HNE2
            have HNE3 := Lib.hid HNE2
            clear HNE HNE2 hls HNf HBf HXf HYf HNg HBg HFg HXg HYg hBE hnE hbE hgE hatE hXpE hneXE hYpE hneYE hc4E hf4E C25
            go_wp2_with fail
            go_roundg (4 - (j + 1))
            case measure => omega
            case rel => exact ⟨j + 1, by go_num, by omega, Nat.le_refl _, ⟨HBE.out, HXE.out, HYE.out, _, _, _, HNE3.out⟩⟩
          · have hls : ini ++ linksUp base k nx la j = ini ++ linksUp base k nx la (j + 1) := by rw [HL.out]; unfold linkAt; rw [if_neg hxp, List.append_nil]
            have HLS := Lib.hid hls
            clear hls
            go_wp2_with fail
            go_roundg (4 - (j + 1))
            case measure => omega
            case rel => exact ⟨j + 1, by go_num, by omega, Nat.le_refl _, ⟨HB.out, HX.out, HY.out, _, _, _, by rw [← HLS.out]; exact HN.out⟩⟩
        · obtain rfl : j = 4 := by omega
          go_wp2_with fail
          obtain ⟨wo, rfl⟩ : ∃ wo : World, wo = wr := ⟨_, rfl⟩
          go_loopg [22] m (fun kx s22 wr => ∃ q : Nat, s22 = .int .i64 (q : Int) ∧ q ≤ m ∧ m - q ≤ kx ∧ Hid (Below w4.heap.size w4 wr ∧ ∃ A n c, NSt w4.heap.size w4.heap.size (okM okl w.heap.size) atomB ⟨#[102, 101, 101, 100]⟩ wr (.slice A n c) ((ini ++ linksUp base k nx la 4) ++ (ps.take q).map (·.f3))))
          case atStart =>
            obtain ⟨hw1, hw2, hw3, Av, nv, cv, hw4⟩ := HW.out
            refine ⟨0, rfl, by omega, by omega, hw1, Av, nv, cv, ?_⟩
            rw [List.take_zero, List.map_nil, List.append_nil]
            exact hw4
          case round =>
            obtain ⟨q, rfl, hqm, hkx2, HV⟩ := hrel
            by_cases hlt2 : q < m
            · have hii : (q : Int) < (m : Int) := by omega
              have hi0 : (0 : Int) ≤ (q : Int) := by omega
              obtain ⟨hv1, Av, nv, cv, hv3⟩ := HV.out
              obtain ⟨ad, A6, c6, A7, c7, rfl, xc, l6, g6, l7, g7⟩ := member_at HCp4.out hv1 q (by rw [← HM.out]; exact hlt2)
              have htk : (ps.take (q + 1)).map (·.f3) = (ps.take q).map (·.f3) ++ [(rd_T40 ps q).f3] := by
                have h9 : q < ps.length := by rw [← HM.out]; exact hlt2
                rw [List.take_succ_eq_append_getElem h9, List.map_append]
                unfold rd_T40
                simp [List.getD, List.getElem?_eq_getElem h9]
              have HT := Lib.hid htk
              clear htk
              generalize rd_T40 ps (q : Int) = y0 at xc l6 g6 l7 g7 HT
              obtain ⟨y, hy⟩ : ∃ y, y = y0.f3 := ⟨_, rfl⟩
              rw [← hy] at xc l6 g6 l7 g7 HT
              have x3 := xc 3 _ rfl
              have x4 := xc 4 _ rfl
              have x5 := xc 5 _ rfl
              have x6 := xc 6 _ rfl
              have x7 := xc 7 _ rfl
              have x8 := xc 8 _ rfl
              clear xc hy
              rw [add_field _ _ _ (by omega)] at x3 x4 x5 x6 x7 x8
              have HG6 : Hid (Kd.F k61 wr.drew (fun k => okM okl w.heap.size k ∧ k < w4.heap.size) A6 y.f3.length y.f3) := Kd.F_drew g6
              have HG7 : Hid (Kd.F k28 wr.drew (fun k => okM okl w.heap.size k ∧ k < w4.heap.size) A7 y.f4.length y.f4) := Kd.F_drew g7
              obtain ⟨xs0, hxs0⟩ : ∃ xs0, xs0 = (ini ++ linksUp base k nx la 4) ++ (ps.take q).map (·.f3) := ⟨_, rfl⟩
              have LN : Hid ((xs0.length + 1) * 104 ≤ 140737488355328) := by
                show _ ≤ _
                have h8 := linksUp_len base k nx la 4
                have h7 := HINL.out
                rw [hxs0, List.length_append, List.length_append, List.length_map, List.length_take, ← HM.out]
                omega
              have HT2 : Hid (xs0 ++ [y] = (ini ++ linksUp base k nx la 4) ++ (ps.take (q + 1)).map (·.f3)) := by
                show _ = _
                rw [HT.out, hxs0, List.append_assoc]
              rw [← hxs0] at hv3
              have HN := Lib.hid hv3
              have HB := Lib.hid hv1
              have hx0 : x3 = x3 := rfl
              have hltad : (ad.add (q * 9)).block < w4.heap.size := member_lt HCp4.out q (by rw [← HM.out]; exact hlt2)
              clear hv1 hv3 g6 g7 hxs0 HT hx0
              have hne9 : some (ad.add (q * 9)).block ≠ (Value.slice Av nv cv).ownBlock := fun e => by have := Kd.N_base HN.out.kids _ e.symm; omega
              have HNE9 := Lib.hid hne9
              clear hne9
              go_wp2_with fail
              refine start_ (n := 11) (S := fun w' => w'.cell? ⟨w4.heap.size, 4, none⟩ = some (.slice Av nv cv) ∧ w'.cell? ⟨(ad.add (q * 9)).block, (ad.add (q * 9)).off + 3, none⟩ = some (.int .i64 y.f0) ∧ w'.cell? ⟨(ad.add (q * 9)).block, (ad.add (q * 9)).off + 4, none⟩ = some (.string y.f1) ∧ w'.cell? ⟨(ad.add (q * 9)).block, (ad.add (q * 9)).off + 5, none⟩ = some (.string y.f2) ∧ w'.cell? ⟨(ad.add (q * 9)).block, (ad.add (q * 9)).off + 6, none⟩ = some (.slice A6 y.f3.length c6) ∧ w'.cell? ⟨(ad.add (q * 9)).block, (ad.add (q * 9)).off + 7, none⟩ = some (.slice A7 y.f4.length c7) ∧ w'.cell? ⟨(ad.add (q * 9)).block, (ad.add (q * 9)).off + 8, none⟩ = some (.string y.f5)) (ds := [10]) #[false, false, false, false, false, false, false, false, false, false, false] (by kernel_rfl) rfl rfl ⟨(Lnk.blk_cell (HN.out.below (pw_below_drewN (Below.refl _ _) 1)).blk 4 (.slice Av nv cv) rfl).1, x3, x4, x5, x6, x7, x8⟩ (fun hHeld => ?_)
              refine pure_ (i := 0) (N := some 134) (v := ?_) (a' := ?_) #[true, false, false, false, false, false, false, false, false, false, false] rfl rfl (by kernel_rfl) (fun _ _ _ h => h) (Or.inl ⟨by rfl, ?_⟩) ?_ ?_
              rotate_left
              · intro w'
                go_simp
                with_reducible rfl
              rotate_left
              · simp only [Act.put, List.setIfInBounds_toArray, List.set_cons_zero, List.set_cons_succ, i64_w, i32_w]
                rfl
              refine pure_ (i := 2) (N := some 136) (v := ?_) (a' := ?_) #[true, false, true, false, false, false, false, false, false, false, false] rfl rfl (by kernel_rfl) (fun _ _ _ h => h) (Or.inl ⟨by rfl, ?_⟩) ?_ ?_
              rotate_left
              · intro w'
                go_simp
                with_reducible rfl
              rotate_left
              · simp only [Act.put, List.setIfInBounds_toArray, List.set_cons_zero, List.set_cons_succ, i64_w, i32_w]
                rfl
              refine pure_ (i := 3) (N := some 137) (v := ?_) (a' := ?_) #[true, false, true, true, false, false, false, false, false, false, false] rfl rfl (by kernel_rfl) (fun _ _ _ h => h) (Or.inl ⟨by rfl, ?_⟩) ?_ ?_
              rotate_left
              · intro w'
                go_simp
                with_reducible rfl
              rotate_left
              · simp only [Act.put, List.setIfInBounds_toArray, List.set_cons_zero, List.set_cons_succ, i64_w, i32_w]
                rfl
              refine pure_ (i := 4) (N := some 138) (v := ?_) (a' := ?_) #[true, false, true, true, true, false, false, false, false, false, false] rfl rfl (by kernel_rfl) (fun _ _ _ h => h) (Or.inl ⟨by rfl, ?_⟩) ?_ ?_
              rotate_left
              · intro w'
                go_simp
                with_reducible rfl
              rotate_left
              · simp only [Act.put, List.setIfInBounds_toArray, List.set_cons_zero, List.set_cons_succ, i64_w, i32_w]
                rfl
              refine pure_ (i := 5) (N := some 139) (v := ?_) (a' := ?_) #[true, false, true, true, true, true, false, false, false, false, false] rfl rfl (by kernel_rfl) (fun _ _ _ h => h) (Or.inl ⟨by rfl, ?_⟩) ?_ ?_
              rotate_left
              · intro w'
                go_simp
                with_reducible rfl
              rotate_left
              · simp only [Act.put, List.setIfInBounds_toArray, List.set_cons_zero, List.set_cons_succ, i64_w, i32_w]
                rfl
              refine take_ (i := 1) (N := some 135) (v := ?_) (a' := ?_) #[true, true, true, true, true, true, false, false, false, false, false] rfl rfl (by kernel_rfl) (fun _ _ _ h => h) (Or.inl ⟨by rfl, ?_⟩) hHeld ?_ ?_
              rotate_left
              · rintro w' ⟨s0, s1, s2, s3, s4, s5, s6⟩
                go_simp
                with_reducible rfl
              rotate_left
              · simp only [Act.put, List.setIfInBounds_toArray, List.set_cons_zero, List.set_cons_succ, i64_w, i32_w]
                rfl
              refine take_ (i := 6) (N := some 140) (v := ?_) (a' := ?_) #[true, true, true, true, true, true, true, false, false, false, false] rfl rfl (by kernel_rfl) (fun _ _ _ h => h) (Or.inl ⟨by rfl, ?_⟩) hHeld ?_ ?_
              rotate_left
              · rintro w' ⟨s0, s1, s2, s3, s4, s5, s6⟩
                go_simp
                with_reducible rfl
              rotate_left
              · simp only [Act.put, List.setIfInBounds_toArray, List.set_cons_zero, List.set_cons_succ, i64_w, i32_w]
                rfl
              have HN_ := Lib.hid (HN.out.below (pw_below_drewN (Below.refl _ _) 1))
              have HB_ := Lib.hid ((HB.out).trans (pw_below_drewN (Below.refl _ _) 1))
              refine one_ (i := 7) (N := some 141) #[true, true, true, true, true, true, true, true, false, false, false] rfl rfl (by kernel_rfl) (by decide) (fun K hK => ?_)
              refine value_ (w1 := ?_) (v := ?_) (by rfl) rfl ?_ ?_
              rotate_left 2
              · go_simp
                constructor
                · rfl
                · rfl
              refine hK.out _ _ ⟨(Lnk.blk_cell (HN_.out.below ((Below.refl wr.drew.heap.size wr.drew).alloc (Nat.le_refl _) _)).blk 4 (.slice Av nv cv) rfl).1, cell_keep ((Below.refl wr.drew.heap.size wr.drew).alloc (Nat.le_refl _) _) x3, cell_keep ((Below.refl wr.drew.heap.size wr.drew).alloc (Nat.le_refl _) _) x4, cell_keep ((Below.refl wr.drew.heap.size wr.drew).alloc (Nat.le_refl _) _) x5, cell_keep ((Below.refl wr.drew.heap.size wr.drew).alloc (Nat.le_refl _) _) x6, cell_keep ((Below.refl wr.drew.heap.size wr.drew).alloc (Nat.le_refl _) _) x7, cell_keep ((Below.refl wr.drew.heap.size wr.drew).alloc (Nat.le_refl _) _) x8⟩ (fun hHeld => ?_)
              clear hK K
              refine norm_ (a' := ?_) ?_ ?_
              rotate_left
              · show Act.put _ (some 141) _ = _
                simp only [Act.put, List.setIfInBounds_toArray, List.set_cons_zero, List.set_cons_succ, i64_w, i32_w]
                rfl
              refine one_ (i := 8) (N := some 142) #[true, true, true, true, true, true, true, true, true, false, false] rfl rfl (by kernel_rfl) (by decide) (fun K hK => ?_)
              refine Kd.N_append_step k28 (W := wr.drew) (w0 := w4) w4.heap.size (by rfl) _ _ 26 28 _ 104 rfl Tryd.underlying26 I28.out (by rfl) (by decide) (by decide) (.slice Av nv cv) _ y _ (fun k => k ≠ w4.heap.size ∧ okM okl w.heap.size k) _ rfl rfl (k28_mkF _ _ y l6 HG6.out l7 HG7.out) (fun k_ hk => ⟨⟨by omega, hk.1⟩, fun e => by have := Kd.N_base HN_.out.kids k_ e.symm; omega⟩) (fun k_ hk => made_ok2 (HN_.out) hb0lt hk) HN_.out.kids HB_.out HB_.out.size LN.out ?_
              intro v6 wGp hnG hbG hgG hatG
              obtain ⟨AG, nG, cG, rfl⟩ := N_some hnG
              have hBG := (hgG.block _ HN_.out.lt (fun e => (HN_.out.kids.1 _ e.symm).1 rfl)).trans HN_.out.blk
              have HNG := Lib.hid (HN_.out.put hnG hgG)
              have HBG := Lib.hid (hbG.setCell (p := ⟨w4.heap.size, 4, none⟩) (Nat.le_refl _) (.slice AG nG cG))
              refine hK.out _ _ ⟨(Lnk.blk_cell hBG 4 (.slice Av nv cv) rfl).1, cell_grown hgG x3 HNE9.out, cell_grown hgG x4 HNE9.out, cell_grown hgG x5 HNE9.out, cell_grown hgG x6 HNE9.out, cell_grown hgG x7 HNE9.out, cell_grown hgG x8 HNE9.out⟩ (fun hHeld => ?_)
              clear hK K
              refine norm_ (a' := ?_) ?_ ?_
              rotate_left
              · show Act.put _ (some 142) _ = _
                simp only [Act.put, List.setIfInBounds_toArray, List.set_cons_zero, List.set_cons_succ, i64_w, i32_w]
                rfl
              refine pure_ (i := 9) (N := some 143) (v := ?_) (a' := ?_) #[true, true, true, true, true, true, true, true, true, true, false] rfl rfl (by kernel_rfl) (fun _ _ _ h => h) (Or.inl ⟨by rfl, ?_⟩) ?_ ?_
              rotate_left
              · intro w'
                go_simp
                with_reducible rfl
              rotate_left
              · simp only [Act.put, List.setIfInBounds_toArray, List.set_cons_zero, List.set_cons_succ, i64_w, i32_w]
                rfl
              have hc4G := (Lnk.blk_cell hBG 4 (.slice Av nv cv) rfl).1
              have hf4G := (Lnk.blk_cell hBG 4 (.slice Av nv cv) rfl).2
              refine last_ (i := 10) (N := none) #[true, true, true, true, true, true, true, true, true, true, true] rfl rfl (by kernel_rfl) (by decide) (fun K hK => ?_)
              refine skip_ (w1 := ?_) (by rfl) rfl ?_ ?_
              rotate_left
              · go_simp
                rfl
              refine hK.out _ _ ?_
              clear hK K
              refine done_ (by kernel_rfl) ?_
              have HNG2 := HNG.out
              rw [HT2.out] at HNG2
              have HNG3 := Lib.hid HNG2
              clear HNG HNG2 HN_ HB_ hBG hnG hbG hgG hatG hc4G hf4G hltad
              go_wp2_with fail
              go_roundg (m - (q + 1))
              case measure => omega
              case rel => exact ⟨q + 1, by go_num, by omega, Nat.le_refl _, ⟨HBG.out, _, _, _, HNG3.out⟩⟩
            · obtain rfl : q = m := by omega
              obtain ⟨hv1, Av, nv, cv, hv3⟩ := HV.out
              obtain ⟨en, hl4, hC4⟩ := Kd.N_reads' hv3.kids
              have e0 := (Lnk.blk_cell hv3.blk 0 _ rfl).1
              have e1 := (Lnk.blk_cell hv3.blk 1 _ rfl).1
              have e2 := (Lnk.blk_cell hv3.blk 2 _ rfl).1
              have e3 := (Lnk.blk_cell hv3.blk 3 _ rfl).1
              have e4 := (Lnk.blk_cell hv3.blk 4 _ rfl).1
              have e5 := (Lnk.blk_cell hv3.blk 5 _ rfl).1
              have hfk : (ini ++ linksUp base k nx la 4) ++ (ps.take q).map (·.f3) = feedK base title l s k (latN l) := by
                unfold feedK
                rw [← HNX.out, ← HLA.out, ← HPS.out, ← HTX.out, ← HXX.out, ← HINI.out, List.take_of_length_le (by rw [HM.out]; exact Nat.le_refl _)]
              rw [hfk] at en
              have EN := Lib.hid en
              have hk4 := hv3.kids
              rw [hfk] at hk4
              have HK4 := Lib.hid hk4
              have HL4 := Lib.hid hl4
              have HBB : Hid (Below w.heap.size w wr) := HB4.out.trans (hv1.mono HB4.out.size)
              have hbk := (hv1.block _ hb0lt).trans BK4.out
              have q0 := Lnk.blk_cell hbk 0 _ rfl
              have q1 := Lnk.blk_cell hbk 1 _ rfl
              have q2 := Lnk.blk_cell hbk 2 _ rfl
              have q3 := Lnk.blk_cell hbk 3 _ rfl
              have q4 := Lnk.blk_cell hbk 4 _ rfl
              have q5 := Lnk.blk_cell hbk 5 _ rfl
              clear hv1 hv3 hl4 hC4 hbk hk4 hfk en
              go_wp2_with fail
              refine bodyPost_ret (v := .tuple #[.agg #[.int .i64 0, .string atomB, .string ⟨#[102, 101, 101, 100]⟩, .slice none 0 0, .slice Av nv cv, .string ⟨#[]⟩], .int .i64 0]) ?_ rfl ⟨Av, cv, by rw [EN.out], ?_, ?_⟩
              · simp [results, Tryd.results9, go_sem, q0, q1, q2, q3, q4, q5]
              · rw [← EN.out]
                have hx := Kd.N_far (p := ⟨w.heap.size, 5, none⟩) (Kd.N_far (p := ⟨w.heap.size, 4, none⟩) (Kd.N_far (p := ⟨w.heap.size, 3, none⟩) (Kd.N_far (p := ⟨w.heap.size, 2, none⟩) (Kd.N_far (p := ⟨w.heap.size, 1, none⟩) (Kd.N_far (p := ⟨w.heap.size, 0, none⟩) HK4.out (fun _ hk => okM_ne hk.2) (.int .i64 0)) (fun _ hk => okM_ne hk.2) (.string atomB)) (fun _ hk => okM_ne hk.2) (.string ⟨#[102, 101, 101, 100]⟩)) (fun _ hk => okM_ne hk.2) (.slice none 0 0)) (fun _ hk => okM_ne hk.2) (.slice Av nv cv)) (fun _ hk => okM_ne hk.2) (.string ⟨#[]⟩)
                exact Kd.N_V (Kd.N_mono hx (fun _ hk => okM_out hk.2))
              · exact (((((HBB.out.setCell (p := ⟨w.heap.size, 0, none⟩) (Nat.le_refl _) _).setCell (p := ⟨w.heap.size, 1, none⟩) (Nat.le_refl _) _).setCell (p := ⟨w.heap.size, 2, none⟩) (Nat.le_refl _) _).setCell (p := ⟨w.heap.size, 3, none⟩) (Nat.le_refl _) _).setCell (p := ⟨w.heap.size, 4, none⟩) (Nat.le_refl _) _).setCell (p := ⟨w.heap.size, 5, none⟩) (Nat.le_refl _) _
end Go.Proofs.YtjbckpoepfbgbaaDoor.Fd
