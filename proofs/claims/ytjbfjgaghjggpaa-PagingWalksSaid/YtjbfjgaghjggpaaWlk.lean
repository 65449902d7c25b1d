/- The walk of the law PagingWalks: page behind page, all members, in order. -/
import Derived.Test.YtjbfjgaghjggpaaGv
import Derived.Test.YtjbfjgaghjggpaaMem
import Derived.Lib.Hide
set_option linter.unusedVariables false
namespace Go.Proofs.Ytjbfjgaghjggpaa.Wlk
open Go.RowKit Go.Lib Go.Proofs.Ytjbfjgaghjggpaa.Mem Go.Proofs.Ytjbfjgaghjggpaa.Pr Go.Proofs.Ytjbfjgaghjggpaa.Lnk Go.Proofs.Ytjbfjgaghjggpaa.Mrg Go.Proofs.Ytjbfjgaghjggpaa.Srt Go.Proofs.Ytjbfjgaghjggpaa.Eq9 Go.Proofs.YtjbfjgaghjggpaaW.PrintWords Go.Proofs.Ytjbfjgaghjggpaa.Gv

/-- The node is nothing: its cells read as it in each world. -/
def Zn (x : S32) : Prop := x.f3.f3 = [] ∧ x.f3.f4 = []
theorem K_any {x : S32} (h : Zn x) {w : World} {c : List Value} (hk : k32.K w x c) (w' : World) : k32.K w' x c := by
  obtain ⟨h3, h4⟩ := h
  obtain ⟨A6, c6, A7, c7, rfl, l6, g6, l7, g7⟩ := k32_open hk
  refine k32_mk w' x l6 ?_ l7 ?_
  · rw [h3]; exact ⟨rfl, by simp, fun h => absurd h (by simp)⟩
  · rw [h4]; exact ⟨rfl, by simp, fun h => absurd h (by simp)⟩
theorem zn_mem (l : List S47) (i : Nat) : Zn (mem l i) := ⟨rfl, rfl⟩
/-- What was seen. -/
def Seen (base : Nat) (W : World) (v : Value) (xs : List S32) : Prop :=
  ∃ rows : List (List Value), (Kd.raw 9).R 32 W base (fun _ => True) v rows ∧ rows.length = xs.length ∧ ∀ (j : Nat) (x : S32) (c : List Value), xs[j]? = some x → rows[j]? = some c → ∀ w, k32.K w x c
theorem seen_nil (base : Nat) (W : World) : Seen base W (.slice none 0 0) [] := ⟨[], Kd.R_nil _ _ _ _ _, rfl, fun j x c hx => by simp at hx⟩
/-- The pages up to the i-th, and the next one. -/
theorem page_next (M : List S32) (s : Int) (i : Nat) (hs : 1 ≤ s) : (isort ltM M).take ((i : Int) * s).toNat ++ pageOf M s ((i : Int) + 1) = (isort ltM M).take (((i + 1 : Nat) : Int) * s).toNat := by
  unfold pageOf
  have e1 : ((i : Int) + 1 - 1) * s = (i : Int) * s := by rw [show (i : Int) + 1 - 1 = i by omega]
  have e2 : (((i + 1 : Nat) : Int)) = (i : Int) + 1 := by omega
  rw [e1, e2]
  obtain ⟨a, ha⟩ : ∃ a : Int, a = (i : Int) * s := ⟨_, rfl⟩
  have hb : ((i : Int) + 1) * s = a + s := by rw [ha, Int.add_mul, Int.one_mul]
  have ha0 : 0 ≤ a := by rw [ha]; exact Int.mul_nonneg (by omega) (by omega)
  rw [hb, ← ha]
  have e3 : (isort ltM M).take (min M.length (a + s).toNat) = (isort ltM M).take (a + s).toNat := by
    rw [List.take_eq_take_iff, isort_len]
    omega
  rw [e3, List.drop_take]
  have e4 : (a + s).toNat = a.toNat + ((a + s).toNat - a.toNat) := by omega
  rw [e4, List.take_add]
  simp
theorem page_len (M : List S32) (s k : Int) (hs : 1 ≤ s) (hk : 1 ≤ k) : ((pageOf M s k).length : Int) ≤ s := by
  unfold pageOf
  rw [List.length_drop, List.length_take, isort_len]
  obtain ⟨q, hq⟩ : ∃ q, q = (k - 1) * s := ⟨_, rfl⟩
  have h1 : k * s = q + s := by rw [hq, Int.sub_mul]; omega
  have h2 : 0 ≤ q := by rw [hq]; exact Int.mul_nonneg (by omega) (by omega)
  rw [h1, ← hq]
  omega
/-- The last page is the end. -/
theorem page_all (M : List S32) (s : Int) (hF : Fit M.length s) : (isort ltM M).take ((lastP M.length s) * s).toNat = isort ltM M := by
  apply List.take_of_length_le
  rw [isort_len]
  obtain ⟨h1, h2, h3, h4⟩ := hF
  unfold lastP
  split
  · omega
  · have e := Int.mul_ediv_add_emod ((M.length : Int) - 1) s
    have e2 := Int.emod_lt_of_pos ((M.length : Int) - 1) (show 0 < s by omega)
    rw [Int.add_mul, Int.mul_comm]
    omega
theorem seen_page {W : World} {A : Option Addr} {n : Nat} {xs : List S32} (hz : ∀ x ∈ xs, Zn x) (h : Kd.C k32 W A n xs) : ∃ news : List (List Value), news.length = xs.length ∧ ReadsRow (fun x cs => cs = x ∧ cs.length = 9 ∧ ∀ u ∈ cs, u.oneCell' = true) 9 W A n news ∧ ∀ (j : Nat) (x : S32) (c : List Value), xs[j]? = some x → news[j]? = some c → ∀ w, k32.K w x c := by
  obtain ⟨news, h1, h2, h3⟩ := Kd.reads_raw h (fun x c hk => ⟨k32.K_len hk, k32.K_one hk⟩)
  exact ⟨news, h1, h2, fun j x c hx hc w => K_any (hz x (List.mem_of_getElem? hx)) (h3 j x c hx hc) w⟩
/-- What was seen lies still where other memory was made. -/
theorem Seen.to5 {w3 w4 w5 : World} {v : Value} {xs : List S32} (h : Seen w3.heap.size w4 v xs ∧ Below w3.heap.size w3 w4) (hb : Below w4.heap.size w4 w5) (o : Obj) :
    Seen w3.heap.size (w5.alloc o) v xs ∧ Below w3.heap.size w3 (w5.alloc o) ∧ some w5.heap.size ≠ v.ownBlock := by
  obtain ⟨⟨rows, r1, r2, r3⟩, h2⟩ := h
  have hb' := hb.alloc hb.size o
  refine ⟨⟨rows, Kd.R_below r1 hb', r2, r3⟩, h2.trans (hb'.mono h2.size), fun he => ?_⟩
  have h1 := Kd.R_lt r1 _ he.symm
  have h3 := hb.size
  omega
theorem seen_C {base : Nat} {W : World} {v : Value} {xs : List S32} (h : Seen base W v xs) : ∃ A c, v = .slice A xs.length c ∧ xs.length ≤ c ∧ Kd.C k32 W A xs.length xs := by
  obtain ⟨rows, hR, hl, hK⟩ := h
  obtain ⟨A, c, rfl, hc, hC⟩ := Kd.R_reads hR
  refine ⟨A, c, by rw [hl], by omega, ?_⟩
  rw [← hl]
  refine ⟨hl.symm, hC.2.1, fun hp => ?_⟩
  obtain ⟨a, e, hcs⟩ := hC.2.2 hp
  refine ⟨a, e, fun j x hx => ?_⟩
  have hj : j < rows.length := by have := (List.getElem?_eq_some_iff.1 hx).1; omega
  obtain ⟨cs, h1, h2, h3⟩ := hcs j rows[j] (List.getElem?_eq_getElem hj)
  obtain ⟨rfl, _, _⟩ := h2
  exact ⟨_, h1, hK j x _ hx (List.getElem?_eq_getElem hj) W, h3⟩

set_option maxRecDepth 20000 in
set_option maxHeartbeats 4000000 in
theorem walks (A0 : Option Addr) (c0 : Nat) (l0 : List S47) (size : Int) (w : World) (hr0 : Kd.C k47 w A0 l0.length l0) (hc0 : l0.length ≤ c0) (hs0 : 0 ≤ size) (hs1 : size ≤ 255) :
    Calls Try.prog 6 #[.slice A0 l0.length c0, .int .u8 size] w fun e w' => e = .returned (.bool true) ∧ Below w.heap.size w w' := by
  obtain ⟨k, hk⟩ := members_f l0
  obtain ⟨M, hM⟩ : ∃ M, M = mems l0 (min l0.length 60) := ⟨_, rfl⟩
  have hMl : M.length ≤ 60 := by rw [hM, mems_len]; omega
  have hMz : ∀ x ∈ M, Zn x := by
    intro x hx
    rw [hM] at hx
    obtain ⟨i, _, rfl⟩ := List.mem_map.1 hx
    exact zn_mem l0 i
  rw [← hM] at hk
  clear hM
  have C0 := Gv.broadsheetlaw22_awake.calls true w rfl
  have HM : Hid (∀ w1, Below w.heap.size w w1 → Calls Try.prog 8 #[.slice A0 l0.length c0] w1 fun e w' => ∃ v0_ : Value, e = .returned (v0_) ∧ Kd.R k32 32 w' w1.heap.size (fun _ => True) v0_ M ∧ Below w1.heap.size w1 w') :=
    fun w1 hb => broadsheetlaw22_Members.calls k A0 c0 l0 M w1 (Kd.C_below hr0 hb) hc0 hk
  have HZ := Lib.hid hMz
  clear hr0 hk hMz
  go_enter Try.func6, Try.ntmps6
  go_wp2_with fail
  refine C0.mono ?_
  clear C0
  rintro e w1 ⟨rfl, hb1⟩
  have HB1 := Lib.hid hb1
  clear hb1
  go_wp2_with fail
  refine (HM.out w1 HB1.out).mono ?_
  rintro e w2 ⟨v6, rfl, hR2, hb2⟩
  obtain ⟨A, c, rfl, hc, hC⟩ := Kd.R_reads hR2
  have HB2 : Hid (Below w.heap.size w w2) := HB1.out.trans (hb2.mono HB1.out.size)
  have HC := Lib.hid hC
  clear hR2 hb2 hC HM HB1
  obtain ⟨n, hn⟩ : ∃ n, n = M.length := ⟨_, rfl⟩
  rw [← hn] at hc hMl ⊢
  have HN := Lib.hid hn
  clear hn
  go_wp2_with fail
  generalize hs : 1 + size % 15 = s
  have hsa : 1 ≤ s ∧ s ≤ 15 := by omega
  clear hs
  have hF : Fit (n : Int) s := by unfold Fit; omega
  refine (countF w2 hF).mono ?_
  rintro e w3 ⟨rfl, hb3⟩
  have HB3 : Hid (Below w.heap.size w w3) := HB2.out.trans (hb3.mono HB2.out.size)
  have HC3 : Hid (Kd.C k32 w3 A M.length M) := Lib.hid (Kd.C_below HC.out hb3)
  have hla := lastP_bd hF
  have HA : Hid (Fit (n : Int) s) := Lib.hid hF
  obtain ⟨la, hl⟩ : ∃ la : Nat, (la : Int) = lastP n s := ⟨(lastP n s).toNat, by omega⟩
  have HL := Lib.hid hl
  rw [← hl] at hla ⊢
  clear hb3 HB2 HC hF hl
  go_wp2_with fail
  go_loopg [10, 11, 12] la (fun kx s10 s11 s12 wr => ∃ (i : Nat) (z : Int), s11 = .int .i64 z ∧ Hid (z = (i : Int) + 1) ∧ s12 = .int .i64 i ∧ i < la ∧ la - i ≤ kx ∧ Hid (Seen w3.heap.size wr s10 ((isort ltM M).take ((i : Int) * s).toNat) ∧ Below w3.heap.size w3 wr))
  case atStart => exact ⟨0, 1, rfl, Lib.hid rfl, rfl, by omega, Nat.le_refl _, ⟨by simpa using seen_nil _ _, Below.refl _ _⟩⟩
  case round =>
    obtain ⟨i, z, rfl, Hz, rfl, hil, hkx, HW⟩ := hrel
    go_wp2_with fail
    have hz := Hz.out
    have C2 := Gv.pageO A c M s z wr (Kd.C_below HC3.out HW.out.2) (by have := HN.out; omega) (by rw [← HN.out]; exact HA.out) (by omega) (by rw [← HN.out, ← HL.out]; omega)
    rw [← HN.out] at C2
    have hpl := page_len M s z (by omega) (by omega)
    have hpn := page_next M s i (by omega)
    have hpz : ∀ x ∈ pageOf M s z, Zn x := fun x hx => HZ.out x ((isort_mem ..).1 (List.mem_of_mem_take (List.mem_of_mem_drop hx)))
    rw [← hz] at hpn
    refine C2.mono ?_
    clear C2
    rintro e w4 ⟨A', c', rfl, hc', hC', hb4⟩
    obtain ⟨ps, hps⟩ : ∃ ps, ps = pageOf M s z := ⟨_, rfl⟩
    rw [← hps] at hpl hpn hpz hc' hC' ⊢
    have HPN := Lib.hid hpn
    have HPZ := Lib.hid hpz
    have HPC := Lib.hid hC'
    obtain ⟨m, hm⟩ : ∃ m, m = ps.length := ⟨_, rfl⟩
    rw [← hm] at hpl hc' ⊢
    have HM := Lib.hid hm
    have HW4 : Hid (Seen w3.heap.size w4 u10 ((isort ltM M).take ((i : Int) * s).toNat) ∧ Below w3.heap.size w3 w4) := by
      obtain ⟨⟨rows, r1, r2, r3⟩, hb⟩ := HW.out
      exact ⟨⟨rows, Kd.R_below r1 hb4, r2, r3⟩, hb.trans (hb4.mono hb.size)⟩
    have hz1 : 1 ≤ z := by omega
    have hz2 : z ≤ (la : Int) := by omega
    clear hpn hpz hC' hb4 hps hm HW hz
    go_wp2_with fail
    by_cases hz3 : z = (la : Int)
    · have hn3 : nextP n s z = 0 := by unfold nextP; rw [if_pos (by rw [← HL.out]; exact hz3)]
      have C3 := linksO_2 z w4 HA.out hz1 (by rw [← HL.out]; exact hz3)
      rw [hn3, ← HL.out] at C3
      unfold four at C3
      have HZ3 := Lib.hid hz3
      clear hn3 hz3
      refine C3.mono ?_
      clear C3
      rintro e w5 ⟨rfl, hb5⟩
      have HB5 := Lib.hid hb5
      have hsz5 := hb5.size
      clear hb5
      have HX := Lib.hid (Seen.to5 HW4.out HB5.out (Obj.cells #[.int .i64 1, .int .i64 (z - 1), .int .i64 0, .int .i64 la] 41))
      obtain ⟨rows, r1, r2, r3⟩ := HX.out.1
      obtain ⟨news, n1, n2, n3⟩ := seen_page (W := w5.alloc (Obj.cells #[.int .i64 1, .int .i64 (z - 1), .int .i64 0, .int .i64 la] 41)) (n := ps.length) HPZ.out (Kd.C_below HPC.out (HB5.out.alloc hsz5 _))
      rw [← HM.out] at n2
      have R1 := Lib.hid r1
      have R2 := Lib.hid r2
      have R3 := Lib.hid r3
      have N1 := Lib.hid n1
      have N2 := Lib.hid n2
      have N3 := Lib.hid n3
      have LN : Hid ((rows.length + m) * 136 ≤ 140737488355328) := by show _ ≤ _; rw [r2, List.length_take, isort_len, ← HN.out]; omega
      have HF5 := Lib.hid HX.out.2.1
      clear r1 r2 r3 n1 n2 n3
      go_wp2_with (at_builtin; refine Kd.R_append_rows (Kd.raw 9) (Rr := fun x cs => cs = x ∧ cs.length = 9 ∧ ∀ u ∈ cs, u.oneCell' = true) (w0 := w3) w3.heap.size ?g1 ?s1 ?s2 24 32 zed 136 ?g2 Try.underlying24 Srt.info32 ?g5 ?g6 ?g7 u10 rows news A' m c' (fun _ => True) (fun _ => False) ?g3 ?g4 R1.out N2.out (fun _ _ h => h) (fun _ h => h.elim) (fun _ _ => trivial) HF5.out HF5.out.size LN.out ?gg; (case g1 => rfl); (case g2 => rfl); (case g3 => rfl); (case g4 => rfl); (case g5 => rfl); (case g6 => decide); (case g7 => decide))
      intro v1 w6 hr hb hgr hat
      have hx6 : w6.heap[w5.heap.size]? = some (.cells #[.int .i64 1, .int .i64 (z - 1), .int .i64 0, .int .i64 la] 41 (0, 0)) := by
        refine (hgr.block _ (by simp) (HX.out.2.2)).trans ?_
        show (w5.heap.push _)[w5.heap.size]? = _
        simp
      have c2 := blk_cell hx6 2 (.int .i64 0) rfl
      have SN : Hid (Seen w3.heap.size w6 v1 ((isort ltM M).take (((i + 1 : Nat) : Int) * s).toNat)) := by
        refine ⟨rows ++ news, hr, ?_, ?_⟩
        · rw [← HPN.out, List.length_append, List.length_append, R2.out, N1.out]
        · intro j x cs hx hcs
          rw [← HPN.out] at hx
          rcases Nat.lt_or_ge j rows.length with h | h
          · rw [List.getElem?_append_left (by rw [← R2.out]; exact h)] at hx
            rw [List.getElem?_append_left h] at hcs
            exact R3.out j x cs hx hcs
          · rw [List.getElem?_append_right (by rw [← R2.out]; exact h), ← R2.out] at hx
            rw [List.getElem?_append_right h] at hcs
            exact N3.out _ x cs hx hcs
      have HB6 := Lib.hid hb
      have C9 := orderC A c M w6 (Kd.C_below HC3.out hb) (by rw [← HN.out]; omega)
      rw [← HN.out] at C9
      have hil2 : (isort ltM M).length = n := by rw [isort_len, HN.out]
      have hall : (isort ltM M).take (((i + 1 : Nat) : Int) * s).toNat = isort ltM M := by
        have h1 := page_all M s (by rw [← HN.out]; exact HA.out)
        rw [← HN.out, ← HL.out, ← HZ3.out, Hz.out] at h1
        exact h1
      have hs2 := SN.out
      rw [hall] at hs2
      obtain ⟨As, ca, rfl, hca, hCa⟩ := seen_C hs2
      rw [hil2] at hca ⊢
      have HCa := Lib.hid hCa
      have HI := Lib.hid hil2
      have hi1 : (i : Int) = (la : Int) - 1 := by have h1 := HZ3.out; have h2 := Hz.out; omega
      clear hr hb hgr hat LN R1 R2 R3 N1 N2 N3 HF5 HX hx6 SN hs2 hall hCa hil2
      go_wp2_with fail
      refine C9.mono ?_
      clear C9
      rintro e w7 ⟨A9, c9, rfl, h9a, h9b, hb7⟩
      have C14 := sameC As ca A9 c9 (isort ltM M) w7 (Kd.C_below HCa.out hb7) (by rw [HI.out]; exact hca) (by rw [HI.out, HN.out]; exact h9b) (by rw [HI.out, HN.out]; exact h9a)
      rw [HI.out] at C14
      have HB7 := Lib.hid hb7
      clear h9b hb7
      rw [← HN.out] at h9a ⊢
      go_wp2_with fail
      refine C14.mono ?_
      clear C14
      rintro e w8 ⟨rfl, hb8⟩
      have HB8 := Lib.hid hb8
      clear hb8
      go_wp2_with fail
      go_ret
      exact ⟨rfl, HB3.out.trans ((HB6.out.trans ((HB7.out.trans (HB8.out.mono HB7.out.size)).mono HB6.out.size)).mono HB3.out.size)⟩
    · have hz4 : z < (la : Int) := by omega
      obtain ⟨z2, hz2e⟩ : ∃ z2, z2 = z + 1 := ⟨_, rfl⟩
      have hn3 : nextP n s z = z2 := by unfold nextP; rw [if_neg (by rw [← HL.out]; exact hz3), hz2e]
      have C3 := linksO_1 z w4 HA.out hz1 (by rw [← HL.out]; exact hz4)
      rw [hn3, ← HL.out] at C3
      unfold four at C3
      have HZ3 := Lib.hid hz2e
      have hz5 : 2 ≤ z2 := by omega
      have hz6 : z2 ≤ (la : Int) := by omega
      clear hn3 hz3 hz2e
      refine C3.mono ?_
      clear C3
      rintro e w5 ⟨rfl, hb5⟩
      have HB5 := Lib.hid hb5
      have hsz5 := hb5.size
      clear hb5
      have HX := Lib.hid (Seen.to5 HW4.out HB5.out (Obj.cells #[.int .i64 1, .int .i64 (z - 1), .int .i64 z2, .int .i64 la] 41))
      obtain ⟨rows, r1, r2, r3⟩ := HX.out.1
      obtain ⟨news, n1, n2, n3⟩ := seen_page (W := w5.alloc (Obj.cells #[.int .i64 1, .int .i64 (z - 1), .int .i64 z2, .int .i64 la] 41)) (n := ps.length) HPZ.out (Kd.C_below HPC.out (HB5.out.alloc hsz5 _))
      rw [← HM.out] at n2
      have R1 := Lib.hid r1
      have R2 := Lib.hid r2
      have R3 := Lib.hid r3
      have N1 := Lib.hid n1
      have N2 := Lib.hid n2
      have N3 := Lib.hid n3
      have LN : Hid ((rows.length + m) * 136 ≤ 140737488355328) := by show _ ≤ _; rw [r2, List.length_take, isort_len, ← HN.out]; omega
      have HF5 := Lib.hid HX.out.2.1
      clear r1 r2 r3 n1 n2 n3
      go_wp2_with (at_builtin; refine Kd.R_append_rows (Kd.raw 9) (Rr := fun x cs => cs = x ∧ cs.length = 9 ∧ ∀ u ∈ cs, u.oneCell' = true) (w0 := w3) w3.heap.size ?k1 ?q1 ?q2 24 32 zed 136 ?k2 Try.underlying24 Srt.info32 ?k5 ?k6 ?k7 u10 rows news A' m c' (fun _ => True) (fun _ => False) ?k3 ?k4 R1.out N2.out (fun _ _ h => h) (fun _ h => h.elim) (fun _ _ => trivial) HF5.out HF5.out.size LN.out ?kg; (case k1 => rfl); (case k2 => rfl); (case k3 => rfl); (case k4 => rfl); (case k5 => rfl); (case k6 => decide); (case k7 => decide))
      intro v1 w6 hr hb hgr hat
      have hx6 : w6.heap[w5.heap.size]? = some (.cells #[.int .i64 1, .int .i64 (z - 1), .int .i64 z2, .int .i64 la] 41 (0, 0)) := by
        refine (hgr.block _ (by simp) (HX.out.2.2)).trans ?_
        show (w5.heap.push _)[w5.heap.size]? = _
        simp
      have c2 := blk_cell hx6 2 (.int .i64 z2) rfl
      have SN : Hid (Seen w3.heap.size w6 v1 ((isort ltM M).take (((i + 1 : Nat) : Int) * s).toNat)) := by
        refine ⟨rows ++ news, hr, ?_, ?_⟩
        · rw [← HPN.out, List.length_append, List.length_append, R2.out, N1.out]
        · intro j x cs hx hcs
          rw [← HPN.out] at hx
          rcases Nat.lt_or_ge j rows.length with h | h
          · rw [List.getElem?_append_left (by rw [← R2.out]; exact h)] at hx
            rw [List.getElem?_append_left h] at hcs
            exact R3.out j x cs hx hcs
          · rw [List.getElem?_append_right (by rw [← R2.out]; exact h), ← R2.out] at hx
            rw [List.getElem?_append_right h] at hcs
            exact N3.out _ x cs hx hcs
      have HB6 := Lib.hid hb
      have HX6 := Lib.hid hx6
      clear hr hb hgr hat LN R1 R2 R3 N1 N2 N3 HF5 HX hx6
      go_wp2_with fail
      have C13 : Calls Try.prog 13 #[.int .i64 n, .int .i64 s, .int .i64 z2] w6 fun e w' => e = .returned (.tuple #[four 1 (z2 - 1) (nextP n s z2) (lastP n s), .int .i64 0]) ∧ Below w6.heap.size w6 w' := by
        by_cases h : z2 = lastP n s
        · exact linksO_2 z2 w6 HA.out (by omega) h
        · exact linksO_1 z2 w6 HA.out (by omega) (by have h9 := HL.out; omega)
      have hzz : z + 1 = z2 := HZ3.out.symm
      rw [← HL.out, show z2 - 1 = z by omega] at C13
      generalize nextP n s z2 = nx at C13
      unfold four at C13
      refine C13.mono ?_
      clear C13
      rintro e w7 ⟨rfl, hb7⟩
      obtain ⟨o7, ho7⟩ : ∃ o7, o7 = Obj.cells #[.int .i64 1, .int .i64 z, .int .i64 nx, .int .i64 la] 41 := ⟨_, rfl⟩
      have hx7 : (w7.alloc o7).heap[w5.heap.size]? = some (.cells #[.int .i64 1, .int .i64 (z - 1), .int .i64 z2, .int .i64 la] 41 (0, 0)) := by
        have h6 : w5.heap.size < w6.heap.size := by
          rcases Nat.lt_or_ge w5.heap.size w6.heap.size with h | h
          · exact h
          · have := HX6.out; rw [Array.getElem?_eq_none h] at this; cases this
        exact (((hb7.alloc hb7.size o7).block _ h6)).trans HX6.out
      rw [ho7] at hx7
      have d0 := blk_cell hx7 0 (.int .i64 1) rfl
      have d1 := blk_cell hx7 1 (.int .i64 (z - 1)) rfl
      have d2 := blk_cell hx7 2 (.int .i64 z2) rfl
      have d3 := blk_cell hx7 3 (.int .i64 la) rfl
      have HB7 : Hid (Seen w3.heap.size (w7.alloc o7) v1 ((isort ltM M).take (((i + 1 : Nat) : Int) * s).toNat) ∧ Below w3.heap.size w3 (w7.alloc o7)) := by
        obtain ⟨rows, q1, q2, q3⟩ := SN.out
        have hb7' := hb7.alloc hb7.size o7
        exact ⟨⟨rows, Kd.R_below q1 hb7', q2, q3⟩, HB6.out.trans (hb7'.mono HB6.out.size)⟩
      rw [ho7] at HB7
      clear hb7 hx7 ho7 HX6 c2
      go_wp2_with fail
      have hkz : i + 1 < la := by have h1 := Hz.out; omega
      go_roundg (la - (i + 1))
      case measure => omega
      case rel => exact ⟨i + 1, z2, rfl, (by have h1 := Hz.out; show _ = _; omega), (by go_num), by omega, Nat.le_refl _, HB7⟩
end Go.Proofs.Ytjbfjgaghjggpaa.Wlk
namespace Go.Proofs.Ytjbfjgaghjggpaa.Pr
open Go.RowKit Go.Proofs.YtjbfjgaghjggpaaW.PrintWords
theorem broadsheetlaw22_PagingWalks.calls (k : Nat) (A0 : Option Addr) (c0 : Nat) (l0 : List (S47)) (a1 : Int) (r : Bool) (w : World) (hr0 : Kd.C k47 w A0 l0.length l0) (hc0 : l0.length ≤ c0) (h : r = true ∧ 0 ≤ a1 ∧ a1 ≤ 255) :
    Calls Try.prog 6 #[.slice A0 l0.length c0, .int .u8 a1] w fun e w' => e = .returned (.bool r) ∧ Below w.heap.size w w' := by
  obtain ⟨rfl, h1, h2⟩ := h
  exact Wlk.walks A0 c0 l0 a1 w hr0 hc0 h1 h2
end Go.Proofs.Ytjbfjgaghjggpaa.Pr
