/- A page of members: what the program and the document's answer tell, both alike. -/
import Derived.Test.YtjbfjgaghjggpaaOrv
import Derived.Test.YtjbfjgaghjggpaaRor
import Derived.Test.YtjbfjgaghjggpaaLnk
set_option linter.unusedVariables false
namespace Go.Proofs.Ytjbfjgaghjggpaa.Gv
open Go.RowKit Go.Sort Go.Proofs.Ytjbfjgaghjggpaa.Mrg Go.Proofs.Ytjbfjgaghjggpaa.Srt Go.Proofs.Ytjbfjgaghjggpaa.Lnk Go.Proofs.Ytjbfjgaghjggpaa.Pr Go.Proofs.YtjbfjgaghjggpaaW.PrintWords Go.Proofs.YtjbfjgaghjggpaaW.PrintMore

theorem rorder (A : Option Addr) (cc : Nat) (cs : List Cel) (w : World) (hr : Kd.C kCel w A cs.length cs) (hl : cs.length ≤ 1034834473200) :
    Calls Try.prog 23 #[.slice A cs.length cc] w fun e w' => ∃ v' : Value, e = .returned v' ∧ Kd.R kCel 32 w' w.heap.size (fun _ => True) v' (isort (ltOf cmpCel) cs) ∧ Below w.heap.size w w' :=
  rorder_v bas Try.func23 (enters_of Try.func28 (by kernel_rfl) rfl) rfl Srt.info32 _ Try.zeroValue32 (fun x y W => Srt.ahead x y W) A cc cs w hr hl

theorem pm_ofK {w : World} (x : S32) (c : List Value) (h : k32.K w x c) : ∃ p : Pm, p.x = x ∧ p.c.enc = c := by
  have h1 := k32.K_one h
  obtain ⟨A6, c6, A7, c7, rfl, _⟩ := k32_open h
  exact ⟨⟨x, ⟨x.f0, x.f1, .string x.f2, .int .i64 x.f3.f0, .string x.f3.f1, .string x.f3.f2, .slice A6 x.f3.f3.length c6, .slice A7 x.f3.f4.length c7, .string x.f3.f5, fun v hv => h1 v (by simp at hv ⊢; exact Or.inr (Or.inr hv))⟩, rfl, rfl⟩, rfl, rfl⟩
/-- Members that are read, each with its cells. -/
theorem reads_cels {w : World} {A : Option Addr} {l0 : List S32} (hC : Kd.C k32 w A l0.length l0) : ∃ Z : List Pm, Z.map (·.x) = l0 ∧ Kd.C kCel w A (Z.map (·.c)).length (Z.map (·.c)) ∧ ∀ z ∈ Z, k32.K w z.x z.c.enc := by
  obtain ⟨news, hnl, hnr, hnf⟩ := Kd.reads_raw hC (fun y c hk => ⟨k32.K_len hk, k32.K_one hk⟩)
  obtain ⟨Z, h1, h2, h3⟩ := pairs_of (fun x c => k32.K w x c) (fun x c h => pm_ofK x c h) l0 news hnl hnf
  subst h1 h2
  refine ⟨Z, rfl, ?_, h3⟩
  have h := cels_read hnr
  rw [List.length_map] at h ⊢
  exact h
theorem cels_members {w : World} {A : Option Addr} {n : Nat} {Z : List Pm} (h : Kd.C kCel w A n (Z.map (·.c))) (h3 : ∀ z ∈ Z, k32.K w z.x z.c.enc) : Kd.C k32 w A n (Z.map (·.x)) := by
  obtain ⟨h1, h2, hc⟩ := h
  refine ⟨by rw [List.length_map] at h1 ⊢; exact h1, h2, fun hn => ?_⟩
  obtain ⟨ad, rfl, hcc⟩ := hc hn
  refine ⟨ad, rfl, fun j p hj => ?_⟩
  rw [List.getElem?_map] at hj
  obtain ⟨z, hz, rfl⟩ := Option.map_eq_some_iff.1 hj
  obtain ⟨c, c1, c2, c3⟩ := hcc j z.c (by rw [List.getElem?_map, hz]; rfl)
  obtain rfl : c = z.c.enc := c2
  exact ⟨z.c.enc, c1, h3 z (List.mem_of_getElem? hz), c3⟩
/-- What both orders come to. -/
def Ordered (w : World) (l0 : List S32) (e : Ending) (w' : World) : Prop := ∃ (A' : Option Addr) (c' : Nat), e = .returned (.slice A' l0.length c') ∧ l0.length ≤ c' ∧ Kd.C k32 w' A' l0.length (isort ltM l0) ∧ Below w.heap.size w w'
theorem ordered_of {w : World} {l0 : List S32} {Z : List Pm} (hZ : Z.map (·.x) = l0) (h3 : ∀ z ∈ Z, k32.K w z.x z.c.enc) (e : Ending) (w' : World)
    (h : ∃ v' : Value, e = .returned v' ∧ Kd.R kCel 32 w' w.heap.size (fun _ => True) v' (isort (ltOf cmpCel) (Z.map (·.c))) ∧ Below w.heap.size w w') : Ordered w l0 e w' := by
  obtain ⟨v', rfl, hR, hb⟩ := h
  obtain ⟨A', c', rfl, hl, hC⟩ := Kd.R_reads hR
  have e1 : isort (ltOf cmpCel) (Z.map (·.c)) = (isort ltP Z).map (·.c) := isort_map (·.c) ltP (ltOf cmpCel) ltP_cel Z
  have e2 : isort ltM l0 = (isort ltP Z).map (·.x) := by rw [← hZ]; exact isort_map (·.x) ltP ltM (fun _ _ => rfl) Z
  have hln : (isort (ltOf cmpCel) (Z.map (·.c))).length = l0.length := by rw [isort_len, List.length_map, ← hZ, List.length_map]
  rw [hln] at hC hl ⊢
  refine ⟨A', c', rfl, hl, ?_, hb⟩
  rw [e1] at hC
  rw [e2]
  exact cels_members hC (fun z hz => k32.K_below hb (h3 z ((isort_mem ltP Z z).1 hz)))
theorem orderC (A : Option Addr) (cc : Nat) (l0 : List S32) (w : World) (hC : Kd.C k32 w A l0.length l0) (hl : l0.length ≤ 1034834473200) : Calls Try.prog 9 #[.slice A l0.length cc] w (Ordered w l0) := by
  obtain ⟨Z, hZ, hc, h3⟩ := reads_cels hC
  have hlen : (Z.map (·.c)).length = l0.length := by rw [← hZ]; simp
  have := order A cc (Z.map (·.c)) w hc (by omega)
  rw [hlen] at this
  exact this.mono (ordered_of hZ h3)
theorem rorderC (A : Option Addr) (cc : Nat) (l0 : List S32) (w : World) (hC : Kd.C k32 w A l0.length l0) (hl : l0.length ≤ 1034834473200) : Calls Try.prog 23 #[.slice A l0.length cc] w (Ordered w l0) := by
  obtain ⟨Z, hZ, hc, h3⟩ := reads_cels hC
  have hlen : (Z.map (·.c)).length = l0.length := by rw [← hZ]; simp
  have := rorder A cc (Z.map (·.c)) w hc (by omega)
  rw [hlen] at this
  exact this.mono (ordered_of hZ h3)

instance : Inhabited S32 := ⟨z32⟩
/-- A page: from lo on, up to hi. -/
def pageOf (l : List S32) (s k : Int) : List S32 := ((isort ltM l).take (min l.length (k * s).toNat)).drop ((k - 1) * s).toNat
theorem page_bd {n : Nat} {s k : Int} (hF : Fit n s) (h1 : 1 ≤ k) (h2 : k ≤ lastP n s) : 0 ≤ (k - 1) * s ∧ (k - 1) * s ≤ n ∧ k * s ≤ n + 100 ∧ (k - 1) * s ≤ k * s ∧ 0 ≤ k * s := by
  obtain ⟨f1, f2, f3, f4⟩ := hF
  have a1 : 0 ≤ (k - 1) * s := Int.mul_nonneg (by omega) (by omega)
  have a2 : k * s = (k - 1) * s + s := by rw [Int.sub_mul]; omega
  have a3 : (k - 1) * s ≤ n := by
    unfold lastP at h2
    split at h2
    · have : k = 1 := by omega
      subst this; simp
    · have : (k - 1) * s ≤ ((n : Int) - 1) / s * s := Int.mul_le_mul_of_nonneg_right (by omega) (by omega)
      have h4 := Int.ediv_mul_le ((n : Int) - 1) (show s ≠ 0 by omega)
      omega
  omega
/-- What both pages come to. -/
def Paged (w : World) (l0 : List S32) (s k : Int) (e : Ending) (w' : World) : Prop := ∃ (A' : Option Addr) (c' : Nat), e = .returned (.tuple #[.slice A' (pageOf l0 s k).length c', .int .i64 0]) ∧ (pageOf l0 s k).length ≤ c' ∧ Kd.C k32 w' A' (pageOf l0 s k).length (pageOf l0 s k) ∧ Below w.heap.size w w'

attribute [local go_sem] max2_int min2_int max_two min_two
set_option maxHeartbeats 2000000 in
theorem pageO (A : Option Addr) (cc : Nat) (l0 : List S32) (s k : Int) (w : World) (hC : Kd.C k32 w A l0.length l0) (hl : l0.length ≤ 1034834473200) (hF : Fit l0.length s) (h1 : 1 ≤ k) (h2 : k ≤ lastP l0.length s) :
    Calls Try.prog 12 #[.slice A l0.length cc, .int .i64 s, .int .i64 k] w (Paged w l0 s k) := by
  have C1 : Calls Try.prog 13 #[.int .i64 (l0.length : Int), .int .i64 s, .int .i64 k] w fun e w' => e = .returned (.tuple #[four 1 (k - 1) (nextP l0.length s k) (lastP l0.length s), .int .i64 0]) ∧ Below w.heap.size w w' := by
    by_cases h : k = lastP l0.length s
    · exact linksO_2 k w hF h1 h
    · exact linksO_1 k w hF h1 (by omega)
  have hbd := page_bd hF h1 h2
  have hkb : k ≤ 9223372036854775807 := by have := lastP_bd hF; omega
  generalize nextP l0.length s k = nx at C1
  generalize lastP l0.length s = la at C1 h2
  have HC := Lib.hid hC
  have HF := Lib.hid hF
  clear hC hF
  obtain ⟨n, hn⟩ : ∃ n, n = l0.length := ⟨_, rfl⟩
  rw [← hn] at C1 hl hbd ⊢
  have HN := Lib.hid hn
  clear hn
  unfold four at C1
  go_enter Try.func12, Try.ntmps12
  go_wp2_with fail
  refine C1.mono ?_
  clear C1
  rintro e w1 ⟨rfl, hb⟩
  have HB := Lib.hid hb
  have hsz := hb.size
  clear hb
  go_wp2_with fail
  have C2 := orderC A cc l0 (w1.alloc (.cells #[.int .i64 1, .int .i64 (k - 1), .int .i64 nx, .int .i64 la] 41)) (Kd.C_below HC.out (HB.out.alloc hsz _)) (by rw [← HN.out]; exact hl)
  rw [← HN.out] at C2
  refine C2.mono ?_
  clear C2
  rintro e w2 ⟨A', c', rfl, hc', hC', hb2⟩
  rw [← HN.out] at hc' hC' ⊢
  obtain ⟨lo, elo⟩ : ∃ lo : Int, (k - 1) * s = lo := ⟨_, rfl⟩
  obtain ⟨hi, ehi⟩ : ∃ hi : Int, k * s = hi := ⟨_, rfl⟩
  rw [elo, ehi] at hbd
  obtain ⟨b1, b2, b3, b4, b5⟩ := hbd
  obtain ⟨i0, hi0, hz0, hz1, hz2⟩ := info_parts Srt.info32
  obtain ⟨A2, hA2⟩ : ∃ A2, A2 = (if c' = lo.toNat then A' else A'.map (·.add (lo.toNat * 9))) := ⟨_, rfl⟩
  have HE : Hid (∀ m : Nat, m = min n hi.toNat → Paged w l0 s k (.returned (.tuple #[.slice A2 (m - lo.toNat) (c' - lo.toNat), .int .i64 0])) w2) := by
    intro m hm
    have hpl : pageOf l0 s k = ((isort ltM l0).take m).drop lo.toNat := by unfold pageOf; rw [elo, ehi, hm, HN.out]
    have hil : (isort ltM l0).length = n := by rw [isort_len, HN.out]
    have hpn : (pageOf l0 s k).length = m - lo.toNat := by rw [hpl, List.length_drop, List.length_take, hil]; omega
    have hC2 : Kd.C k32 w2 A' (isort ltM l0).length (isort ltM l0) := by rw [hil]; exact hC'
    have hm2 := Kd.C_mid (lo := lo.toNat) (hi := m) (c := c') hC2 (by omega) (by omega) (by omega)
    rw [← hpl] at hm2
    refine ⟨A2, c' - lo.toNat, by rw [hpn], by omega, by rw [hA2]; exact hm2, ?_⟩
    exact (HB.out.alloc hsz _).trans (hb2.mono (by simp; omega))
  have HS : ∀ m : Int, lo ≤ m → m ≤ n → ∀ W : World, (Instr.slice 24 (.slice A' n c') (some (.int .i64 lo)) (some (.int .i64 m)) none).run Try.prog W = .ok (.slice A2 (m.toNat - lo.toNat) (c' - lo.toNat)) W := fun m h3 h4 W => by rw [hA2]; exact cut_mid 24 32 .i64 .i64 Try.underlying24 hi0 9 hz1 A' n c' lo m b1 h3 h4 hc' W
  have w1a : IntKind.i64.wrap lo = lo := by rw [IntKind.wrap_i64]; omega
  have w1b : IntKind.i64.wrap hi = hi := by rw [IntKind.wrap_i64]; omega
  clear hC' hb2
  by_cases hlt : hi < (n : Int)
  · have hs := HS hi (by omega) (by omega)
    have hE := HE.out hi.toNat (by omega)
    have HE2 := Lib.hid hE
    clear HS HE hE hi0 hz0 hz1 hz2 hA2
    go_wp2_with fail
    go_ret2
    exact HE2.out
  · have hs := HS n (by omega) (by omega)
    have hE := HE.out n (by omega)
    have HE2 := Lib.hid hE
    clear HS HE hE hi0 hz0 hz1 hz2 hA2
    go_wp2_with fail
    go_ret2
    exact HE2.out
set_option maxHeartbeats 2000000 in
theorem rpageO (A : Option Addr) (cc : Nat) (l0 : List S32) (s k : Int) (w : World) (hC : Kd.C k32 w A l0.length l0) (hl : l0.length ≤ 1034834473200) (hF : Fit l0.length s) (h1 : 1 ≤ k) (h2 : k ≤ lastP l0.length s) :
    Calls Try.prog 21 #[.slice A l0.length cc, .int .i64 s, .int .i64 k] w (Paged w l0 s k) := by
  have C1 := rcountF w hF
  have hbd := page_bd hF h1 h2
  have hkb : k ≤ 9223372036854775807 := by have := lastP_bd hF; omega
  generalize lastP l0.length s = la at C1 h2
  have HC := Lib.hid hC
  have HF := Lib.hid hF
  clear hC hF
  obtain ⟨n, hn⟩ : ∃ n, n = l0.length := ⟨_, rfl⟩
  rw [← hn] at C1 hl hbd ⊢
  have HN := Lib.hid hn
  clear hn
  go_enter Try.func21, Try.ntmps21
  go_wp2_with fail
  refine C1.mono ?_
  clear C1
  rintro e w1 ⟨rfl, hb⟩
  have HB := Lib.hid hb
  have hsz := hb.size
  clear hb
  go_wp2_with fail
  have C2 := rorderC A cc l0 w1 (Kd.C_below HC.out HB.out) (by rw [← HN.out]; exact hl)
  rw [← HN.out] at C2
  refine C2.mono ?_
  clear C2
  rintro e w2 ⟨A', c', rfl, hc', hC', hb2⟩
  rw [← HN.out] at hc' hC' ⊢
  obtain ⟨lo, elo⟩ : ∃ lo : Int, (k - 1) * s = lo := ⟨_, rfl⟩
  obtain ⟨hi, ehi⟩ : ∃ hi : Int, k * s = hi := ⟨_, rfl⟩
  rw [elo, ehi] at hbd
  obtain ⟨b1, b2, b3, b4, b5⟩ := hbd
  obtain ⟨i0, hi0, hz0, hz1, hz2⟩ := info_parts Srt.info32
  obtain ⟨A2, hA2⟩ : ∃ A2, A2 = (if c' = lo.toNat then A' else A'.map (·.add (lo.toNat * 9))) := ⟨_, rfl⟩
  have HE : Hid (∀ m : Nat, m = min n hi.toNat → Paged w l0 s k (.returned (.tuple #[.slice A2 (m - lo.toNat) (c' - lo.toNat), .int .i64 0])) w2) := by
    intro m hm
    have hpl : pageOf l0 s k = ((isort ltM l0).take m).drop lo.toNat := by unfold pageOf; rw [elo, ehi, hm, HN.out]
    have hil : (isort ltM l0).length = n := by rw [isort_len, HN.out]
    have hpn : (pageOf l0 s k).length = m - lo.toNat := by rw [hpl, List.length_drop, List.length_take, hil]; omega
    have hC2 : Kd.C k32 w2 A' (isort ltM l0).length (isort ltM l0) := by rw [hil]; exact hC'
    have hm2 := Kd.C_mid (lo := lo.toNat) (hi := m) (c := c') hC2 (by omega) (by omega) (by omega)
    rw [← hpl] at hm2
    refine ⟨A2, c' - lo.toNat, by rw [hpn], by omega, by rw [hA2]; exact hm2, ?_⟩
    exact HB.out.trans (hb2.mono hsz)
  have HS : ∀ m : Int, lo ≤ m → m ≤ n → ∀ W : World, (Instr.slice 24 (.slice A' n c') (some (.int .i64 lo)) (some (.int .i64 m)) none).run Try.prog W = .ok (.slice A2 (m.toNat - lo.toNat) (c' - lo.toNat)) W := fun m h3 h4 W => by rw [hA2]; exact cut_mid 24 32 .i64 .i64 Try.underlying24 hi0 9 hz1 A' n c' lo m b1 h3 h4 hc' W
  have w1a : IntKind.i64.wrap lo = lo := by rw [IntKind.wrap_i64]; omega
  have w1b : IntKind.i64.wrap hi = hi := by rw [IntKind.wrap_i64]; omega
  clear hC' hb2
  by_cases hlt : hi < (n : Int)
  · have hs := HS hi (by omega) (by omega)
    have hE := HE.out hi.toNat (by omega)
    have HE2 := Lib.hid hE
    clear HS HE hE hi0 hz0 hz1 hz2 hA2
    go_wp2_with fail
    go_ret2
    exact HE2.out
  · have hs := HS n (by omega) (by omega)
    have hE := HE.out n (by omega)
    have HE2 := Lib.hid hE
    clear HS HE hE hi0 hz0 hz1 hz2 hA2
    go_wp2_with fail
    go_ret2
    exact HE2.out
set_option maxHeartbeats 1000000 in
theorem pageB (A : Option Addr) (cc : Nat) (l0 : List S32) (s k : Int) (w : World) (hB : Bad l0.length s) :
    Calls Try.prog 12 #[.slice A l0.length cc, .int .i64 s, .int .i64 k] w fun e w' => e = .returned (.tuple #[.slice none 0 0, .int .i64 1]) ∧ Below w.heap.size w w' := by
  have C1 := linksB (n := l0.length) k w hB
  unfold four at C1
  go_enter Try.func12, Try.ntmps12
  go_wp2_with fail
  refine C1.mono ?_
  clear C1
  rintro e w1 ⟨rfl, hb⟩
  have HB := Lib.hid hb
  have hsz := hb.size
  clear hb
  go_wp2_with fail
  go_ret2
  exact ⟨rfl, HB.out.alloc hsz _⟩

set_option maxHeartbeats 1000000 in
theorem pageN1 (A : Option Addr) (cc : Nat) (l0 : List S32) (s k : Int) (w : World) (hF : Fit l0.length s) (h1 : k < 1) :
    Calls Try.prog 12 #[.slice A l0.length cc, .int .i64 s, .int .i64 k] w fun e w' => e = .returned (.tuple #[.slice none 0 0, .int .i64 10]) ∧ Below w.heap.size w w' := by
  have C1 := linksN_1 k w hF h1
  unfold four at C1
  go_enter Try.func12, Try.ntmps12
  go_wp2_with fail
  refine C1.mono ?_
  clear C1
  rintro e w1 ⟨rfl, hb⟩
  have HB := Lib.hid hb
  have hsz := hb.size
  clear hb
  go_wp2_with fail
  go_ret2
  exact ⟨rfl, HB.out.alloc hsz _⟩

set_option maxHeartbeats 1000000 in
theorem pageN2 (A : Option Addr) (cc : Nat) (l0 : List S32) (s k : Int) (w : World) (hF : Fit l0.length s) (h1 : 1 ≤ k) (h2 : lastP l0.length s < k) :
    Calls Try.prog 12 #[.slice A l0.length cc, .int .i64 s, .int .i64 k] w fun e w' => e = .returned (.tuple #[.slice none 0 0, .int .i64 10]) ∧ Below w.heap.size w w' := by
  have C1 := linksN_2 k w hF h1 h2
  unfold four at C1
  go_enter Try.func12, Try.ntmps12
  go_wp2_with fail
  refine C1.mono ?_
  clear C1
  rintro e w1 ⟨rfl, hb⟩
  have HB := Lib.hid hb
  have hsz := hb.size
  clear hb
  go_wp2_with fail
  go_ret2
  exact ⟨rfl, HB.out.alloc hsz _⟩

set_option maxHeartbeats 1000000 in
theorem rpageB (A : Option Addr) (cc : Nat) (l0 : List S32) (s k : Int) (w : World) (hB : Bad l0.length s) :
    Calls Try.prog 21 #[.slice A l0.length cc, .int .i64 s, .int .i64 k] w fun e w' => e = .returned (.tuple #[.slice none 0 0, .int .i64 1]) ∧ Below w.heap.size w w' := by
  have C1 := rcountB (n := l0.length) w hB
  go_enter Try.func21, Try.ntmps21
  go_wp2_with fail
  refine C1.mono ?_
  clear C1
  rintro e w1 ⟨rfl, hb⟩
  have HB := Lib.hid hb
  have hsz := hb.size
  clear hb
  go_wp2_with fail
  go_ret2
  exact ⟨rfl, HB.out⟩

set_option maxHeartbeats 1000000 in
theorem rpageN1 (A : Option Addr) (cc : Nat) (l0 : List S32) (s k : Int) (w : World) (hF : Fit l0.length s) (h1 : k < 1) :
    Calls Try.prog 21 #[.slice A l0.length cc, .int .i64 s, .int .i64 k] w fun e w' => e = .returned (.tuple #[.slice none 0 0, .int .i64 10]) ∧ Below w.heap.size w w' := by
  have C1 := rcountF w hF
  go_enter Try.func21, Try.ntmps21
  go_wp2_with fail
  refine C1.mono ?_
  clear C1
  rintro e w1 ⟨rfl, hb⟩
  have HB := Lib.hid hb
  have hsz := hb.size
  clear hb
  go_wp2_with fail
  go_ret2
  exact ⟨rfl, HB.out⟩

set_option maxHeartbeats 1000000 in
theorem rpageN2 (A : Option Addr) (cc : Nat) (l0 : List S32) (s k : Int) (w : World) (hF : Fit l0.length s) (h1 : 1 ≤ k) (h2 : lastP l0.length s < k) :
    Calls Try.prog 21 #[.slice A l0.length cc, .int .i64 s, .int .i64 k] w fun e w' => e = .returned (.tuple #[.slice none 0 0, .int .i64 10]) ∧ Below w.heap.size w w' := by
  have C1 := rcountF w hF
  generalize lastP l0.length s = la at *
  go_enter Try.func21, Try.ntmps21
  go_wp2_with fail
  refine C1.mono ?_
  clear C1
  rintro e w1 ⟨rfl, hb⟩
  have HB := Lib.hid hb
  have hsz := hb.size
  clear hb
  go_wp2_with fail
  go_ret2
  exact ⟨rfl, HB.out⟩

end Go.Proofs.Ytjbfjgaghjggpaa.Gv
