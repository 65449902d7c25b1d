/- atom.variants by hand. -/
import Derived.Test.YtcplaafmelcndaaGreatDoorBd1
import Derived.Test.YtcplaafmelcndaaGreatDoorWLast
set_option linter.unusedVariables false
set_option linter.unusedSimpArgs false
set_option maxRecDepth 20000
namespace Go.Proofs.YtcplaafmelcndaaGreatDoor.At
open Go.RowKit Go.Lib Go.Proofs.YtcplaafmelcndaaGreatDoor.Pr Go.Proofs.YtcplaafmelcndaaGreatDoorW.PrintWords Go.Proofs.YtcplaafmelcndaaGreatDoorW.PrintMore Go.Proofs.YtcplaafmelcndaaGreatDoorW.PrintLast
/-- An attribute without a space. -/
def attrV : List S41 → ByteArray → ByteArray × Bool
  | [], _ => (⟨#[]⟩, false)
  | a :: l, name => if a.f0.toList = [] ∧ a.f1.toList = name.toList then (a.f2, true) else attrV l name
def typeB : ByteArray := ⟨#[116, 121, 112, 101]⟩
def langB : ByteArray := ⟨#[104, 114, 101, 102, 108, 97, 110, 103]⟩
def relB : ByteArray := ⟨#[114, 101, 108]⟩
def altB : ByteArray := ⟨#[97, 108, 116, 101, 114, 110, 97, 116, 101]⟩
def relV (l : List S41) : ByteArray := if (attrV l relB).2 = true then (attrV l relB).1 else altB
def isAlt (l : List S41) : Bool := (relV l).toList == altB.toList
abbrev VK := List UInt8 × List UInt8 × Bool × Bool
def encV (k : VK) : Value := .agg #[.string ⟨k.1.toArray⟩, .string ⟨k.2.1.toArray⟩, .bool k.2.2.1, .bool k.2.2.2]
theorem encV_inj {a b : VK} (h : encV a = encV b) : a = b := by
  obtain ⟨a1, a2, a3, a4⟩ := a
  obtain ⟨b1, b2, b3, b4⟩ := b
  simpa [encV] using h
def vkey (x : S25) : VK := ((smallV (attrV x.f3 typeB).1).data.toList, (smallV (attrV x.f3 langB).1).data.toList, (attrV x.f3 typeB).2, (attrV x.f3 langB).2)
theorem encV_vkey (x : S25) : encV (vkey x) = .agg #[.string (smallV (attrV x.f3 typeB).1), .string (smallV (attrV x.f3 langB).1), .bool (attrV x.f3 typeB).2, .bool (attrV x.f3 langB).2] := by
  unfold encV vkey
  simp
def variantsGo : List S25 → List VK → Bool
  | [], _ => true
  | x :: l, ks => if isAlt x.f3 = true then (if vkey x ∈ ks then false else variantsGo l (ks ++ [vkey x])) else variantsGo l ks
def variantsV (l : List S25) : Bool := variantsGo l []
theorem attrV_size (l : List S41) (name : ByteArray) (h : ∀ a ∈ l, a.f0.size ≤ 3000 ∧ a.f1.size ≤ 3000 ∧ a.f2.size ≤ 3000) : (attrV l name).1.size ≤ 3000 := by
  induction l with
  | nil => unfold attrV; decide
  | cons a l ih =>
    unfold attrV
    split
    · exact (h a (List.mem_cons_self ..)).2.2
    · exact ih (fun b hb => h b (List.mem_cons_of_mem _ hb))
/-- What lies below atom.variants. -/
structure LowerV : Prop where
  attr : ∀ (z : Pm) (name : ByteArray) (w : World), k25.K w z.x z.c.enc → Sm z.x → Calls Tryz.prog 43 #[.agg z.c.enc.toArray, .string name] w fun e w' => e = .returned (.tuple #[.string (attrV z.x.f3 name).1, .bool (attrV z.x.f3 name).2]) ∧ Below w.heap.size w w'
  rel : ∀ (z : Pm) (w : World), k25.K w z.x z.c.enc → Sm z.x → Calls Tryz.prog 48 #[.agg z.c.enc.toArray] w fun e w' => e = .returned (.string (relV z.x.f3)) ∧ Below w.heap.size w w'
theorem small_at (s : ByteArray) (hs : s.size ≤ 9000000) (w : World) : Calls Tryz.prog 47 #[.string s] w fun e w' => e = .returned (.string (smallV s)) ∧ Below w.heap.size w w' :=
  media_Small.calls s (smallV s) w (by unfold media_Small.f; rw [if_pos (by omega)])
theorem variantsGo_drop (Z : List Pm) (i : Nat) (h : i < Z.length) (ks : List VK) : variantsGo ((Z.drop i).map (·.x)) ks = if isAlt Z[i].x.f3 = true then (if vkey Z[i].x ∈ ks then false else variantsGo ((Z.drop (i + 1)).map (·.x)) (ks ++ [vkey Z[i].x])) else variantsGo ((Z.drop (i + 1)).map (·.x)) ks := by
  rw [List.drop_eq_getElem_cons h]; rfl
set_option maxHeartbeats 4000000 in
theorem variants_any (L : LowerV) (A : Option Addr) (cc : Nat) (Z : List Pm) (w : World) (hN : Nds w A Z) (hS : ∀ z ∈ Z, Sm z.x) (hl : Z.length ≤ 3000) :
    Calls Tryz.prog 25 #[.slice A Z.length cc] w fun e w' => e = .returned (.bool (variantsV (Z.map (·.x)))) ∧ Below w.heap.size w w' := by
  obtain ⟨ANS, hA⟩ : ∃ a, variantsV (Z.map (·.x)) = a := ⟨_, rfl⟩
  rw [hA]
  have HA := Lib.hid hA
  have HN := Lib.hid hN
  have HS := Lib.hid hS
  have HL := Lib.hid hl
  have HLw := Lib.hid L
  have hmm := @run_makeMap Tryz.prog
  have hlm : (Z.length : Int) < 9223372036854775807 := by omega
  clear hA hN hS hl L
  go_enter Tryz.func25, Tryz.ntmps25
  go_wp2_with fail
  clear hlm hmm
  go_loopg [10] Z.length (fun kx s10 wr => ∃ (i : Nat) (ks : List VK), s10 = .int .i64 (i : Int) ∧ i ≤ Z.length ∧ Z.length - i ≤ kx ∧ Hid (variantsGo ((Z.drop i).map (·.x)) ks = ANS) ∧ Hid (Below w.heap.size w wr ∧ HadM w.heap.size (ks.map encV) wr))
  case atStart => exact ⟨0, [], rfl, by omega, by omega, HA.out, ⟨(Below.refl _ _).alloc (Nat.le_refl _) _, hadM_new w⟩⟩
  case round =>
    obtain ⟨i, ks, rfl, hi, hkx, HQ, HW⟩ := hrel
    by_cases hlt : i < Z.length
    · obtain ⟨ad, ea, hx0, hx1, hx2, hx3, hx4, hx5⟩ := cel_at (xs := Z.map (·.c)) (by rw [List.length_map]; exact (HN.out.below HW.out.1).cels) i (by rw [List.length_map]; exact hlt)
      cases ea
      simp only [List.getElem_map] at hx0 hx1 hx2 hx3 hx4 hx5
      have hst := variantsGo_drop Z i hlt ks
      obtain ⟨z, hz⟩ : ∃ z, z = Z[i] := ⟨_, rfl⟩
      rw [← hz] at hx0 hx1 hx2 hx3 hx4 hx5 hst
      have hzm : z ∈ Z := by rw [hz]; exact List.getElem_mem hlt
      have hzk := (HN.out.below HW.out.1).node z hzm
      have HZS := Lib.hid (HS.out z hzm)
      have HZK := Lib.hid hzk
      have HST := Lib.hid hst
      have HI := Lib.hid (And.intro hlt hkx)
      have p1 : decide ((0 : Int) ≤ (i : Int)) = true := decide_eq_true (by omega)
      have q1 : decide ((i : Int) < (Z.length : Int)) = true := decide_eq_true (by omega)
      have p2 := eq_true (show (0 : Int) ≤ (i : Int) by omega)
      have q2 := eq_true (show (i : Int) < (Z.length : Int) by omega)
      clear hst hi hkx hlt hz hzm hzk
      obtain ⟨W2, hW2⟩ : ∃ W2, W2 = (wr.alloc (.cells #[.int .i64 z.c.f0, .string z.c.f1, .string z.c.f2, .slice z.c.A3 z.c.n3 z.c.c3, .slice z.c.A4 z.c.n4 z.c.c4, .string z.c.f5] 25)).alloc (.cells #[.string ⟨#[]⟩, .string ⟨#[]⟩, .bool false, .bool false] 80) := ⟨_, rfl⟩
      have hB2 : Below wr.heap.size wr W2 := by rw [hW2]; exact ((Below.refl _ _).alloc (Nat.le_refl _) _).alloc (by simp) _
      have hs2 : W2.heap.size = wr.heap.size + 2 := by rw [hW2]; simp
      have hn1 : W2.heap[wr.heap.size]? = some (.cells #[.int .i64 z.c.f0, .string z.c.f1, .string z.c.f2, .slice z.c.A3 z.c.n3 z.c.c3, .slice z.c.A4 z.c.n4 z.c.c4, .string z.c.f5] 25 (0, 0)) := by rw [hW2]; exact blk_alloc (heap_alloc_new wr _) _
      have hn2 : W2.heap[wr.heap.size + 1]? = some (.cells #[.string ⟨#[]⟩, .string ⟨#[]⟩, .bool false, .bool false] 80 (0, 0)) := by
        have h6 := heap_alloc_new (wr.alloc (.cells #[.int .i64 z.c.f0, .string z.c.f1, .string z.c.f2, .slice z.c.A3 z.c.n3 z.c.c3, .slice z.c.A4 z.c.n4 z.c.c4, .string z.c.f5] 25)) (.cells #[.string ⟨#[]⟩, .string ⟨#[]⟩, .bool false, .bool false] 80)
        rw [hW2]
        rwa [show (wr.alloc (.cells #[.int .i64 z.c.f0, .string z.c.f1, .string z.c.f2, .slice z.c.A3 z.c.n3 z.c.c3, .slice z.c.A4 z.c.n4 z.c.c4, .string z.c.f5] 25)).heap.size = wr.heap.size + 1 from Array.size_push _] at h6
      have HW2 := Lib.hid hW2
      have HB2 := Lib.hid hB2
      have HS2 := Lib.hid hs2
      have HN1 := Lib.hid hn1
      have HN2 := Lib.hid hn2
      have HC1 := Lib.hid (HLw.out.attr z typeB W2 (k25.K_below hB2 HZK.out) HZS.out)
      clear hW2 hB2 hs2 hn1 hn2
      obtain ⟨ty, hty⟩ : ∃ t, t = attrV z.x.f3 typeB := ⟨_, rfl⟩
      have hC1 : Calls Tryz.prog 43 #[.agg #[.int .i64 z.c.f0, .string z.c.f1, .string z.c.f2, .slice z.c.A3 z.c.n3 z.c.c3, .slice z.c.A4 z.c.n4 z.c.c4, .string z.c.f5], .string ⟨#[116, 121, 112, 101]⟩] W2 fun e w' => e = .returned (.tuple #[.string ty.1, .bool ty.2]) ∧ Below W2.heap.size W2 w' := by rw [hty]; exact HC1.out
      have HC1 := Lib.hid hC1
      have HTY := Lib.hid hty
      clear hty hC1
      go_wp2_with (first | (go_at_call 43; rw [← HW2.out]; refine HC1.out.mono ?_))
      rintro e w3 ⟨rfl, hb3⟩
      have HB3 := Lib.hid (HB2.out.trans (hb3.mono HB2.out.size))
      have hm1 := blk_below HN1.out hb3
      have hm2 := blk_below HN2.out hb3
      have HM1 := Lib.hid hm1
      have HM2 := Lib.hid hm2
      have HSZ3 := Lib.hid (show wr.heap.size + 2 ≤ w3.heap.size by have := hb3.size; have := HS2.out; omega)
      obtain ⟨k0, k1, k2, k3, k4, k5⟩ := box6 hm1
      have c0 := (blk_cell hm2 0).trans rfl
      have c1 := (blk_cell hm2 1).trans rfl
      have c2 := (blk_cell hm2 2).trans rfl
      have c3 := (blk_cell hm2 3).trans rfl
      have f0 := blk_frozen hm2 0
      have f1 := blk_frozen hm2 1
      have f2 := blk_frozen hm2 2
      have f3 := blk_frozen hm2 3
      clear hm1 hm2 hb3
      obtain ⟨W4, hW4⟩ : ∃ W4, W4 = (w3.setCell ⟨wr.heap.size + 1, 0, none⟩ (.string ty.1)).setCell ⟨wr.heap.size + 1, 2, none⟩ (.bool ty.2) := ⟨_, rfl⟩
      have hn1 : W4.heap[wr.heap.size]? = some (.cells #[.int .i64 z.c.f0, .string z.c.f1, .string z.c.f2, .slice z.c.A3 z.c.n3 z.c.c3, .slice z.c.A4 z.c.n4 z.c.c4, .string z.c.f5] 25 (0, 0)) := by rw [hW4]; exact (Below.heap_setCell _ _ _ _ (by simp)).trans ((Below.heap_setCell _ _ _ _ (by simp)).trans HM1.out)
      have hn2 : W4.heap[wr.heap.size + 1]? = some (.cells #[.string ty.1, .string ⟨#[]⟩, .bool ty.2, .bool false] 80 (0, 0)) := by rw [hW4]; exact blk_put (cs := #[.string ty.1, .string ⟨#[]⟩, .bool false, .bool false]) (blk_put (cs := #[.string ⟨#[]⟩, .string ⟨#[]⟩, .bool false, .bool false]) HM2.out 0 _ rfl) 2 _ rfl
      have hB4 : Below wr.heap.size wr W4 := by rw [hW4]; exact (HB3.out.setCell (by show wr.heap.size ≤ wr.heap.size + 1; omega) _).setCell (by show wr.heap.size ≤ wr.heap.size + 1; omega) _
      have hs4 : W4.heap.size = w3.heap.size := by rw [hW4]; simp [World.setCell]
      have hC2 := HLw.out.attr z langB W4 (k25.K_below hB4 HZK.out) HZS.out
      obtain ⟨la, hla⟩ : ∃ t, t = attrV z.x.f3 langB := ⟨_, rfl⟩
      rw [← hla] at hC2
      have hC2' : Calls Tryz.prog 43 #[.agg #[.int .i64 z.c.f0, .string z.c.f1, .string z.c.f2, .slice z.c.A3 z.c.n3 z.c.c3, .slice z.c.A4 z.c.n4 z.c.c4, .string z.c.f5], .string ⟨#[104, 114, 101, 102, 108, 97, 110, 103]⟩] W4 fun e w' => e = .returned (.tuple #[.string la.1, .bool la.2]) ∧ Below W4.heap.size W4 w' := hC2
      have HC2 := Lib.hid hC2'
      have HLA := Lib.hid hla
      have HW4 := Lib.hid hW4
      have HN14 := Lib.hid hn1
      have HN24 := Lib.hid hn2
      have HB4 := Lib.hid hB4
      have HS4 := Lib.hid hs4
      clear hW4 hn1 hn2 hB4 hs4 hC2 hC2' hla
      go_wp2_with (first | (go_at_call 43; rw [← HW4.out]; refine HC2.out.mono ?_))
      rintro e w5 ⟨rfl, hb5⟩
      have HB5 := Lib.hid (HB4.out.trans (hb5.mono HB4.out.size))
      have hm1 := blk_below HN14.out hb5
      have hm2 := blk_below HN24.out hb5
      have HM15 := Lib.hid hm1
      have HM25 := Lib.hid hm2
      have HSZ5 := Lib.hid (show wr.heap.size + 2 ≤ w5.heap.size by have := hb5.size; have := HS4.out; have := HSZ3.out; omega)
      clear k0 k1 k2 k3 k4 k5 c0 c1 c2 c3 f0 f1 f2 f3
      have c0 := (blk_cell hm2 0).trans rfl
      have c1 := (blk_cell hm2 1).trans rfl
      have c2 := (blk_cell hm2 2).trans rfl
      have c3 := (blk_cell hm2 3).trans rfl
      have f0 := blk_frozen hm2 0
      have f1 := blk_frozen hm2 1
      have f2 := blk_frozen hm2 2
      have f3 := blk_frozen hm2 3
      clear hm1 hm2 hb5
      go_wp2_with fail
      clear c0 c1 c2 c3 f0 f1 f2 f3
      have hn1 : ((w5.setCell ⟨wr.heap.size + 1, 1, none⟩ (.string la.1)).setCell ⟨wr.heap.size + 1, 3, none⟩ (.bool la.2)).heap[wr.heap.size]? = some (.cells #[.int .i64 z.c.f0, .string z.c.f1, .string z.c.f2, .slice z.c.A3 z.c.n3 z.c.c3, .slice z.c.A4 z.c.n4 z.c.c4, .string z.c.f5] 25 (0, 0)) := (Below.heap_setCell _ _ _ _ (by simp)).trans ((Below.heap_setCell _ _ _ _ (by simp)).trans HM15.out)
      have hn2 : ((w5.setCell ⟨wr.heap.size + 1, 1, none⟩ (.string la.1)).setCell ⟨wr.heap.size + 1, 3, none⟩ (.bool la.2)).heap[wr.heap.size + 1]? = some (.cells #[.string ty.1, .string la.1, .bool ty.2, .bool la.2] 80 (0, 0)) := blk_put (cs := #[.string ty.1, .string la.1, .bool ty.2, .bool false]) (blk_put (cs := #[.string ty.1, .string ⟨#[]⟩, .bool ty.2, .bool false]) HM25.out 1 _ rfl) 3 _ rfl
      have hB6 : Below wr.heap.size wr ((w5.setCell ⟨wr.heap.size + 1, 1, none⟩ (.string la.1)).setCell ⟨wr.heap.size + 1, 3, none⟩ (.bool la.2)) := (HB5.out.setCell (by show wr.heap.size ≤ wr.heap.size + 1; omega) _).setCell (by show wr.heap.size ≤ wr.heap.size + 1; omega) _
      have hs6 : wr.heap.size + 2 ≤ ((w5.setCell ⟨wr.heap.size + 1, 1, none⟩ (.string la.1)).setCell ⟨wr.heap.size + 1, 3, none⟩ (.bool la.2)).heap.size := by simp [World.setCell]; exact HSZ5.out
      generalize ((w5.setCell ⟨wr.heap.size + 1, 1, none⟩ (.string la.1)).setCell ⟨wr.heap.size + 1, 3, none⟩ (.bool la.2)) = W6 at hn1 hn2 hB6 hs6 ⊢
      replace hn1 := blk_drew hn1
      replace hn2 := blk_drew hn2
      replace hB6 := hB6.drew
      replace hs6 : wr.heap.size + 2 ≤ W6.drew.heap.size := hs6
      refine start_ (n := 10) (S := fun w' => w'.cell? ⟨wr.heap.size + 1, 0, none⟩ = some (.string ty.1) ∧ w'.cell? ⟨wr.heap.size + 1, 1, none⟩ = some (.string la.1)) (ds := [7, 9]) #[false, false, false, false, false, false, false, false, false, false] (by kernel_rfl) rfl rfl ⟨(blk_cell hn2 0).trans rfl, (blk_cell hn2 1).trans rfl⟩ (fun hHeld => ?_)
      generalize W6.drew = W7 at hn1 hn2 hB6 hs6 hHeld ⊢
      have HN16 := Lib.hid hn1
      have HN26 := Lib.hid hn2
      have HB6 := Lib.hid hB6
      have HS6 := Lib.hid hs6
      clear hn1 hn2 hB6 hs6
      refine pure_ (i := 0) (N := some 28) (v := ?_) (a' := ?_) #[true, false, false, false, false, false, false, false, false, false] rfl rfl (by kernel_rfl) (fun _ _ _ h => h) (Or.inl ⟨by rfl, ?_⟩) ?_ ?_
      rotate_left
      · intro w'
        go_simp
        with_reducible rfl
      rotate_left
      · simp only [Act.put, List.setIfInBounds_toArray, List.set_cons_zero, List.set_cons_succ, i64_w, i32_w]
        rfl
      refine pure_ (i := 3) (N := some 31) (v := ?_) (a' := ?_) #[true, false, false, true, false, false, false, false, false, false] rfl rfl (by kernel_rfl) (fun _ _ _ h => h) (Or.inl ⟨by rfl, ?_⟩) ?_ ?_
      rotate_left
      · intro w'
        go_simp
        with_reducible rfl
      rotate_left
      · simp only [Act.put, List.setIfInBounds_toArray, List.set_cons_zero, List.set_cons_succ, i64_w, i32_w]
        rfl
      refine take_ (i := 1) (N := some 29) (v := ?_) (a' := ?_) #[true, true, false, true, false, false, false, false, false, false] rfl rfl (by kernel_rfl) (fun _ _ _ h => h) (Or.inl ⟨by rfl, ?_⟩) hHeld ?_ ?_
      rotate_left
      · rintro w' ⟨s0, s1⟩
        go_simp
        with_reducible rfl
      rotate_left
      · simp only [Act.put, List.setIfInBounds_toArray, List.set_cons_zero, List.set_cons_succ, i64_w, i32_w]
        rfl
      refine take_ (i := 4) (N := some 32) (v := ?_) (a' := ?_) #[true, true, false, true, true, false, false, false, false, false] rfl rfl (by kernel_rfl) (fun _ _ _ h => h) (Or.inl ⟨by rfl, ?_⟩) hHeld ?_ ?_
      rotate_left
      · rintro w' ⟨s0, s1⟩
        go_simp
        with_reducible rfl
      rotate_left
      · simp only [Act.put, List.setIfInBounds_toArray, List.set_cons_zero, List.set_cons_succ, i64_w, i32_w]
        rfl
      refine one_ (i := 2) (N := some 30) #[true, true, true, true, true, false, false, false, false, false] rfl rfl (by kernel_rfl) (by decide) (fun K hK => ?_)
      refine goes_ Tryz.func47 (by kernel_rfl) rfl #[.string ty.1] (by rfl) rfl rfl (by (try simp only [List.map_toArray, List.map_cons, List.map_nil]); first | done | rfl) ?_
      refine (small_at ty.1 (by rw [HTY.out]; have := attrV_size z.x.f3 typeB HZS.out.attrs; omega) _).mono ?_
      rintro e w8 ⟨rfl, hb8⟩
      refine ⟨_, rfl, ?_⟩
      have HB8 := Lib.hid (HB6.out.trans (hb8.mono HB6.out.size))
      have HN18 := Lib.hid (blk_below HN16.out hb8)
      have HN28 := Lib.hid (blk_below HN26.out hb8)
      have HS8 := Lib.hid (Nat.le_trans HS6.out hb8.size)
      clear hb8
      refine hK.out _ _ ⟨(blk_cell HN28.out 0).trans rfl, (blk_cell HN28.out 1).trans rfl⟩ (fun hHeld => ?_)
      clear hK K
      refine norm_ (a' := ?_) ?_ ?_
      rotate_left
      · show Act.put _ (some 30) _ = _
        simp only [Act.put, List.setIfInBounds_toArray, List.set_cons_zero, List.set_cons_succ, i64_w, i32_w]
        rfl
      refine pure_ (i := 6) (N := some 34) (v := ?_) (a' := ?_) #[true, true, true, true, true, false, true, false, false, false] rfl rfl (by kernel_rfl) (fun _ _ _ h => h) (Or.inl ⟨by rfl, ?_⟩) ?_ ?_
      rotate_left
      · intro w'
        go_simp
        with_reducible rfl
      rotate_left
      · simp only [Act.put, List.setIfInBounds_toArray, List.set_cons_zero, List.set_cons_succ, i64_w, i32_w]
        rfl
      refine one_ (i := 5) (N := some 33) #[true, true, true, true, true, true, true, false, false, false] rfl rfl (by kernel_rfl) (by decide) (fun K hK => ?_)
      refine goes_ Tryz.func47 (by kernel_rfl) rfl #[.string la.1] (by rfl) rfl rfl (by (try simp only [List.map_toArray, List.map_cons, List.map_nil]); first | done | rfl) ?_
      refine (small_at la.1 (by rw [HLA.out]; have := attrV_size z.x.f3 langB HZS.out.attrs; omega) _).mono ?_
      rintro e w9 ⟨rfl, hb9⟩
      refine ⟨_, rfl, ?_⟩
      have HB9 := Lib.hid (HB8.out.trans (hb9.mono HB8.out.size))
      have HN19 := Lib.hid (blk_below HN18.out hb9)
      have HN29 := Lib.hid (blk_below HN28.out hb9)
      have HS9 := Lib.hid (Nat.le_trans HS8.out hb9.size)
      clear hb9
      refine hK.out _ _ ⟨(blk_cell HN29.out 0).trans rfl, (blk_cell HN29.out 1).trans rfl⟩ (fun hHeld => ?_)
      clear hK K
      refine norm_ (a' := ?_) ?_ ?_
      rotate_left
      · show Act.put _ (some 33) _ = _
        simp only [Act.put, List.setIfInBounds_toArray, List.set_cons_zero, List.set_cons_succ, i64_w, i32_w]
        rfl
      have c0 : w9.cell? ⟨wr.heap.size + 1, 0, none⟩ = some (.string ty.1) := (blk_cell HN29.out 0).trans rfl
      have f0 := blk_frozen HN29.out 0
      refine last_ (i := 7) (N := none) #[true, true, true, true, true, true, true, true, false, false] rfl rfl (by kernel_rfl) (by decide) (fun K hK => ?_)
      refine skip_ (w1 := ?_) (by rfl) rfl ?_ ?_
      rotate_left
      · go_simp
        rfl
      refine hK.out _ _ ?_
      clear hK K c0 f0
      refine pure_ (i := 8) (N := some 35) (v := ?_) (a' := ?_) #[true, true, true, true, true, true, true, true, true, false] rfl rfl (by kernel_rfl) (fun _ _ _ h => h) (Or.inl ⟨by rfl, ?_⟩) ?_ ?_
      rotate_left
      · intro w'
        go_simp
        with_reducible rfl
      rotate_left
      · simp only [Act.put, List.setIfInBounds_toArray, List.set_cons_zero, List.set_cons_succ, i64_w, i32_w]
        rfl
      have hn3 : (w9.setCell ⟨wr.heap.size + 1, 0, none⟩ (.string (smallV ty.1))).heap[wr.heap.size + 1]? = some (.cells #[.string (smallV ty.1), .string la.1, .bool ty.2, .bool la.2] 80 (0, 0)) := blk_put (cs := #[.string ty.1, .string la.1, .bool ty.2, .bool la.2]) HN29.out 0 _ rfl
      have c1 : (w9.setCell ⟨wr.heap.size + 1, 0, none⟩ (.string (smallV ty.1))).cell? ⟨wr.heap.size + 1, 1, none⟩ = some (.string la.1) := (blk_cell hn3 1).trans rfl
      have f1 := blk_frozen hn3 1
      have HN3 := Lib.hid hn3
      clear hn3
      refine last_ (i := 9) (N := none) #[true, true, true, true, true, true, true, true, true, true] rfl rfl (by kernel_rfl) (by decide) (fun K hK => ?_)
      refine skip_ (w1 := ?_) (by rfl) rfl ?_ ?_
      rotate_left
      · go_simp
        rfl
      refine hK.out _ _ ?_
      clear hK K c1 f1
      refine done_ (by kernel_rfl) ?_
      have hn1 : ((w9.setCell ⟨wr.heap.size + 1, 0, none⟩ (.string (smallV ty.1))).setCell ⟨wr.heap.size + 1, 1, none⟩ (.string (smallV la.1))).heap[wr.heap.size]? = some (.cells #[.int .i64 z.c.f0, .string z.c.f1, .string z.c.f2, .slice z.c.A3 z.c.n3 z.c.c3, .slice z.c.A4 z.c.n4 z.c.c4, .string z.c.f5] 25 (0, 0)) := (Below.heap_setCell _ _ _ _ (by simp)).trans ((Below.heap_setCell _ _ _ _ (by simp)).trans HN19.out)
      have hn2 : ((w9.setCell ⟨wr.heap.size + 1, 0, none⟩ (.string (smallV ty.1))).setCell ⟨wr.heap.size + 1, 1, none⟩ (.string (smallV la.1))).heap[wr.heap.size + 1]? = some (.cells #[.string (smallV ty.1), .string (smallV la.1), .bool ty.2, .bool la.2] 80 (0, 0)) := blk_put (cs := #[.string (smallV ty.1), .string la.1, .bool ty.2, .bool la.2]) HN3.out 1 _ rfl
      have hB10 : Below wr.heap.size wr ((w9.setCell ⟨wr.heap.size + 1, 0, none⟩ (.string (smallV ty.1))).setCell ⟨wr.heap.size + 1, 1, none⟩ (.string (smallV la.1))) := (HB9.out.setCell (by show wr.heap.size ≤ wr.heap.size + 1; omega) _).setCell (by show wr.heap.size ≤ wr.heap.size + 1; omega) _
      have hs10 : wr.heap.size + 2 ≤ ((w9.setCell ⟨wr.heap.size + 1, 0, none⟩ (.string (smallV ty.1))).setCell ⟨wr.heap.size + 1, 1, none⟩ (.string (smallV la.1))).heap.size := by simp [World.setCell]; exact HS9.out
      generalize ((w9.setCell ⟨wr.heap.size + 1, 0, none⟩ (.string (smallV ty.1))).setCell ⟨wr.heap.size + 1, 1, none⟩ (.string (smallV la.1))) = W10 at hn1 hn2 hB10 hs10 ⊢
      have hC3 := HLw.out.rel z W10 (k25.K_below hB10 HZK.out) HZS.out
      obtain ⟨rv, hrv⟩ : ∃ t, t = relV z.x.f3 := ⟨_, rfl⟩
      rw [← hrv] at hC3
      have hC3' : Calls Tryz.prog 48 #[.agg #[.int .i64 z.c.f0, .string z.c.f1, .string z.c.f2, .slice z.c.A3 z.c.n3 z.c.c3, .slice z.c.A4 z.c.n4 z.c.c4, .string z.c.f5]] W10 fun e w' => e = .returned (.string rv) ∧ Below W10.heap.size W10 w' := hC3
      have hia : isAlt z.x.f3 = (rv.toList == altB.toList) := by unfold isAlt; rw [hrv]
      have hab : altB.toList = [97, 108, 116, 101, 114, 110, 97, 116, 101] := by rw [ByteArray.toList_eq]; rfl
      rw [hab] at hia
      obtain ⟨k0, k1, k2, k3, k4, k5⟩ := box6 hn1
      have hkey : encV (vkey z.x) = .agg #[.string (smallV ty.1), .string (smallV la.1), .bool ty.2, .bool la.2] := by rw [encV_vkey, HTY.out, HLA.out]
      have hisk : IsK (.agg #[.string (smallV ty.1), .string (smallV la.1), .bool ty.2, .bool la.2]) := key80 _ _ _ _ (by rw [small_size, HTY.out]; have := attrV_size z.x.f3 typeB HZS.out.attrs; omega) (by rw [small_size, HLA.out]; have := attrV_size z.x.f3 langB HZS.out.attrs; omega)
      have HC3 := Lib.hid hC3'
      have HIA := Lib.hid hia
      have HKEY := Lib.hid hkey
      have HISK := Lib.hid hisk
      have HN10 := Lib.hid hn2
      have HB10 := Lib.hid hB10
      have HS10 := Lib.hid hs10
      clear hC3 hC3' hia hkey hisk hn1 hn2 hB10 hs10 hrv hab
      by_cases hal : rv.toList = [97, 108, 116, 101, 114, 110, 97, 116, 101]
      · have g1 := eq_true hal
        have g2 : (rv.toList == [97, 108, 116, 101, 114, 110, 97, 116, 101]) = true := by simp [hal]
        have g3 : (rv.toList != [97, 108, 116, 101, 114, 110, 97, 116, 101]) = false := by simp [hal]
        have hq := HQ.out
        rw [HST.out, if_pos (by rw [HIA.out, g2])] at hq
        have HQ2 := Lib.hid hq
        clear hq hal
        go_wp2_with (first | (go_at_call 48; refine HC3.out.mono ?_))
        rintro e w11 ⟨rfl, hb11⟩
        have HB11 := Lib.hid (HB10.out.trans (hb11.mono HB10.out.size))
        have HN11 := Lib.hid (blk_below HN10.out hb11)
        have HS11 := Lib.hid (Nat.le_trans HS10.out hb11.size)
        clear hb11 k0 k1 k2 k3 k4 k5
        go_wp2_with fail
        clear g1 g2 g3
        have hn2 := blk_drew HN11.out
        have hB12 := HB11.out.drew
        have hs12 : wr.heap.size + 2 ≤ w11.drew.heap.size := HS11.out
        have hhad : HadM w.heap.size (ks.map encV) w11.drew := HW.out.2.keep (hB12.block _ HW.out.2.lt)
        have hlt0 := HW.out.2.lt
        by_cases hmem : vkey z.x ∈ ks
        · have hq := HQ2.out
          rw [if_pos hmem] at hq
          have HQ3 := Lib.hid hq
          have hmk : (Value.agg #[.string (smallV ty.1), .string (smallV la.1), .bool ty.2, .bool la.2]) ∈ ks.map encV := by rw [← HKEY.out]; exact List.mem_map.2 ⟨_, hmem, rfl⟩
          obtain ⟨hl0, st, o1, hme, hl1, hst2⟩ := had_old hhad HISK.out hmk
          have HL1 := Lib.hid hl1
          have HST2 := Lib.hid hst2
          have HHAD := Lib.hid hhad
          have HLT0 := Lib.hid hlt0
          clear hq hmk hl1 hst2 hhad hmem hlt0
          refine start_ (n := 7) (S := fun w' => w'.cell? ⟨wr.heap.size + 1, 0, none⟩ = some (.string (smallV ty.1)) ∧ w'.cell? ⟨wr.heap.size + 1, 1, none⟩ = some (.string (smallV la.1)) ∧ w'.cell? ⟨wr.heap.size + 1, 2, none⟩ = some (.bool ty.2) ∧ w'.cell? ⟨wr.heap.size + 1, 3, none⟩ = some (.bool la.2) ∧ (Instr.lookup 78 (.map (some w.heap.size)) (.agg #[.string (smallV ty.1), .string (smallV la.1), .bool ty.2, .bool la.2]) false).run Tryz.prog w' = .ok (.int .i64 1) w') (ds := [6]) #[false, false, false, false, false, false, false] (by kernel_rfl) rfl rfl ⟨(blk_cell hn2 0).trans rfl, (blk_cell hn2 1).trans rfl, (blk_cell hn2 2).trans rfl, (blk_cell hn2 3).trans rfl, hl0⟩ (fun hHeld => ?_)
          generalize w11.drew = W12 at hn2 hB12 hs12 hme hl0 HHAD hHeld ⊢
          have HN12 := Lib.hid hn2
          have HB12 := Lib.hid hB12
          have HS12 := Lib.hid hs12
          have HME := Lib.hid hme
          clear hn2 hB12 hs12 hl0 hme
          refine pure_ (i := 0) (N := some 39) (v := ?_) (a' := ?_) #[true, false, false, false, false, false, false] rfl rfl (by kernel_rfl) (fun _ _ _ h => h) (Or.inl ⟨by rfl, ?_⟩) ?_ ?_
          rotate_left
          · intro w'
            go_simp
            with_reducible rfl
          rotate_left
          · simp only [Act.put, List.setIfInBounds_toArray, List.set_cons_zero, List.set_cons_succ, i64_w, i32_w]
            rfl
          refine take_ (i := 1) (N := some 40) (v := ?_) (a' := ?_) #[true, true, false, false, false, false, false] rfl rfl (by kernel_rfl) (fun _ _ _ h => h) (Or.inl ⟨by rfl, ?_⟩) hHeld ?_ ?_
          rotate_left
          · rintro w' ⟨s0, s1, s2, s3, s4⟩
            go_simp
            with_reducible rfl
          rotate_left
          · simp only [Act.put, List.setIfInBounds_toArray, List.set_cons_zero, List.set_cons_succ, i64_w, i32_w]
            rfl
          refine take_ (i := 2) (N := some 41) (v := ?_) (a' := ?_) #[true, true, true, false, false, false, false] rfl rfl (by kernel_rfl) (fun _ _ _ h => h) (Or.inl ⟨by rfl, ?_⟩) hHeld ?_ ?_
          rotate_left
          · rintro w' ⟨s0, s1, s2, s3, s4⟩
            go_simp
            with_reducible rfl
          rotate_left
          · simp only [Act.put, List.setIfInBounds_toArray, List.set_cons_zero, List.set_cons_succ, i64_w, i32_w]
            rfl
          refine pure_ (i := 3) (N := some 42) (v := ?_) (a' := ?_) #[true, true, true, true, false, false, false] rfl rfl (by kernel_rfl) (fun _ _ _ h => h) (Or.inl ⟨by rfl, ?_⟩) ?_ ?_
          rotate_left
          · intro w'
            go_simp
            with_reducible rfl
          rotate_left
          · simp only [Act.put, List.setIfInBounds_toArray, List.set_cons_zero, List.set_cons_succ, i64_w, i32_w]
            rfl
          have hme := HME.out
          refine one_ (i := 4) (N := some 43) #[true, true, true, true, true, false, false] rfl rfl (by kernel_rfl) (by decide) (fun K hK => ?_)
          refine value_ (w1 := Go.ChangeMaps.setBlock W12 w.heap.size o1) (v := .tuple #[.int .i64 1, .int .i64 st]) (by rfl) rfl ?_ ?_
          · go_simp
          have hn4 : (Go.ChangeMaps.setBlock W12 w.heap.size o1).heap[wr.heap.size + 1]? = some (.cells #[.string (smallV ty.1), .string (smallV la.1), .bool ty.2, .bool la.2] 80 (0, 0)) := (Go.ChangeMaps.heap_setBlock_other (Classical.choose_spec (Classical.choose_spec HHAD.out)).1 _ (by have := HLT0.out; omega)).trans HN12.out
          have HN4 := Lib.hid hn4
          clear hn4
          clear hme
          refine hK.out _ _ ⟨(blk_cell HN4.out 0).trans rfl, (blk_cell HN4.out 1).trans rfl, (blk_cell HN4.out 2).trans rfl, (blk_cell HN4.out 3).trans rfl, HL1.out _ (Go.ChangeMaps.heap_setBlock_same (Classical.choose_spec (Classical.choose_spec HHAD.out)).1 _)⟩ (fun hHeld => ?_)
          clear hK K
          refine norm_ (a' := ?_) ?_ ?_
          rotate_left
          · show Act.put _ (some 43) _ = _
            simp only [Act.put, List.setIfInBounds_toArray, List.set_cons_zero, List.set_cons_succ, i64_w, i32_w]
            rfl
          refine pure_ (i := 5) (N := some 44) (v := ?_) (a' := ?_) #[true, true, true, true, true, true, false] rfl rfl (by kernel_rfl) (fun _ _ _ h => h) (Or.inl ⟨by rfl, ?_⟩) ?_ ?_
          rotate_left
          · intro w'
            go_simp
            with_reducible rfl
          rotate_left
          · simp only [Act.put, List.setIfInBounds_toArray, List.set_cons_zero, List.set_cons_succ, i64_w, i32_w]
            rfl
          obtain ⟨o2, hes, haft⟩ := HST2.out _ (Go.ChangeMaps.heap_setBlock_same (Classical.choose_spec (Classical.choose_spec HHAD.out)).1 _)
          have HAFT := Lib.hid haft
          clear haft
          rw [show (2 : Int) = wrap64 2 from (Go.IntWalk.wrap64_in _ (by omega)).symm] at hes
          refine last_ (i := 6) (N := none) #[true, true, true, true, true, true, true] rfl rfl (by kernel_rfl) (by decide) (fun K hK => ?_)
          refine skip_ (w1 := Go.ChangeMaps.setBlock (Go.ChangeMaps.setBlock W12 w.heap.size o1) w.heap.size o2) (by rfl) rfl ?_ ?_
          · go_simp
          refine hK.out _ _ ?_
          clear hK K hes
          refine done_ (by kernel_rfl) ?_
          have hn5 : (Go.ChangeMaps.setBlock (Go.ChangeMaps.setBlock W12 w.heap.size o1) w.heap.size o2).heap[wr.heap.size + 1]? = some (.cells #[.string (smallV ty.1), .string (smallV la.1), .bool ty.2, .bool la.2] 80 (0, 0)) := (sb_other _ () (by have := HLT0.out; omega)).trans HN4.out
          have haf := HAFT.out _ (sb_same (Go.ChangeMaps.heap_setBlock_same (Classical.choose_spec (Classical.choose_spec HHAD.out)).1 o1) o2)
          have c0 := (blk_cell hn5 0).trans rfl
          have c1 := (blk_cell hn5 1).trans rfl
          have c2 := (blk_cell hn5 2).trans rfl
          have c3 := (blk_cell hn5 3).trans rfl
          have hB13 : Below w.heap.size w (Go.ChangeMaps.setBlock (Go.ChangeMaps.setBlock W12 w.heap.size o1) w.heap.size o2) := (HW.out.1.trans (HB12.out.mono HW.out.1.size)).trans ⟨rfl, rfl, rfl, by simp [Go.ChangeMaps.setBlock], fun k hk => (sb_other _ () (by omega)).trans (sb_other _ () (by omega))⟩
          have HB13 := Lib.hid hB13
          generalize Go.ChangeMaps.setBlock (Go.ChangeMaps.setBlock W12 w.heap.size o1) w.heap.size o2 = W13 at c0 c1 c2 c3 haf HB13 ⊢
          clear hn5 hB13
          have hlk : (Instr.lookup 78 (.map (some w.heap.size)) (.agg #[.string (smallV ty.1), .string (smallV la.1), .bool ty.2, .bool la.2]) false).run Tryz.prog W13 = .ok (.int .i64 2) W13 := haf
          clear haf
          go_wp2_with fail
          go_ret
          exact ⟨by rw [← HQ3.out]; rfl, HB13.out⟩
        · have hq := HQ2.out
          rw [if_neg hmem] at hq
          have HQ3 := Lib.hid hq
          have hmk : (Value.agg #[.string (smallV ty.1), .string (smallV la.1), .bool ty.2, .bool la.2]) ∉ ks.map encV := by rw [← HKEY.out]; intro h; obtain ⟨k, hk, he⟩ := List.mem_map.1 h; exact hmem (encV_inj he ▸ hk)
          obtain ⟨hl0, st, o1, hme, hl1, hst2⟩ := had_new hhad HISK.out hmk
          have HL1 := Lib.hid hl1
          have HST2 := Lib.hid hst2
          have HHAD := Lib.hid hhad
          have HLT0 := Lib.hid hlt0
          clear hq hmk hl1 hst2 hhad hmem hlt0
          refine start_ (n := 7) (S := fun w' => w'.cell? ⟨wr.heap.size + 1, 0, none⟩ = some (.string (smallV ty.1)) ∧ w'.cell? ⟨wr.heap.size + 1, 1, none⟩ = some (.string (smallV la.1)) ∧ w'.cell? ⟨wr.heap.size + 1, 2, none⟩ = some (.bool ty.2) ∧ w'.cell? ⟨wr.heap.size + 1, 3, none⟩ = some (.bool la.2) ∧ (Instr.lookup 78 (.map (some w.heap.size)) (.agg #[.string (smallV ty.1), .string (smallV la.1), .bool ty.2, .bool la.2]) false).run Tryz.prog w' = .ok (.int .i64 0) w') (ds := [6]) #[false, false, false, false, false, false, false] (by kernel_rfl) rfl rfl ⟨(blk_cell hn2 0).trans rfl, (blk_cell hn2 1).trans rfl, (blk_cell hn2 2).trans rfl, (blk_cell hn2 3).trans rfl, hl0⟩ (fun hHeld => ?_)
          generalize w11.drew = W12 at hn2 hB12 hs12 hme hl0 HHAD hHeld ⊢
          have HN12 := Lib.hid hn2
          have HB12 := Lib.hid hB12
          have HS12 := Lib.hid hs12
          have HME := Lib.hid hme
          clear hn2 hB12 hs12 hl0 hme
          refine pure_ (i := 0) (N := some 39) (v := ?_) (a' := ?_) #[true, false, false, false, false, false, false] rfl rfl (by kernel_rfl) (fun _ _ _ h => h) (Or.inl ⟨by rfl, ?_⟩) ?_ ?_
          rotate_left
          · intro w'
            go_simp
            with_reducible rfl
          rotate_left
          · simp only [Act.put, List.setIfInBounds_toArray, List.set_cons_zero, List.set_cons_succ, i64_w, i32_w]
            rfl
          refine take_ (i := 1) (N := some 40) (v := ?_) (a' := ?_) #[true, true, false, false, false, false, false] rfl rfl (by kernel_rfl) (fun _ _ _ h => h) (Or.inl ⟨by rfl, ?_⟩) hHeld ?_ ?_
          rotate_left
          · rintro w' ⟨s0, s1, s2, s3, s4⟩
            go_simp
            with_reducible rfl
          rotate_left
          · simp only [Act.put, List.setIfInBounds_toArray, List.set_cons_zero, List.set_cons_succ, i64_w, i32_w]
            rfl
          refine take_ (i := 2) (N := some 41) (v := ?_) (a' := ?_) #[true, true, true, false, false, false, false] rfl rfl (by kernel_rfl) (fun _ _ _ h => h) (Or.inl ⟨by rfl, ?_⟩) hHeld ?_ ?_
          rotate_left
          · rintro w' ⟨s0, s1, s2, s3, s4⟩
            go_simp
            with_reducible rfl
          rotate_left
          · simp only [Act.put, List.setIfInBounds_toArray, List.set_cons_zero, List.set_cons_succ, i64_w, i32_w]
            rfl
          refine pure_ (i := 3) (N := some 42) (v := ?_) (a' := ?_) #[true, true, true, true, false, false, false] rfl rfl (by kernel_rfl) (fun _ _ _ h => h) (Or.inl ⟨by rfl, ?_⟩) ?_ ?_
          rotate_left
          · intro w'
            go_simp
            with_reducible rfl
          rotate_left
          · simp only [Act.put, List.setIfInBounds_toArray, List.set_cons_zero, List.set_cons_succ, i64_w, i32_w]
            rfl
          have hme := HME.out
          refine one_ (i := 4) (N := some 43) #[true, true, true, true, true, false, false] rfl rfl (by kernel_rfl) (by decide) (fun K hK => ?_)
          refine value_ (w1 := Go.ChangeMaps.setBlock W12 w.heap.size o1) (v := .tuple #[.int .i64 0, .int .i64 st]) (by rfl) rfl ?_ ?_
          · go_simp
          have hn4 : (Go.ChangeMaps.setBlock W12 w.heap.size o1).heap[wr.heap.size + 1]? = some (.cells #[.string (smallV ty.1), .string (smallV la.1), .bool ty.2, .bool la.2] 80 (0, 0)) := (Go.ChangeMaps.heap_setBlock_other (Classical.choose_spec (Classical.choose_spec HHAD.out)).1 _ (by have := HLT0.out; omega)).trans HN12.out
          have HN4 := Lib.hid hn4
          clear hn4
          clear hme
          refine hK.out _ _ ⟨(blk_cell HN4.out 0).trans rfl, (blk_cell HN4.out 1).trans rfl, (blk_cell HN4.out 2).trans rfl, (blk_cell HN4.out 3).trans rfl, HL1.out _ (Go.ChangeMaps.heap_setBlock_same (Classical.choose_spec (Classical.choose_spec HHAD.out)).1 _)⟩ (fun hHeld => ?_)
          clear hK K
          refine norm_ (a' := ?_) ?_ ?_
          rotate_left
          · show Act.put _ (some 43) _ = _
            simp only [Act.put, List.setIfInBounds_toArray, List.set_cons_zero, List.set_cons_succ, i64_w, i32_w]
            rfl
          refine pure_ (i := 5) (N := some 44) (v := ?_) (a' := ?_) #[true, true, true, true, true, true, false] rfl rfl (by kernel_rfl) (fun _ _ _ h => h) (Or.inl ⟨by rfl, ?_⟩) ?_ ?_
          rotate_left
          · intro w'
            go_simp
            with_reducible rfl
          rotate_left
          · simp only [Act.put, List.setIfInBounds_toArray, List.set_cons_zero, List.set_cons_succ, i64_w, i32_w]
            rfl
          obtain ⟨o2, hes, haft⟩ := HST2.out _ (Go.ChangeMaps.heap_setBlock_same (Classical.choose_spec (Classical.choose_spec HHAD.out)).1 _)
          have HAFT := Lib.hid haft
          clear haft
          rw [show (1 : Int) = wrap64 1 from (Go.IntWalk.wrap64_in _ (by omega)).symm] at hes
          refine last_ (i := 6) (N := none) #[true, true, true, true, true, true, true] rfl rfl (by kernel_rfl) (by decide) (fun K hK => ?_)
          refine skip_ (w1 := Go.ChangeMaps.setBlock (Go.ChangeMaps.setBlock W12 w.heap.size o1) w.heap.size o2) (by rfl) rfl ?_ ?_
          · go_simp
          refine hK.out _ _ ?_
          clear hK K hes
          refine done_ (by kernel_rfl) ?_
          have hn5 : (Go.ChangeMaps.setBlock (Go.ChangeMaps.setBlock W12 w.heap.size o1) w.heap.size o2).heap[wr.heap.size + 1]? = some (.cells #[.string (smallV ty.1), .string (smallV la.1), .bool ty.2, .bool la.2] 80 (0, 0)) := (sb_other _ () (by have := HLT0.out; omega)).trans HN4.out
          have haf := HAFT.out _ (sb_same (Go.ChangeMaps.heap_setBlock_same (Classical.choose_spec (Classical.choose_spec HHAD.out)).1 o1) o2)
          have c0 := (blk_cell hn5 0).trans rfl
          have c1 := (blk_cell hn5 1).trans rfl
          have c2 := (blk_cell hn5 2).trans rfl
          have c3 := (blk_cell hn5 3).trans rfl
          have hB13 : Below w.heap.size w (Go.ChangeMaps.setBlock (Go.ChangeMaps.setBlock W12 w.heap.size o1) w.heap.size o2) := (HW.out.1.trans (HB12.out.mono HW.out.1.size)).trans ⟨rfl, rfl, rfl, by simp [Go.ChangeMaps.setBlock], fun k hk => (sb_other _ () (by omega)).trans (sb_other _ () (by omega))⟩
          have HB13 := Lib.hid hB13
          generalize Go.ChangeMaps.setBlock (Go.ChangeMaps.setBlock W12 w.heap.size o1) w.heap.size o2 = W13 at c0 c1 c2 c3 haf HB13 ⊢
          clear hn5 hB13
          have hlk : (Instr.lookup 78 (.map (some w.heap.size)) (.agg #[.string (smallV ty.1), .string (smallV la.1), .bool ty.2, .bool la.2]) false).run Tryz.prog W13 = .ok (.int .i64 1) W13 := haf.2
          have HAD := Lib.hid haf.1
          clear haf
          go_wp2_with fail
          go_roundg (Z.length - (i + 1))
          case measure => have := HI.out; omega
          case rel => exact ⟨i + 1, ks ++ [vkey z.x], by rw [Go.IntWalk.wrap64_in _ (by have := HI.out; have := HL.out; omega)]; rfl, by have := HI.out; omega, Nat.le_refl _, HQ3.out, ⟨HB13.out, by rw [List.map_append]; show HadM _ (_ ++ [encV (vkey z.x)]) _; rw [HKEY.out]; exact HAD.out⟩⟩
      · have g1 := eq_false hal
        have g2 : (rv.toList == [97, 108, 116, 101, 114, 110, 97, 116, 101]) = false := by simp [hal]
        have g3 : (rv.toList != [97, 108, 116, 101, 114, 110, 97, 116, 101]) = true := by simp [hal]
        have hq := HQ.out
        rw [HST.out, if_neg (by rw [HIA.out, g2]; decide)] at hq
        have HQ2 := Lib.hid hq
        clear hq hal
        go_wp2_with (first | (go_at_call 48; refine HC3.out.mono ?_))
        rintro e w11 ⟨rfl, hb11⟩
        have HB11 := Lib.hid (HB10.out.trans (hb11.mono HB10.out.size))
        clear hb11 k0 k1 k2 k3 k4 k5
        go_wp2_with fail
        go_roundg (Z.length - (i + 1))
        case measure => have := HI.out; omega
        case rel => exact ⟨i + 1, ks, by rw [Go.IntWalk.wrap64_in _ (by have := HI.out; have := HL.out; omega)]; rfl, by have := HI.out; omega, Nat.le_refl _, HQ2.out, ⟨HW.out.1.trans (HB11.out.mono HW.out.1.size), HW.out.2.keep (HB11.out.block _ HW.out.2.lt)⟩⟩
    · obtain rfl : i = Z.length := by omega
      have q1 : decide ((Z.length : Int) < (Z.length : Int)) = false := decide_eq_false (by omega)
      have ht : ANS = true := by have := HQ.out; rw [List.drop_length] at this; exact this.symm
      have HT := Lib.hid ht
      clear hi hkx hlt ht
      go_wp2_with fail
      go_ret
      exact ⟨by rw [HT.out]; rfl, HW.out.1⟩
end Go.Proofs.YtcplaafmelcndaaGreatDoor.At
