/- The library's merging in place, where one of the two neighbours has one element alone. -/
import Derived.Test.YtjbfjgaghjggpaaSym
import Derived.Test.YtjbfjgaghjggpaaRotw
set_option linter.unusedVariables false
set_option linter.unusedSectionVars false
namespace Go.Proofs.Ytjbfjgaghjggpaa.Srt
open Go.Shelf Go.RowKit Go.Lib Go.Sort Go.Proofs.Ytjbfjgaghjggpaa.Mrg
variable {α : Type} [Inhabited α]

theorem swp_comm (d : Array α) (i j : Nat) (h : i ≠ j) : swp d i j = swp d j i := by
  unfold swp
  exact Array.setIfInBounds_comm _ _ h
theorem bub_right (dk : Array α) (A X S : List α) (x : α) (t : Nat) (h : dk.toList = A ++ X.take t ++ x :: (X.drop t ++ S)) (ht : t < X.length) :
    (swp dk (A.length + t) (A.length + t + 1)).toList = A ++ X.take (t + 1) ++ x :: (X.drop (t + 1) ++ S) := by
  have e : X.drop t = X[t] :: X.drop (t + 1) := List.drop_eq_getElem_cons ht
  rw [e] at h
  rw [swp_list dk (A ++ X.take t) [] (X.drop (t + 1) ++ S) x X[t] _ _ (by rw [h]; simp only [List.append_assoc, List.cons_append, List.nil_append]) (by simp; omega) (by simp; omega)]
  rw [List.take_succ_eq_append_getElem ht]; simp only [List.append_assoc, List.cons_append, List.nil_append]
theorem bub_left (dk : Array α) (A X S : List α) (x : α) (t : Nat) (h : dk.toList = A ++ X.take (t + 1) ++ x :: (X.drop (t + 1) ++ S)) (ht : t < X.length) :
    (swp dk (A.length + t + 1) (A.length + t)).toList = A ++ X.take t ++ x :: (X.drop t ++ S) := by
  rw [swp_comm _ _ _ (by omega)]
  have e : X.drop t = X[t] :: X.drop (t + 1) := List.drop_eq_getElem_cons ht
  rw [List.take_succ_eq_append_getElem ht] at h
  rw [swp_list dk (A ++ X.take t) [] (X.drop (t + 1) ++ S) X[t] x _ _ (by rw [h]; simp only [List.append_assoc, List.cons_append, List.nil_append]) (by simp; omega) (by simp; omega)]
  rw [e]; simp only [List.append_assoc, List.cons_append, List.nil_append]

set_option maxHeartbeats 4000000 in
set_option maxRecDepth 1000000 in
theorem sym_left {P : Program} {k : Nat} (B : Bas P k) (FG : P.funcs[30]? = some Try.f30) (enc : α → List Value) (cf : α → α → Int) (g : Nat) (cb : Array Value) (blk off cap a m b : Nat) (d0 d : Array α) (w0 w : World)
    (eg : ∀ args w, (callFunc g args).run P w = .ok (.enter g args) w) (hcmp : CmpLays P g cb enc k cf blk off d0.size w0) (SO : SWO (ltOf cf))
    (R : RowK enc k w0 blk off d0) (hs : d0.size = d.size) (S : SWK enc k w0 blk off d w) (A Y C : List α) (x : α) (hd : d.toList = A ++ [x] ++ Y ++ C) (hA : A.length = a) (hm : m = a + 1) (hb : b = m + Y.length) (hY : Srt (ltOf cf) Y) (hsz : d.size < 4611686018427387904) :
    Calls P 30 #[.slice (some ⟨blk, off, none⟩) d.size cap, .int .i64 a, .int .i64 m, .int .i64 b, .func (.func g) #[] cb] w fun e w' => e = .returned (.tuple #[]) ∧ ∃ d' : Array α, d'.toList = A ++ mrg (ltOf cf) [x] Y ++ C ∧ d'.size = d.size ∧ SWK enc k w0 blk off d' w' := by
  have mixed := B.mixed; have t0 := B.t0; have a0 := B.a0; have z0 := B.z0; have v0 := B.v0; have t3 := B.t3; have a3 := B.a3; have z3 := B.z3; have v3 := B.v3; have t4 := B.t4; have a4 := B.a4; have z4 := B.z4; have v4 := B.v4; have t24 := B.t24; have a24 := B.a24; have z24 := B.z24; have v24 := B.v24; have t63 := B.t63; have a63 := B.a63; have z63 := B.z63; have v63 := B.v63; have aE := B.aE; have zE := B.zE
  have S0 : Aside (SWK enc k w0 blk off d w) := S
  clear S
  have HC : Aside _ := hcmp
  clear hcmp
  have hlen : d.size = a + 1 + Y.length + C.length := by rw [← Array.length_toList, hd]; simp; omega
  have dx : d[a]! = x := by
    have := at_list d A [x] (Y ++ C) (by rw [hd]; simp) 0 (by simp)
    rw [hA] at this; exact this
  have dy : ∀ t, t < Y.length → d[a + 1 + t]! = Y[t]! := fun t ht => by
    have := at_list d (A ++ [x]) Y C (by rw [hd]) t ht
    rw [List.length_append, hA] at this; exact this
  have HD : Hid (d.toList = A ++ [x] ++ Y ++ C ∧ A.length = a ∧ Srt (ltOf cf) Y ∧ d[a]! = x ∧ ∀ t, t < Y.length → d[a + 1 + t]! = Y[t]!) := ⟨hd, hA, hY, dx, dy⟩
  clear hd hA hY dx dy
  have HS : Hid (d0.size = d.size ∧ d.size = a + 1 + Y.length + C.length) := ⟨hs, hlen⟩
  have bs : b ≤ d.size := by omega
  clear hs hlen
  have q1 : ((m : Int) - (a : Int) == 1) = true := by simp; omega
  have HB := Lib.hid hb
  have HM := Lib.hid hm
  have b1 : b ≤ a + 1 + Y.length := by omega
  have b2 : a + 1 + Y.length ≤ b := by omega
  have m1 : m ≤ a + 1 := by omega
  have m2 : a + 1 ≤ m := by omega
  clear hb hm
  go_enter FG, Try.ntmps30
  go_wp2
  go_loopg [10, 11, 12] (b - m) (fun kx s10 s11 s12 wr => ∃ i j : Nat, s10 = .int .i64 i ∧ s11 = .int .i64 j ∧ m ≤ i ∧ i ≤ j ∧ j ≤ b ∧ j - i ≤ kx ∧ Aside (SWK enc k w0 blk off d wr) ∧ Hid ((m < i → ltOf cf d[i - 1]! d[a]! = true) ∧ (j < b → ltOf cf d[j]! d[a]! = false)))
  case atStart => exact ⟨m, b, rfl, rfl, Nat.le_refl _, by omega, Nat.le_refl _, by omega, S0, ⟨fun h => by omega, fun h => by omega⟩⟩
  case round =>
    clear S0
    obtain ⟨i, j, rfl, rfl, hai, hij, hjb, hkx, S1, I⟩ := hrel
    by_cases hlt : (i : Int) < (j : Int)
    · obtain ⟨h, hh⟩ : ∃ h : Nat, h = (i + j) / 2 := ⟨_, rfl⟩
      have eh : ((i : Int) + (j : Int)) / 2 = (h : Int) := by omega
      have h1 : i ≤ h := by omega
      have h2 : h < j := by omega
      clear hh
      have ea : ((h : Int)).toNat = h := by omega
      have pa : (0 : Int) ≤ (h : Int) := by omega
      have ba : (h : Int) < (d.size : Int) := by omega
      have ra : IntKind.i64.wrap ((h : Int)) = (h : Int) := by rw [IntKind.wrap_i64]; omega
      have ec : ((a : Int)).toNat = a := by omega
      have pc : (0 : Int) ≤ (a : Int) := by omega
      have bc : (a : Int) < (d.size : Int) := by omega
      have rc : IntKind.i64.wrap ((a : Int)) = (a : Int) := by rw [IntKind.wrap_i64]; omega
      have hs := HS.out.1
      obtain ⟨xh, hxh⟩ : ∃ x, x = d[h]! := ⟨_, rfl⟩
      obtain ⟨xa, hxa⟩ : ∃ x, x = d[a]! := ⟨_, rfl⟩
      have la := S1.out.ld R (by omega) P h (by omega)
      have lb := S1.out.ld R (by omega) P a (by omega)
      rw [← hxh] at la
      rw [← hxa] at lb
      have hc := S1.out.cmp HC.out (by omega) xh xa
      clear hs
      cases hv : ltOf cf xh xa
      case' true =>
        have hv2 : cf xh xa < 0 := of_decide_eq_true hv
      case' false =>
        have hv2 : ¬ cf xh xa < 0 := of_decide_eq_false hv
      all_goals
        rw [hxh, hxa] at hv
        have HV := Lib.hid hv
        clear hv hxh hxa
        go_wp2_with fail
        go_quiet_grown (first | (go_at_fn g; refine Calls.grown_of (hc _ _)))
        have S2 : Aside (SWK enc k w0 blk off d (grow (wr.drewN nq) osq)) := S1.out.grown nq osq
        clear la lb hc S1
        generalize grow (wr.drewN nq) osq = wu2 at S2 ⊢
        clear nq osq
        go_wp2
      · go_roundg (h - i)
        case measure => omega
        case rel => exact ⟨i, h, rfl, rfl, hai, h1, by omega, Nat.le_refl _, S2, ⟨I.out.1, fun _ => HV.out⟩⟩
      · go_roundg (j - (h + 1))
        case measure => omega
        case rel => exact ⟨h + 1, j, by go_num, rfl, by omega, by omega, hjb, Nat.le_refl _, S2, ⟨fun _ => HV.out, I.out.2⟩⟩
    · obtain rfl : i = j := by omega
      clear hlt hij
      obtain ⟨n, hin⟩ : ∃ n, i = a + 1 + n := ⟨i - (a + 1), by omega⟩
      have hn : n ≤ Y.length := by omega
      have HY : Hid ((∀ r ∈ Y.take n, ltOf cf r x = true) ∧ (∀ r ∈ Y.drop n, ltOf cf r x = false)) := by
        obtain ⟨hd, hA, hY, dx, dy⟩ := HD.out
        constructor
        · intro r hr
          obtain ⟨u, u1, u2, rfl⟩ := mem_take_at Y n r hr
          have h0 := I.out.1 (by omega)
          rw [dx, show i - 1 = a + 1 + (n - 1) by omega, dy _ (by omega)] at h0
          exact lt_down SO h0 (srt_le SO Y hY u (n - 1) (by omega) (by omega))
        · intro r hr
          obtain ⟨u, u1, u2, rfl⟩ := mem_drop_at Y n r hr
          have h0 := I.out.2 (by omega)
          rw [dx, hin, dy _ (by omega)] at h0
          cases e : ltOf cf Y[u]! x with
          | false => rfl
          | true =>
            have := lt_down SO e (srt_le SO Y hY n u u1 u2)
            rw [h0] at this; exact absurd this (by decide)
      clear I
      have ln : (Y.take n).length = n := by rw [List.length_take]; omega
      have LN := Lib.hid ln
      clear ln
      have i1 : i ≤ a + 1 + n := by omega
      have i2 : a + 1 + n ≤ i := by omega
      clear hin
      go_wp2
      go_loopg [13] (n + 1) (fun kx s13 w1 => ∃ (t q : Nat) (dk : Array α), s13 = .int .i64 q ∧ q ≤ a + t ∧ a + t ≤ q ∧ t ≤ n ∧ n - t ≤ kx ∧ dk.size = d.size ∧ Aside (SWK enc k w0 blk off dk w1) ∧ Hid (dk.toList = A ++ (Y.take n).take t ++ x :: ((Y.take n).drop t ++ (Y.drop n ++ C))))
      case atStart => exact ⟨0, a, d, rfl, Nat.le_refl _, Nat.le_refl _, Nat.zero_le _, by omega, rfl, S1, by show _ = _; rw [HD.out.1, List.take_zero, List.drop_zero, ← List.append_assoc (Y.take n), List.take_append_drop]; simp⟩
      case round =>
        clear S1
        obtain ⟨t, q, dk, rfl, hq1, hq2, htn, hkx2, hsk, S1, HL⟩ := hrel
        by_cases htl : t < n
        · have q2 : (q : Int) < (i : Int) - 1 := by omega
          have ea44 : ((q : Int)).toNat = q := by omega
          have pa44 : (0 : Int) ≤ (q : Int) := by omega
          have ba44 : (q : Int) < (d.size : Int) := by omega
          have ra44 : IntKind.i64.wrap ((q : Int)) = (q : Int) := by rw [IntKind.wrap_i64]; omega
          have ec44 : ((q : Int) + 1).toNat = q + 1 := by omega
          have pc44 : (0 : Int) ≤ (q : Int) + 1 := by omega
          have bc44 : (q : Int) + 1 < (d.size : Int) := by omega
          have rc44 : IntKind.i64.wrap ((q : Int) + 1) = (q : Int) + 1 := by rw [IntKind.wrap_i64]; omega
          have hs := HS.out.1
          have S2 : Aside (SWK enc k w0 blk off (swp dk q (q + 1)) ((wr.drew.setCells blk (off + q * k) (enc dk[q + 1]!)).setCells blk (off + (q + 1) * k) (enc dk[q]!))) := S1.out.swapped R q (q + 1) (by omega) (by omega)
          have l44a := S1.out.ld1 R (by omega) P q (by omega)
          have l44b := S1.out.ld1 R (by omega) P (q + 1) (by omega)
          have s44a := S1.out.st1 R (by omega) P q (by omega) dk[q + 1]!
          have s44b := S1.out.st2 R (by omega) P q (q + 1) (by omega) (by omega) dk[q + 1]! dk[q]!
          have n44a : (enc dk[q]!).length = k := R.hk _
          have n44b : (enc dk[q + 1]!).length = k := R.hk _
          clear hs
          have HL2 : Hid ((swp dk q (q + 1)).toList = A ++ (Y.take n).take (t + 1) ++ x :: ((Y.take n).drop (t + 1) ++ (Y.drop n ++ C))) := by
            have := bub_right dk A (Y.take n) (Y.drop n ++ C) x t HL.out (by rw [LN.out]; exact htl)
            rw [HD.out.2.1, show a + t = q by omega] at this
            exact this
          generalize enc dk[q]! = cI44 at S2 l44a s44b n44a
          generalize enc dk[q + 1]! = cJ44 at S2 l44b s44a s44b n44b
          clear S1
          go_wp2_with fail
          go_big_region_o
          clear l44a l44b s44a s44b
          generalize (wr.drew.setCells blk (off + q * k) cJ44).setCells blk (off + (q + 1) * k) cI44 = w2 at S2 ⊢
          go_wp2
          go_roundg (n - (t + 1))
          case measure => omega
          case rel => exact ⟨t + 1, q + 1, swp dk q (q + 1), by go_num, by omega, by omega, by omega, Nat.le_refl _, by rw [size_swp]; exact hsk, S2, HL2⟩
        · have q2 : ¬ (q : Int) < (i : Int) - 1 := by omega
          obtain rfl : t = n := by omega
          have HZ : Hid (dk.toList = A ++ mrg (ltOf cf) [x] Y ++ C) := by
            show _ = _
            have e1 := mrg_one_left (ltOf cf) x (Y.take t) (Y.drop t) HY.out.1 HY.out.2
            rw [List.take_append_drop] at e1
            rw [HL.out, e1, List.take_of_length_le (by rw [LN.out]; omega), List.drop_of_length_le (by rw [LN.out]; omega)]
            simp
          clear HL
          go_wp2
          refine bodyPost_ret (results_none rfl _ _ _) rfl ?_
          exact ⟨rfl, dk, by rw [HZ.out]; simp, hsk, S1.out⟩

set_option maxHeartbeats 4000000 in
set_option maxRecDepth 1000000 in
theorem sym_right {P : Program} {k : Nat} (B : Bas P k) (FG : P.funcs[30]? = some Try.f30) (enc : α → List Value) (cf : α → α → Int) (g : Nat) (cb : Array Value) (blk off cap a m b : Nat) (d0 d : Array α) (w0 w : World)
    (eg : ∀ args w, (callFunc g args).run P w = .ok (.enter g args) w) (hcmp : CmpLays P g cb enc k cf blk off d0.size w0) (SO : SWO (ltOf cf))
    (R : RowK enc k w0 blk off d0) (hs : d0.size = d.size) (S : SWK enc k w0 blk off d w) (A Y C : List α) (x : α) (hd : d.toList = A ++ Y ++ [x] ++ C) (hA : A.length = a) (hm : m = a + Y.length) (h1 : Y.length ≠ 1) (hb : b = m + 1) (hY : Srt (ltOf cf) Y) (hsz : d.size < 4611686018427387904) :
    Calls P 30 #[.slice (some ⟨blk, off, none⟩) d.size cap, .int .i64 a, .int .i64 m, .int .i64 b, .func (.func g) #[] cb] w fun e w' => e = .returned (.tuple #[]) ∧ ∃ d' : Array α, d'.toList = A ++ mrg (ltOf cf) Y [x] ++ C ∧ d'.size = d.size ∧ SWK enc k w0 blk off d' w' := by
  have mixed := B.mixed; have t0 := B.t0; have a0 := B.a0; have z0 := B.z0; have v0 := B.v0; have t3 := B.t3; have a3 := B.a3; have z3 := B.z3; have v3 := B.v3; have t4 := B.t4; have a4 := B.a4; have z4 := B.z4; have v4 := B.v4; have t24 := B.t24; have a24 := B.a24; have z24 := B.z24; have v24 := B.v24; have t63 := B.t63; have a63 := B.a63; have z63 := B.z63; have v63 := B.v63; have aE := B.aE; have zE := B.zE
  have S0 : Aside (SWK enc k w0 blk off d w) := S
  clear S
  have HC : Aside _ := hcmp
  clear hcmp
  have hlen : d.size = a + 1 + Y.length + C.length := by rw [← Array.length_toList, hd]; simp; omega
  have dx : d[m]! = x := by
    have := at_list d (A ++ Y) [x] C (by rw [hd]) 0 (by simp)
    rw [List.length_append, hA, Nat.add_zero, ← hm] at this; exact this
  have dy : ∀ t, t < Y.length → d[a + t]! = Y[t]! := fun t ht => by
    have := at_list d A Y ([x] ++ C) (by rw [hd]; simp) t ht
    rw [hA] at this; exact this
  have HD : Hid (d.toList = A ++ Y ++ [x] ++ C ∧ A.length = a ∧ Srt (ltOf cf) Y ∧ d[m]! = x ∧ ∀ t, t < Y.length → d[a + t]! = Y[t]!) := ⟨hd, hA, hY, dx, dy⟩
  clear hd hA hY dx dy
  have HS : Hid (d0.size = d.size ∧ d.size = a + 1 + Y.length + C.length) := ⟨hs, hlen⟩
  have bs : b ≤ d.size := by omega
  clear hs hlen
  have q1 : ((m : Int) - (a : Int) == 1) = false := by simp; omega
  have q3 : ((b : Int) - (m : Int) == 1) = true := by simp; omega
  have HB := Lib.hid hb
  have HM := Lib.hid hm
  have b1 : b ≤ m + 1 := by omega
  have b2 : m + 1 ≤ b := by omega
  have m1 : m ≤ a + Y.length := by omega
  have m2 : a + Y.length ≤ m := by omega
  clear hb hm h1
  go_enter FG, Try.ntmps30
  go_wp2
  go_loopg [14, 15, 16] (m - a) (fun kx s10 s11 s12 wr => ∃ i j : Nat, s10 = .int .i64 i ∧ s11 = .int .i64 j ∧ a ≤ i ∧ i ≤ j ∧ j ≤ m ∧ j - i ≤ kx ∧ Aside (SWK enc k w0 blk off d wr) ∧ Hid ((a < i → ltOf cf d[m]! d[i - 1]! = false) ∧ (j < m → ltOf cf d[m]! d[j]! = true)))
  case atStart => exact ⟨a, m, rfl, rfl, Nat.le_refl _, by omega, Nat.le_refl _, by omega, S0, ⟨fun h => by omega, fun h => by omega⟩⟩
  case round =>
    clear S0
    obtain ⟨i, j, rfl, rfl, hai, hij, hjb, hkx, S1, I⟩ := hrel
    by_cases hlt : (i : Int) < (j : Int)
    · obtain ⟨h, hh⟩ : ∃ h : Nat, h = (i + j) / 2 := ⟨_, rfl⟩
      have eh : ((i : Int) + (j : Int)) / 2 = (h : Int) := by omega
      have h1 : i ≤ h := by omega
      have h2 : h < j := by omega
      clear hh
      have ea : ((h : Int)).toNat = h := by omega
      have pa : (0 : Int) ≤ (h : Int) := by omega
      have ba : (h : Int) < (d.size : Int) := by omega
      have ra : IntKind.i64.wrap ((h : Int)) = (h : Int) := by rw [IntKind.wrap_i64]; omega
      have ec : ((m : Int)).toNat = m := by omega
      have pc : (0 : Int) ≤ (m : Int) := by omega
      have bc : (m : Int) < (d.size : Int) := by omega
      have rc : IntKind.i64.wrap ((m : Int)) = (m : Int) := by rw [IntKind.wrap_i64]; omega
      have hs := HS.out.1
      obtain ⟨xh, hxh⟩ : ∃ x, x = d[h]! := ⟨_, rfl⟩
      obtain ⟨xa, hxa⟩ : ∃ x, x = d[m]! := ⟨_, rfl⟩
      have la := S1.out.ld R (by omega) P h (by omega)
      have lb := S1.out.ld R (by omega) P m (by omega)
      rw [← hxh] at la
      rw [← hxa] at lb
      have hc := S1.out.cmp HC.out (by omega) xa xh
      clear hs
      cases hv : ltOf cf xa xh
      case' true =>
        have hv2 : cf xa xh < 0 := of_decide_eq_true hv
        have hd2 : decide (cf xa xh < 0) = true := decide_eq_true hv2
      case' false =>
        have hv2 : ¬ cf xa xh < 0 := of_decide_eq_false hv
        have hd2 : decide (cf xa xh < 0) = false := decide_eq_false hv2
      all_goals
        rw [hxh, hxa] at hv
        have HV := Lib.hid hv
        clear hv hxh hxa
        go_wp2_with fail
        go_quiet_grown (first | (go_at_fn g; refine Calls.grown_of (hc _ _)))
        have S2 : Aside (SWK enc k w0 blk off d (grow (wr.drewN nq) osq)) := S1.out.grown nq osq
        clear la lb hc S1
        generalize grow (wr.drewN nq) osq = wu2 at S2 ⊢
        clear nq osq
        go_wp2
      · go_roundg (j - (h + 1))
        case measure => omega
        case rel => exact ⟨h + 1, j, by go_num, rfl, by omega, by omega, hjb, Nat.le_refl _, S2, ⟨fun _ => HV.out, I.out.2⟩⟩
      · go_roundg (h - i)
        case measure => omega
        case rel => exact ⟨i, h, rfl, rfl, hai, h1, by omega, Nat.le_refl _, S2, ⟨I.out.1, fun _ => HV.out⟩⟩
    · obtain rfl : i = j := by omega
      clear hlt hij
      obtain ⟨n, hin⟩ : ∃ n, i = a + n := ⟨i - a, by omega⟩
      have hn : n ≤ Y.length := by omega
      have HY : Hid ((∀ r ∈ Y.take n, ltOf cf x r = false) ∧ (∀ r ∈ Y.drop n, ltOf cf x r = true)) := by
        obtain ⟨hd, hA, hY, dx, dy⟩ := HD.out
        constructor
        · intro r hr
          obtain ⟨u, u1, u2, rfl⟩ := mem_take_at Y n r hr
          have h0 := I.out.1 (by omega)
          rw [dx, show i - 1 = a + (n - 1) by omega, dy _ (by omega)] at h0
          cases e : ltOf cf x Y[u]! with
          | false => rfl
          | true =>
            have := lt_up SO e (srt_le SO Y hY u (n - 1) (by omega) (by omega))
            rw [h0] at this; exact absurd this (by decide)
        · intro r hr
          obtain ⟨u, u1, u2, rfl⟩ := mem_drop_at Y n r hr
          have h0 := I.out.2 (by omega)
          rw [dx, hin, dy _ (by omega)] at h0
          exact lt_up SO h0 (srt_le SO Y hY n u u1 u2)
      clear I
      have i1 : i ≤ a + n := by omega
      have i2 : a + n ≤ i := by omega
      clear hin
      go_wp2
      go_loopg [17] (m - i + 1) (fun kx s13 w1 => ∃ (t q : Nat) (dk : Array α), s13 = .int .i64 q ∧ q ≤ a + t ∧ a + t ≤ q ∧ n ≤ t ∧ t ≤ Y.length ∧ t - n ≤ kx ∧ dk.size = d.size ∧ Aside (SWK enc k w0 blk off dk w1) ∧ Hid (dk.toList = A ++ Y.take t ++ x :: (Y.drop t ++ C)))
      case atStart => exact ⟨Y.length, m, d, rfl, m1, m2, hn, Nat.le_refl _, by omega, rfl, S1, by show _ = _; rw [HD.out.1, List.take_length, List.drop_length]; simp⟩
      case round =>
        clear S1
        obtain ⟨t, q, dk, rfl, hq1, hq2, htn, hty, hkx2, hsk, S1, HL⟩ := hrel
        by_cases htl : n < t
        · have q2 : (i : Int) < (q : Int) := by omega
          obtain ⟨t, rfl⟩ : ∃ z, t = z + 1 := ⟨t - 1, by omega⟩
          obtain ⟨q, rfl⟩ : ∃ z, q = z + 1 := ⟨q - 1, by omega⟩
          have hwp : IntKind.i64.wrap (q : Int) = (q : Int) := by rw [IntKind.wrap_i64]; omega
          have jz : (q : Int) + 1 < (d.size : Int) := by omega
          have jz1 : (q : Int) < (d.size : Int) := by omega
          have p0 : (0 : Int) ≤ (q : Int) + 1 := by omega
          have e0 : ((q : Int) + 1).toNat = q + 1 := by omega
          have q2' : (i : Int) < (q : Int) + 1 := by omega
          have hs := HS.out.1
          have S2 : Aside (SWK enc k w0 blk off (swp dk (q + 1) q) ((wr.drew.setCells blk (off + (q + 1) * k) (enc dk[q]!)).setCells blk (off + q * k) (enc dk[q + 1]!))) := S1.out.swapped R (q + 1) q (by omega) (by omega)
          have l44a := S1.out.ld1 R (by omega) P (q + 1) (by omega)
          have l44b := S1.out.ld1 R (by omega) P q (by omega)
          have s44a := S1.out.st1 R (by omega) P (q + 1) (by omega) dk[q]!
          have s44b := S1.out.st2 R (by omega) P (q + 1) q (by omega) (by omega) dk[q]! dk[q + 1]!
          have n44a : (enc dk[q + 1]!).length = k := R.hk _
          have n44b : (enc dk[q]!).length = k := R.hk _
          clear hs
          have HL2 : Hid ((swp dk (q + 1) q).toList = A ++ Y.take t ++ x :: (Y.drop t ++ C)) := by
            have := bub_left dk A Y C x t HL.out (by omega)
            rw [HD.out.2.1, show a + t = q by omega] at this
            exact this
          generalize enc dk[q + 1]! = cI44 at S2 l44a s44b n44a
          generalize enc dk[q]! = cJ44 at S2 l44b s44a s44b n44b
          clear S1
          go_wp2_with fail
          go_big_region_o
          clear l44a l44b s44a s44b
          generalize (wr.drew.setCells blk (off + (q + 1) * k) cJ44).setCells blk (off + q * k) cI44 = w2 at S2 ⊢
          go_wp2
          go_roundg (t - n)
          case measure => omega
          case rel => exact ⟨t, q, swp dk (q + 1) q, by go_num, by omega, by omega, by omega, by omega, Nat.le_refl _, by rw [size_swp]; exact hsk, S2, HL2⟩
        · have q2 : ¬ (i : Int) < (q : Int) := by omega
          obtain rfl : t = n := by omega
          have HZ : Hid (dk.toList = A ++ mrg (ltOf cf) Y [x] ++ C) := by
            show _ = _
            have e1 := mrg_one_right (ltOf cf) x (Y.take t) (Y.drop t) HY.out.1 HY.out.2
            rw [List.take_append_drop] at e1
            rw [HL.out, e1]
            simp
          clear HL
          go_wp2
          refine bodyPost_ret (results_none rfl _ _ _) rfl ?_
          exact ⟨rfl, dk, by rw [HZ.out]; simp, hsk, S1.out⟩
end Go.Proofs.Ytjbfjgaghjggpaa.Srt
