/- The document's order of members: a new row, each member put behind the others and brought forward. -/
import Derived.Test.YtjbfjgaghjggpaaOrdw
import Derived.Outline
set_option linter.unusedVariables false
set_option linter.unusedSectionVars false
namespace Go.Proofs.Ytjbfjgaghjggpaa.Srt
open Go.Shelf Go.RowKit Go.Lib Go.Sort Go.Proofs.Ytjbfjgaghjggpaa.Mrg Go.Proofs.YtjbfjgaghjggpaaW.PrintWords

theorem ret_bool {a b : Bool} (h : a = b) : Ending.returned (Value.bool a) = Ending.returned (Value.bool b) := by rw [h]
abbrev zed : Value := .agg #[(.int .i64 0), (.int .i64 0), (.string ⟨#[]⟩), (.int .i64 0), (.string ⟨#[]⟩), (.string ⟨#[]⟩), (.slice none 0 0), (.slice none 0 0), (.string ⟨#[]⟩)]

set_option maxHeartbeats 1000000 in
theorem ahead (x y : Cel) (w : World) : Calls Try.prog 28 #[.agg x.enc.toArray, .agg y.enc.toArray] w fun e w' => e = .returned (.bool (ltOf cmpCel x y)) ∧ Grn w w' := by
  have HG : Hid (Grn w ((w.alloc (Obj.cells x.enc.toArray 32)).alloc (Obj.cells y.enc.toArray 32))) := ((Grn.refl w).alloc _).alloc _
  have hr : Hid (ltOf cmpCel x y = (decide (y.ed < x.ed) || (decide (x.ed = y.ed) && decide (y.num < x.num)))) := by
    show _ = _
    rw [ltOf_cel, Bool.eq_iff_iff]; simp; omega
  unfold Cel.enc at HG ⊢
  go_enter Try.func28, Try.ntmps28
  go_wp2
  all_goals
    go_ret
    refine ⟨?_, ((Grn.refl w).alloc _).alloc _⟩
    refine ret_bool ?_
    rw [ltOf_cel, Bool.eq_iff_iff]
    simp
    omega

theorem fill_one (z : Nat → Value) (l : List Value) (a : Array Value) (s : Nat) (h : a.size = s + l.length) : (List.foldl (fun cs x => cs.setIfInBounds x.snd x.fst) a (l.zipIdx s)).toList = a.toList.take s ++ l := by
  induction l generalizing a s with
  | nil => simp at h ⊢; rw [List.take_of_length_le (by simp; omega)]
  | cons v l ih =>
    rw [List.zipIdx_cons, List.foldl_cons, ih _ _ (by simp at h ⊢; omega)]
    simp only [Array.toList_setIfInBounds]
    rw [List.take_set, List.take_succ_eq_append_getElem (by simp at h ⊢; omega), List.set_append_right _ _ (by simp; omega)]
    simp at h
    have e : s - min s a.size = 0 := by omega
    simp [e]
theorem fill_all (zc : Array Value) (l : List Value) (k : Nat) (h : l.length = k) : List.foldl (fun cs x => cs.setIfInBounds x.snd x.fst) (Array.map (fun x => zc[x % zc.size]!) (Array.range k)) l.zipIdx = l.toArray := by
  apply Array.ext'
  have := fill_one (fun _ => default) l (Array.map (fun x => zc[x % zc.size]!) (Array.range k)) 0 (by simp [h])
  rw [this]; simp

/-- Behind a run of exchanges in a row of the call's own. -/
theorem own_back {w w1 w2 : World} {g cap : Nat} {cur : Array Value} {d1 dj : Array Cel} (hb : Below w.heap.size w w1) (hg : w.heap.size ≤ g) (hh : w1.heap[g]? = some (.cells cur 32 (0, 0))) (hnc : d1.size ≤ cap) (hcm : cap ≤ maxLen) (hcs : cur.size = cap * 9) (hz : dj.size = d1.size)
    (S : SWK Cel.enc 9 w1 g 0 dj w2) : Kd.R kCel 32 w2 w.heap.size (fun _ => True) (.slice (some ⟨g, 0, none⟩) d1.size cap) dj.toList ∧ Below w.heap.size w w2 := by
  obtain ⟨n, os, rfl⟩ := S
  obtain ⟨cur', hk1, hk2, hk3⟩ := sorted_block hh n dj os (by rw [size_flatK, hz, hcs]; exact Nat.mul_le_mul_right _ hnc)
  refine ⟨⟨fun _ _ => trivial, (flatK Cel.enc 9 dj).toList, ?_, flat_reps dj⟩, sorted_below hb hg n dj os⟩
  rw [Array.length_toList, hz]
  refine ⟨by simp [hz]; rfl, Or.inr ⟨g, cap, cur', rfl, hg, hk1, hnc, hcm, by rw [hk2]; exact hcs, ?_⟩⟩
  rw [← hk3, size_flatK, hz]
  simp [kCel]

set_option maxHeartbeats 8000000 in
set_option maxRecDepth 1000000 in
theorem rorder_v {P : Program} {k : Nat} (B : Bas P k) (F23 : P.funcs[23]? = some Try.f23) (e28 : ∀ args w, (callFunc 28 args).run P w = .ok (.enter 28 args) w) (HK9 : Hid (k = 9))
    (hinfo : (P.info? 32).map (fun i => (i.zero, i.size, i.bytes)) = some (some zed, 9, 136))
    (zc : Array Value) (v32 : ∀ w, (zeroValue 32).run P w = .ok (.agg zc) w)
    (hah : ∀ (x y : Cel) (W : World), Calls P 28 #[.agg x.enc.toArray, .agg y.enc.toArray] W fun e w' => e = .returned (.bool (ltOf cmpCel x y)) ∧ Grn W w')
    (A : Option Addr) (cc : Nat) (cs : List Cel) (w : World) (hr : Kd.C kCel w A cs.length cs) (hl : cs.length ≤ 1034834473200) :
    Calls P 23 #[.slice A cs.length cc] w fun e w' => ∃ v' : Value, e = .returned v' ∧ Kd.R kCel 32 w' w.heap.size (fun _ => True) v' (isort (ltOf cmpCel) cs) ∧ Below w.heap.size w w' := by
  have mixed := B.mixed; have t0 := B.t0; have a0 := B.a0; have z0 := B.z0; have v0 := B.v0; have t3 := B.t3; have a3 := B.a3; have z3 := B.z3; have v3 := B.v3; have t4 := B.t4; have a4 := B.a4; have z4 := B.z4; have v4 := B.v4; have t24 := B.t24; have a24 := B.a24; have z24 := B.z24; have v24 := B.v24; have aE := B.aE; have zE := B.zE
  have u24 := run_underlying B.t24
  have HR := Lib.hid hr
  have HA := Lib.hid hah
  have HI := Lib.hid hinfo
  clear hr hah hinfo
  obtain ⟨n, hn⟩ : ∃ n, n = cs.length := ⟨_, rfl⟩
  rw [← hn] at hl ⊢
  have HN := Lib.hid hn
  clear hn
  go_enter F23, Try.ntmps23
  go_wp2_with fail
  go_loopg [3, 4, 5] n (fun kx s3 s4 s5 wr => ∃ i : Nat, s4 = .int .i64 i ∧ i ≤ n ∧ n - i ≤ kx ∧ Hid (Kd.R kCel 32 wr w.heap.size (fun _ => True) s3 (isort (ltOf cmpCel) (cs.take i)) ∧ Below w.heap.size w wr))
  case atStart => exact ⟨0, rfl, Nat.zero_le _, Nat.le_refl _, ⟨Kd.R_nil _ _ _ _ _, Below.refl _ _⟩⟩
  case round =>
    obtain ⟨i, rfl, hin, hkx, HW⟩ := hrel
    by_cases hlt : (i : Int) < (n : Int)
    · have hC : Kd.C kCel wr A cs.length cs := Kd.C_below HR.out HW.out.2
      have hi2 : i < cs.length := by have := HN.out; omega
      obtain ⟨ad, rfl, hcells⟩ := hC.2.2 (by omega)
      obtain ⟨c, hc1, hc2, hc3⟩ := hcells i cs[i] (List.getElem?_eq_getElem hi2)
      obtain ⟨x, hx⟩ : ∃ x, x = cs[i] := ⟨_, rfl⟩
      rw [← hx] at hc2
      have hc2 : c = x.enc := hc2
      subst hc2
      have hld : Sem.run P (loadCellsFrom (ad.add (i * k)) 0 k #[]) wr = .ok (x.enc).toArray wr := by
        rw [HK9.out]
        refine run_loadCellsFrom_list P wr _ _ 9 (Cel.len x) (fun j v hj => ?_)
        rw [Addr.add_add]
        exact hc3 j v hj
      have HX : Hid (cs[i]? = some x) := by show _ = _; rw [hx]; exact List.getElem?_eq_getElem hi2
      clear hC hcells hc1 hc3 hx hi2
      have k1 : ¬ 16777216 < k := by have := HK9.out; omega
      have k2 : ¬ k = 0 := by have := HK9.out; omega
      have k3 : x.enc.length = k := by rw [HK9.out]; rfl
      have K4 := Lib.hid (fill_all zc x.enc k k3)
      have LN : Hid (((isort (ltOf cmpCel) (cs.take i)).length + 1) * 136 ≤ 140737488355328) := by show _ ≤ _; rw [isort_len, List.length_take]; omega
      have p1 : (0 : Int) ≤ (i : Int) := by omega
      have e1 : ((i : Int)).toNat = i := by omega
      go_wp2_with (at_builtin; rw [K4.out]; refine Kd.R_append kCel (W := wr) w.heap.size ?g1 ?s1 ?s2 24 32 zed 136 ?g2 t24 HI.out ?g5 ?g6 ?g7 u3 (isort (ltOf cmpCel) (cs.take i)) x x.enc (fun _ => True) (fun _ => False) ?g3 ?g4 ?g8 (fun _ h => h.elim) (fun _ _ => trivial) HW.out.1 HW.out.2 HW.out.2.size LN.out ?gg; (case g1 => rfl); (case g2 => rfl); (case g3 => rfl); (case g4 => rfl); (case g5 => rfl); (case g6 => decide); (case g7 => decide); (case g8 => rfl))
      intro v1 w1 hr hb hgr hat
      obtain ⟨_, inner, hown, hrep⟩ := hr
      have hl1 : (isort (ltOf cmpCel) (cs.take i) ++ [x]).length = i + 1 := by rw [List.length_append, isort_len, List.length_take, ← HN.out]; simp; omega
      rcases hown.2 with ⟨_, hbad⟩ | ⟨g, cap, cur, rfl, hg, hh, hnc, hcm, hcs, htk⟩
      · omega
      obtain ⟨d1, hd1⟩ : ∃ d : Array Cel, d.toList = isort (ltOf cmpCel) (cs.take i) ++ [x] := ⟨⟨_⟩, rfl⟩
      have hz1 : d1.size = i + 1 := by rw [← Array.length_toList, hd1, hl1]
      have hgl : g < w1.heap.size := by
        rcases Nat.lt_or_ge g w1.heap.size with h1 | h1
        · exact h1
        · rw [Array.getElem?_eq_none h1] at hh; cases hh
      have hfl : inner = (flatK Cel.enc 9 d1).toList := reps_inj (f := Cel.enc) hrep (by have := flat_reps d1; rw [hd1] at this; exact this)
      have hHd : HoldsK Cel.enc 9 w1 g 0 d1 := holds_of hh d1 (by rw [size_flatK, hz1, ← hl1]; rw [hcs]; exact Nat.mul_le_mul_right _ hnc) (by rw [size_flatK, hz1, ← hl1]; exact htk.trans hfl)
      have RK : Hid (RowK Cel.enc k w1 g 0 d1) := by rw [HK9.out]; exact ⟨Cel.len, Cel.h1, hHd, hgl⟩
      have S0 : Aside (SWK Cel.enc k w1 g 0 d1 w1) := SWK.start RK.out.hH
      have HX2 : Hid (Below w.heap.size w w1 ∧ w.heap.size ≤ g ∧ w1.heap[g]? = some (.cells cur 32 (0, 0)) ∧ d1.size ≤ cap ∧ cap ≤ maxLen ∧ cur.size = cap * 9 ∧ d1.toList = isort (ltOf cmpCel) (cs.take i) ++ [x] ∧ d1.size = i + 1) := ⟨hb, hg, hh, by rw [hz1, ← hl1]; exact hnc, hcm, hcs, hd1, hz1⟩
      rw [hl1]
      have ci : i + 1 ≤ cap := by rw [← hl1]; exact hnc
      clear hb hgr hat hown hrep hl1 hg hh hnc hcm hcs htk hd1 hz1 hfl hHd HW LN K4 hld
      go_wp2_with fail
      go_loopg [5] i (fun kx s5 w2 => ∃ (j : Nat) (dj : Array Cel), s5 = .int .i64 j ∧ j ≤ i ∧ j ≤ kx ∧ dj.size = d1.size ∧ Aside (SWK Cel.enc k w1 g 0 dj w2) ∧ Hid (insInner (ltOf cmpCel) 0 j dj = insInner (ltOf cmpCel) 0 i d1))
      case atStart => exact ⟨i, d1, by go_num, Nat.le_refl _, Nat.le_refl _, rfl, S0, rfl⟩
      case round =>
        clear S0
        obtain ⟨j, dj, rfl, hji, hkx2, hsj, S1, HJ⟩ := hrel
        have out : (j ≤ 0 ∨ ltOf cmpCel dj[j]! dj[j - 1]! = false) → Hid (dj.toList = isort (ltOf cmpCel) (cs.take (i + 1))) := fun hs => by
          have h0 := HJ.out
          rw [insInner_stop _ _ _ _ hs] at h0
          have hl := insInner_list swoCel [] [] x i d1 (isort (ltOf cmpCel) (cs.take i)) [] (by rw [isort_len, List.length_take, ← HN.out]; omega) (isort_srt swoCel _) (by rw [HX2.out.2.2.2.2.2.2.1]; simp)
          rw [List.length_nil, Nat.zero_add] at hl
          show _ = _
          rw [h0, hl, List.take_add_one, HX.out, Option.toList_some, isort_snoc]
          simp
        have OUT : Aside _ := out
        clear out
        by_cases hj0 : 0 < j
        · obtain ⟨jp, rfl⟩ : ∃ jp, j = jp + 1 := ⟨j - 1, by omega⟩
          have hjz : (0 : Int) < (jp : Int) + 1 := by omega
          have hwp : IntKind.i64.wrap (jp : Int) = (jp : Int) := by rw [IntKind.wrap_i64]; omega
          have jz : (jp : Int) + 1 < (i : Int) + 1 := by omega
          have jz1 : (jp : Int) < (i : Int) + 1 := by omega
          have p0 : (0 : Int) ≤ (jp : Int) + 1 := by omega
          have e0 : ((jp : Int) + 1).toNat = jp + 1 := by omega
          have hzz := HX2.out.2.2.2.2.2.2.2
          obtain ⟨xj, hxj⟩ : ∃ x, x = dj[jp + 1]! := ⟨_, rfl⟩
          obtain ⟨xp, hxp⟩ : ∃ x, x = dj[jp]! := ⟨_, rfl⟩
          have la := S1.out.ld RK.out (by omega) P (jp + 1) (by omega)
          have lb := S1.out.ld RK.out (by omega) P jp (by omega)
          rw [← hxj] at la
          rw [← hxp] at lb
          simp only [Nat.zero_add] at la lb
          have hc : ∀ n os, Calls P 28 #[.agg xj.enc.toArray, .agg xp.enc.toArray] (grow (wr.drewN n) os) fun e w' => e = .returned (.bool (ltOf cmpCel xj xp)) ∧ ∃ q os', w' = grow ((grow (wr.drewN n) os).drewN q) os' := fun n os => HA.out xj xp _
          cases hv : ltOf cmpCel xj xp with
          | true =>
            have HV : Hid (ltOf cmpCel dj[jp + 1]! dj[jp]! = true) := by show _ = _; rw [← hxj, ← hxp]; exact hv
            rw [hv] at hc
            clear hv hxj hxp hzz OUT
            go_wp2_with fail
            go_quiet_grown (first | (go_at_fn 28; refine Calls.grown_of (hc _ _)))
            have S2 : Aside (SWK Cel.enc k w1 g 0 dj (grow (wr.drewN nq) osq)) := S1.out.grown nq osq
            clear la lb hc S1
            generalize grow (wr.drewN nq) osq = wu at S2 ⊢
            clear nq osq
            have hzz := HX2.out.2.2.2.2.2.2.2
            have S3 : Aside (SWK Cel.enc k w1 g 0 (swp dj (jp + 1) jp) ((wu.drew.setCells g (0 + (jp + 1) * k) (Cel.enc dj[jp]!)).setCells g (0 + jp * k) (Cel.enc dj[jp + 1]!))) := S2.out.swapped RK.out (jp + 1) jp (by omega) (by omega)
            have l44a := S2.out.ld1 RK.out (by omega) P (jp + 1) (by omega)
            have l44b := S2.out.ld1 RK.out (by omega) P jp (by omega)
            have s44a := S2.out.st1 RK.out (by omega) P (jp + 1) (by omega) dj[jp]!
            have s44b := S2.out.st2 RK.out (by omega) P (jp + 1) jp (by omega) (by omega) dj[jp]! dj[jp + 1]!
            have n44a : (Cel.enc dj[jp + 1]!).length = k := RK.out.hk _
            have n44b : (Cel.enc dj[jp]!).length = k := RK.out.hk _
            clear hzz
            generalize Cel.enc dj[jp + 1]! = cI44 at S3 l44a s44b n44a
            generalize Cel.enc dj[jp]! = cJ44 at S3 l44b s44a s44b n44b
            clear S2
            simp only [Nat.zero_add] at l44a l44b s44a s44b S3
            go_wp2_with fail
            go_big_region_o
            clear l44a l44b s44a s44b
            generalize (wu.drew.setCells g ((jp + 1) * k) cJ44).setCells g (jp * k) cI44 = w3 at S3 ⊢
            go_wp2_with fail
            go_roundg jp
            case measure => omega
            case rel => exact ⟨jp, swp dj (jp + 1) jp, by go_num, by omega, Nat.le_refl _, by rw [size_swp]; exact hsj, S3, by
              have := insInner_go (ltOf cmpCel) 0 (jp + 1) dj (by omega) (by simp only [Nat.add_sub_cancel]; exact HV.out)
              simp only [Nat.add_sub_cancel] at this
              show _ = _
              rw [← this]; exact HJ.out⟩
          | false =>
            have HL := OUT.out (Or.inr (by simp only [Nat.add_sub_cancel]; rw [← hxj, ← hxp]; exact hv))
            rw [hv] at hc
            clear hv hxj hxp hzz OUT
            go_wp2_with fail
            go_quiet_grown (first | (go_at_fn 28; refine Calls.grown_of (hc _ _)))
            have S2 : Aside (SWK Cel.enc k w1 g 0 dj (grow (wr.drewN nq) osq)) := S1.out.grown nq osq
            clear la lb hc S1
            generalize grow (wr.drewN nq) osq = wu at S2 ⊢
            clear nq osq
            have HE : Hid (Kd.R kCel 32 wu w.heap.size (fun _ => True) (.slice (some ⟨g, 0, none⟩) (i + 1) cap) (isort (ltOf cmpCel) (cs.take (i + 1))) ∧ Below w.heap.size w wu) := by
              have S3 := S2.out
              rw [HK9.out] at S3
              obtain ⟨x1, x2, x3, x4, x5, x6, x7, x8⟩ := HX2.out
              have h := own_back x1 x2 x3 x4 x5 x6 hsj S3
              rw [HL.out, x8] at h
              exact h
            clear S2
            go_wp2_with fail
            go_roundg (n - (i + 1))
            case measure => omega
            case rel => exact ⟨i + 1, by go_num, by omega, Nat.le_refl _, HE.out⟩
        · have hjz : ¬ (0 : Int) < (j : Int) := by omega
          have hjz2 : decide ((j : Int) > 0) = false := decide_eq_false (by omega)
          have HL := OUT.out (Or.inl (by omega))
          clear OUT
          have HE : Hid (∀ m, Kd.R kCel 32 (wr.drewN m) w.heap.size (fun _ => True) (.slice (some ⟨g, 0, none⟩) (i + 1) cap) (isort (ltOf cmpCel) (cs.take (i + 1))) ∧ Below w.heap.size w (wr.drewN m)) := by
            intro m
            have S3 := S1.out.drewN m
            rw [HK9.out] at S3
            obtain ⟨x1, x2, x3, x4, x5, x6, x7, x8⟩ := HX2.out
            have h := own_back x1 x2 x3 x4 x5 x6 hsj S3
            rw [HL.out, x8] at h
            exact h
          clear S1
          go_wp2_with fail
          go_big_region_o
          all_goals go_wp2_with fail
          go_roundg (n - (i + 1))
          case measure => omega
          case rel => exact ⟨i + 1, by go_num, by omega, Nat.le_refl _, HE.out 1⟩
    · go_wp2_with fail
      go_ret
      have hin2 : cs.take i = cs := List.take_of_length_le (by rw [← HN.out]; omega)
      have h1 := HW.out.1
      rw [hin2] at h1
      exact ⟨_, rfl, h1, HW.out.2⟩
end Go.Proofs.Ytjbfjgaghjggpaa.Srt
